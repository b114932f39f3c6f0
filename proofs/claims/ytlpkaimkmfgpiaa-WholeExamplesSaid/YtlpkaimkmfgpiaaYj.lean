/- YtlpkaimkmfgpiaaYj: a part of the proof (YtlpkaimkmfgpiaaA1, YtlpkaimkmfgpiaaA2, YtlpkaimkmfgpiaaA3). No condition. -/
import Derived.Test.YtlpkaimkmfgpiaaYi
import Derived.Test.YtlpkaimkmfgpiaaYe
set_option linter.unusedVariables false
set_option linter.unusedSimpArgs false
set_option linter.unusedSectionVars false
namespace Go.Proofs.Ytlpkaimkmfgpiaa.Ev
open Go.Abs Go.IntWalk

/-! ### Sizes -/
theorem Ln_of_nd {z : Int} {k : Nat} (h : nd z ≤ k) : Ln z ≤ k / 9 + 1 := by
  rw [Ln_le_iff]
  have h1 := (nd_le_iff z (k + 1) (by omega)).1 (by omega)
  have h2 : 10 ^ (k + 1) ≤ 10 ^ (9 * (k / 9 + 1)) := Nat.pow_le_pow_right (by omega) (by omega)
  rw [Nat.pow_mul] at h2
  exact Nat.lt_of_lt_of_le h1 h2

/-- At most 1000 digits. -/
def Sm (z : Int) : Prop := nd z ≤ 1000
instance (z : Int) : Decidable (Sm z) := inferInstanceAs (Decidable (nd z ≤ 1000))
theorem Sm.Ln {z : Int} (h : Sm z) : Ln z ≤ 112 := Ln_of_nd h
theorem longZ_iff {z : Int} : longZ z = true ↔ ¬ Sm z := by simp [longZ, Sm]
theorem longZ_false {z : Int} (h : Sm z) : longZ z = false := by
  cases hl : longZ z with
  | false => rfl
  | true => exact absurd h (longZ_iff.1 hl)
theorem Sm_iff (z : Int) : Sm z ↔ z.natAbs < 10 ^ 1000 := nd_le_iff z 1000 (by omega)
theorem Sm.mono {x y : Int} (h : Sm y) (hxy : x.natAbs ≤ y.natAbs) : Sm x := (Sm_iff x).2 (Nat.lt_of_le_of_lt hxy ((Sm_iff y).1 h))
theorem Sm.neg {x : Int} (h : Sm x) : Sm (-x) := h.mono (by omega)
theorem Sm_small {x : Int} (h : x.natAbs < 10000) : Sm x := (Sm_iff x).2 (Nat.lt_of_lt_of_le h (Nat.pow_le_pow_right (n := 10) (by omega) (show 4 ≤ 1000 by omega)))

/-- The integer of a text, or none. -/
def intOf (s : ByteArray) : Option Int := bif okText (bytesOf s) && !(longZ (numOf (bytesOf s))) then some (numOf (bytesOf s)) else none

theorem intOf_T10 {z : Int} (h : Sm z) : intOf (T10 z) = some z := by
  unfold intOf
  rw [bytesOf_T10, (okText_txtL z).1, (okText_txtL z).2, longZ_false h]
  rfl
theorem intOf_some {s : ByteArray} {z : Int} (h : intOf s = some z) : s = T10 z ∧ Sm z := by
  unfold intOf at h
  cases ho : okText (bytesOf s) with
  | false => rw [ho] at h; cases h
  | true =>
    cases hl : longZ (numOf (bytesOf s)) with
    | true => rw [ho, hl] at h; cases h
    | false =>
      rw [ho, hl] at h
      simp only [Bool.not_false, Bool.and_self, cond_true, Option.some.injEq] at h
      subst h
      refine ⟨bytesOf_inj (by rw [bytesOf_T10]; exact txtL_of_ok ho), ?_⟩
      by_cases hs : Sm (numOf (bytesOf s))
      · exact hs
      · rw [longZ_iff.2 hs] at hl; cases hl
theorem intOf_long {z : Int} (h : ¬ Sm z) : intOf (T10 z) = none := by
  cases hi : intOf (T10 z) with
  | none => rfl
  | some x =>
    obtain ⟨h1, h2⟩ := intOf_some hi
    rw [T10_inj h1] at h; exact absurd h2 h

/-! ### read -/
abbrev Vl := (Bool × List Int × Unit) × ByteArray × Unit
def rdl : List ByteArray → Option (List Vl)
  | [] => some []
  | s :: r => match intOf s with
    | none => none
    | some z => match rdl r with
      | none => none
      | some t => some ((W z, (s, ())) :: t)

def BigOk (s : ByteArray) : Prop := s.size ≤ 140737488355328

theorem numOf_Ln {s : ByteArray} (hs : BigOk s) (h : okText (bytesOf s) = true) : Ln (numOf (bytesOf s)) ≤ 20000000000000 := by
  have h1 := txtL_of_ok h
  have h2 : nd (numOf (bytesOf s)) ≤ s.size := by
    rw [← bytesOf_length, h1, (okText_txtL _).2]
    unfold nd txtL
    simp
  have := Ln_of_nd h2
  unfold BigOk at hs
  omega

theorem read_walk {l : List ByteArray} (hl : l.length ≤ 1000000000) (hs : ∀ s ∈ l, BigOk s) : ∀ (m k : Nat) (out : List Vl), m + k = l.length → out.length = k →
    whole_read_L0 l l l.length k out = match rdl (l.drop k) with
      | some t => some (out ++ t, true)
      | none => some ([], false) := by
  intro m
  induction m with
  | zero =>
    intro k out hk ho
    rw [whole_read_L0_eq, clt_f (by omega), List.drop_eq_nil_of_le (by omega)]
    have hc : (inCut out.length 0 (l.length : Int) && decide ((l.length : Int) ≤ (l.length : Int)) && decide ((l.length : Int) ≤ (out.length : Int))) = true := by
      rw [inCut_t (by omega) (by omega) (by omega), dle_t (by omega), dle_t (by omega)]; rfl
    rw [c_t hc]
    have : cut out 0 (l.length : Int) = out := by
      rw [cut0, Int.toNat_natCast]; exact List.take_of_length_le (by omega)
    rw [this]; simp [rdl]
  | succ m ih =>
    intro k out hk ho
    have hkl : k < l.length := by omega
    have hmem : l.getD k ByteArray.empty ∈ l := by
      rw [List.getD, List.getElem?_eq_getElem hkl]; exact List.getElem_mem hkl
    have hb := hs _ hmem
    have hd : l.drop k = l.getD k ByteArray.empty :: l.drop (k + 1) := by
      rw [List.drop_eq_getElem_cons hkl]; simp [List.getD, hkl]
    rw [whole_read_L0_eq, clt_t (by omega), idx_inD ByteArray.empty (by omega) (by omega), bS, Int.toNat_natCast, num_Read_ok hb, hd]
    simp only [rdl, intOf]
    cases hok : okText (bytesOf (l.getD k ByteArray.empty)) with
    | false =>
      simp only [Bool.false_and, cF, bS, Bool.not_false, cT]
    | true =>
      rw [cT, bS]
      simp only [Bool.not_true, cF, Bool.true_and]
      show (num_Whole_Long (W (numOf (bytesOf (l.getD k ByteArray.empty))))).bind _ = _
      rw [num_Whole_Long_ok (numOf_Ln hb hok), bS]
      cases hlong : longZ (numOf (bytesOf (l.getD k ByteArray.empty))) with
      | true => simp only [cT, Bool.not_true, cF]
      | false =>
        simp only [cF, Bool.not_false, cT]
        have ih' := fun out => ih (k + 1) out (by omega)
        simp only [Int.natCast_add, Int.natCast_one] at ih'
        have hl1 : ([((((W (numOf (bytesOf (l.getD k ByteArray.empty))), true) : (Bool × List Int × Unit) × Bool).1.1, ((((W (numOf (bytesOf (l.getD k ByteArray.empty))), true) : (Bool × List Int × Unit) × Bool).1.2.1, ()))), (l.getD k ByteArray.empty, ()))] : List Vl).length = 1 := rfl
        rw [cApp (by omega) (by rw [hl1]; omega), i64_in _ (by omega), ih' _ (by simp; omega)]
        cases rdl (l.drop (k + 1)) with
        | none => rfl
        | some t => simp

theorem whole_read_ok {l : List ByteArray} (hl : l.length ≤ 1000000000) (hs : ∀ s ∈ l, BigOk s) : whole_read l = match rdl l with
      | some t => some (t, true)
      | none => some ([], false) := by
  rw [whole_read_eq]
  simp (disch := omega) only [cMake]
  have := read_walk hl hs l.length 0 [] (by omega) rfl
  simp only [Int.natCast_zero, List.drop_zero, List.nil_append] at this
  exact this

theorem T10_big {z : Int} (h : Sm z) : BigOk (T10 z) := by
  unfold BigOk
  rw [T10_size]
  unfold Sm at h
  split <;> omega

theorem read1 {x : Int} (hx : Sm x) : whole_read [T10 x] = some ([(W x, (T10 x, ()))], true) := by
  rw [whole_read_ok (by simp) (fun s hs => by simp at hs; subst hs; exact T10_big hx)]
  simp only [rdl, intOf_T10 hx]
theorem read1_bad {a : ByteArray} (ha : BigOk a) (h : intOf a = none) : whole_read [a] = some ([], false) := by
  rw [whole_read_ok (by simp) (fun s hs => by simp at hs; subst hs; exact ha)]
  simp only [rdl, h]
theorem read2 {x y : Int} (hx : Sm x) (hy : Sm y) : whole_read [T10 x, T10 y] = some ([(W x, (T10 x, ())), (W y, (T10 y, ()))], true) := by
  rw [whole_read_ok (by simp) (fun s hs => by simp at hs; rcases hs with rfl | rfl; exact T10_big hx; exact T10_big hy)]
  simp only [rdl, intOf_T10 hx, intOf_T10 hy]
theorem read2_bad {a b : ByteArray} (ha : BigOk a) (hb : BigOk b) (h : intOf a = none ∨ intOf b = none) : whole_read [a, b] = some ([], false) := by
  rw [whole_read_ok (by simp) (fun s hs => by simp at hs; rcases hs with rfl | rfl; exact ha; exact hb)]
  simp only [rdl]
  cases h1 : intOf a with
  | none => rfl
  | some z =>
    rcases h with h | h
    · rw [h] at h1; cases h1
    · simp only [h]

/-- A result: a text without an error, or the error of a long one. -/
def resZ (z : Int) : ByteArray × Int := if Sm z then (T10 z, 0) else (ByteArray.empty, 3)

theorem whole_result_ok {z : Int} (hz : Ln z ≤ 10000000000) : whole_result (W z) = some (resZ z) := by
  rw [whole_result_eq]
  show (num_Whole_Long (W z)).bind _ = _
  rw [num_Whole_Long_ok (by omega), bS]
  unfold resZ
  by_cases h : Sm z
  · rw [longZ_false h, cF, if_pos h]
    show (num_Whole_Text (W z)).bind _ = _
    rw [num_Whole_Text_ok hz, bS]
  · rw [longZ_iff.2 h, cT, if_neg h]

theorem ix0 {x : Vl} {l : List Vl} : idx (x :: l) (0 : Int) = some x := rfl
theorem ix1 {x y : Vl} {l : List Vl} : idx (x :: y :: l) (1 : Int) = some y := rfl

section
variable {a b : ByteArray} {x y : Int} (ha : BigOk a) (hb : BigOk b) (hx : Sm x) (hy : Sm y)
include hx hy

theorem whole_Add_ok : whole_Add (T10 x) (T10 y) = some (resZ (x + y)) := by
  have h1 := hx.Ln
  have h2 := hy.Ln
  have h3 := Ln_add x y
  rw [whole_Add_eq, read2 hx hy, bS]
  simp only [Bool.not_true, cF, ix0, ix1, bS]
  show (num_Whole_Add (W x) (W y)).bind _ = _
  rw [num_Whole_Add_ok (by omega) (by omega), bS]
  show (whole_result (W (x + y))).bind _ = _
  rw [whole_result_ok (by omega), bS]

theorem whole_Sub_ok : whole_Sub (T10 x) (T10 y) = some (resZ (x - y)) := by
  have h1 := hx.Ln
  have h2 := hy.Ln
  have h3 := Ln_sub x y
  rw [whole_Sub_eq, read2 hx hy, bS]
  simp only [Bool.not_true, cF, ix0, ix1, bS]
  show (num_Whole_Sub (W x) (W y)).bind _ = _
  rw [num_Whole_Sub_ok (by omega) (by omega), bS]
  show (whole_result (W (x - y))).bind _ = _
  rw [whole_result_ok (by omega), bS]

theorem whole_Mul_ok : whole_Mul (T10 x) (T10 y) = some (resZ (x * y)) := by
  have h1 := hx.Ln
  have h2 := hy.Ln
  have h3 := Ln_mul x y
  rw [whole_Mul_eq, read2 hx hy, bS]
  simp only [Bool.not_true, cF, ix0, ix1, bS]
  show (num_Whole_Mul (W x) (W y)).bind _ = _
  rw [num_Whole_Mul_ok (by omega) (by omega), bS]
  show (whole_result (W (x * y))).bind _ = _
  rw [whole_result_ok (by omega), bS]

theorem whole_Cmp_ok : whole_Cmp (T10 x) (T10 y) = some (cmpI x y) := by
  have h1 := hx.Ln
  have h2 := hy.Ln
  rw [whole_Cmp_eq, read2 hx hy, bS]
  simp only [Bool.not_true, cF, ix0, ix1, bS]
  show (num_Whole_Cmp (W x) (W y)).bind _ = _
  rw [num_Whole_Cmp_ok (by omega) (by omega), bS]

theorem whole_DivMod_zero (h : y = 0) : whole_DivMod (T10 x) (T10 y) = some (ByteArray.empty, ByteArray.empty, 9) := by
  rw [whole_DivMod_eq, read2 hx hy, bS]
  simp only [Bool.not_true, cF, ix0, ix1, bS]
  show (num_Whole_Sign (W y)).bind _ = _
  rw [num_Whole_Sign_ok, bS, h, ceq_t (by rfl)]

omit hx hy in
theorem fdiv_natAbs_le (h : y ≠ 0) : (x.fdiv y).natAbs ≤ x.natAbs := by
  have h1 : x.fdiv y = x / y - if 0 ≤ y ∨ y ∣ x then 0 else 1 := Int.fdiv_eq_ediv
  have h2 := Int.mul_fdiv_add_fmod x y
  rcases Int.lt_or_lt_of_ne h with hy' | hy'
  · obtain ⟨e1, e2, e3⟩ := (Int.fdiv_fmod_unique' (a := x) (b := y) (r := x.fmod y) (q := x.fdiv y) hy').1 ⟨rfl, rfl⟩
    by_cases hq : x.fdiv y = 0
    · omega
    · by_cases hq1 : 0 < x.fdiv y
      · have : y * x.fdiv y ≤ (-1) * x.fdiv y := Int.mul_le_mul_of_nonneg_right (by omega) (by omega)
        omega
      · have h5 : (x.fdiv y + 1) * y ≥ 0 := Int.mul_nonneg_of_nonpos_of_nonpos (by omega) (by omega)
        have h6 : (x.fdiv y + 1) * y = y * x.fdiv y + y := by rw [Int.add_mul, Int.one_mul, Int.mul_comm]
        have h7 : y * (x.fdiv y + 1) ≥ (-1) * (x.fdiv y + 1) := Int.mul_le_mul_of_nonpos_right (by omega) (by omega)
        rw [Int.mul_comm y, h6] at h7
        omega
  · obtain ⟨e1, e2, e3⟩ := (Int.fdiv_fmod_unique (a := x) (b := y) (r := x.fmod y) (q := x.fdiv y) hy').1 ⟨rfl, rfl⟩
    by_cases hq : x.fdiv y = 0
    · omega
    · by_cases hq1 : 0 < x.fdiv y
      · have : 1 * x.fdiv y ≤ y * x.fdiv y := Int.mul_le_mul_of_nonneg_right (by omega) (by omega)
        omega
      · have h6 : y * (x.fdiv y + 1) = y * x.fdiv y + y := by rw [Int.mul_add, Int.mul_one]
        have h7 : y * (x.fdiv y + 1) ≤ 1 * (x.fdiv y + 1) := Int.mul_le_mul_of_nonpos_right (by omega) (by omega)
        rw [h6] at h7
        omega

omit hx hy in
theorem fmod_natAbs_lt (h : y ≠ 0) : (x.fmod y).natAbs < y.natAbs := by
  rcases Int.lt_or_lt_of_ne h with hy' | hy'
  · obtain ⟨e1, e2, e3⟩ := (Int.fdiv_fmod_unique' (a := x) (b := y) (r := x.fmod y) (q := x.fdiv y) hy').1 ⟨rfl, rfl⟩
    omega
  · obtain ⟨e1, e2, e3⟩ := (Int.fdiv_fmod_unique (a := x) (b := y) (r := x.fmod y) (q := x.fdiv y) hy').1 ⟨rfl, rfl⟩
    omega

theorem whole_DivMod_ok (h : y ≠ 0) : whole_DivMod (T10 x) (T10 y) = some (T10 (x.fdiv y), T10 (x.fmod y), 0) := by
  have h1 := hx.Ln
  have h2 := hy.Ln
  have h3 : Sm (x.fdiv y) := hx.mono (fdiv_natAbs_le h)
  have h4 : Sm (x.fmod y) := hy.mono (Nat.le_of_lt (fmod_natAbs_lt h))
  have h5 := h3.Ln
  have h6 := h4.Ln
  rw [whole_DivMod_eq, read2 hx hy, bS]
  simp only [Bool.not_true, cF, ix0, ix1, bS]
  show (num_Whole_Sign (W y)).bind _ = _
  rw [num_Whole_Sign_ok, bS, ceq_f (by unfold sgnI; split; omega; split <;> omega)]
  show (num_Whole_DivMod (W x) (W y)).bind _ = _
  rw [num_Whole_DivMod_ok (by omega) (by omega) h, bS]
  show (num_Whole_Long (W (x.fdiv y))).bind _ = _
  rw [num_Whole_Long_ok (by omega), bS, longZ_false h3, cF]
  show (num_Whole_Text (W (x.fdiv y))).bind _ = _
  rw [num_Whole_Text_ok (by omega), bS]
  show (num_Whole_Text (W (x.fmod y))).bind _ = _
  rw [num_Whole_Text_ok (by omega), bS]

theorem gcd_Sm : Sm ((Int.gcd x y : Nat) : Int) := by
  by_cases h : x = 0
  · subst h
    exact hy.mono (by simp)
  · refine hx.mono ?_
    have := Nat.gcd_le_left y.natAbs (show 0 < x.natAbs by omega)
    simpa [Int.gcd] using this

theorem whole_Gcd_ok : whole_Gcd (T10 x) (T10 y) = some (T10 ((Int.gcd x y : Nat) : Int), 0) := by
  have h1 := hx.Ln
  have h2 := hy.Ln
  have h3 := (gcd_Sm hx hy).Ln
  rw [whole_Gcd_eq, read2 hx hy, bS]
  simp only [Bool.not_true, cF, ix0, ix1, bS]
  show (num_Whole_Gcd (W x) (W y)).bind _ = _
  rw [num_Whole_Gcd_ok (by omega) (by omega), bS]
  show (num_Whole_Text (W ((Int.gcd x y : Nat) : Int))).bind _ = _
  rw [num_Whole_Text_ok (by omega), bS]
end

section
variable {x : Int} (hx : Sm x)
include hx
theorem whole_Neg_ok : whole_Neg (T10 x) = some (T10 (-x)) := by
  have h1 := hx.Ln
  rw [whole_Neg_eq, read1 hx, bS]
  simp only [Bool.not_true, cF, ix0, bS]
  show (num_Whole_Neg (W x)).bind _ = _
  rw [num_Whole_Neg_ok (by omega), bS]
  show (num_Whole_Text (W (-x))).bind _ = _
  rw [num_Whole_Text_ok (by rw [Ln_neg]; omega), bS]

theorem whole_Abs_ok : whole_Abs (T10 x) = some (T10 x.natAbs) := by
  have h1 := hx.Ln
  rw [whole_Abs_eq, read1 hx, bS]
  simp only [Bool.not_true, cF, ix0, bS]
  show (num_Whole_Sign (W x)).bind _ = _
  rw [num_Whole_Sign_ok, bS]
  by_cases h : x < 0
  · rw [clt_t (by unfold sgnI; rw [if_pos h]; omega)]
    show (num_Whole_Neg (W x)).bind _ = _
    rw [num_Whole_Neg_ok (by omega), bS]
    show (num_Whole_Text (W (-x))).bind _ = _
    rw [num_Whole_Text_ok (by rw [Ln_neg]; omega), bS]
    congr 2; omega
  · rw [clt_f (by unfold sgnI; rw [if_neg h]; split <;> omega)]
    congr 2; omega

theorem whole_Sign_ok : whole_Sign (T10 x) = some (sgnI x) := by
  rw [whole_Sign_eq, read1 hx, bS]
  simp only [Bool.not_true, cF, ix0, bS]
  show (num_Whole_Sign (W x)).bind _ = _
  rw [num_Whole_Sign_ok, bS]

theorem whole_Int64_ok : whole_Int64 (T10 x) = some (smallZ x) := by
  have h1 := hx.Ln
  rw [whole_Int64_eq, read1 hx, bS]
  simp only [Bool.not_true, cF, ix0, bS]
  show (num_Whole_Small (W x)).bind _ = _
  rw [num_Whole_Small_ok (by omega), bS]

theorem whole_Valid_ok : whole_Valid (T10 x) = some true := by
  rw [whole_Valid_eq, read1 hx, bS]
end

theorem whole_Of_ok {n : Int} (h0 : -9223372036854775808 ≤ n) (h1 : n ≤ 9223372036854775807) : whole_Of n = some (T10 n) := by
  rw [whole_Of_eq, num_Of_ok h0 h1, bS]
  show (num_Whole_Text (W n)).bind _ = _
  have : Ln n ≤ 3 := by rw [Ln_le_iff]; omega
  rw [num_Whole_Text_ok (by omega), bS]

/-! ### Texts that are no integers -/
section
variable {a b : ByteArray} (ha : BigOk a) (hb : BigOk b)
include ha
theorem whole_Neg_bad (h : intOf a = none) : whole_Neg a = some ByteArray.empty := by rw [whole_Neg_eq, read1_bad ha h, bS]; simp only [Bool.not_false, cT]
theorem whole_Abs_bad (h : intOf a = none) : whole_Abs a = some ByteArray.empty := by rw [whole_Abs_eq, read1_bad ha h, bS]; simp only [Bool.not_false, cT]
theorem whole_Sign_bad (h : intOf a = none) : whole_Sign a = some 0 := by rw [whole_Sign_eq, read1_bad ha h, bS]; simp only [Bool.not_false, cT]
theorem whole_Int64_bad (h : intOf a = none) : whole_Int64 a = some (0, false) := by rw [whole_Int64_eq, read1_bad ha h, bS]; simp only [Bool.not_false, cT]
theorem whole_Valid_bad (h : intOf a = none) : whole_Valid a = some false := by rw [whole_Valid_eq, read1_bad ha h, bS]
theorem whole_Root_bad (h : intOf a = none) : whole_Root a = some (ByteArray.empty, 1) := by rw [whole_Root_eq, read1_bad ha h, bS]; simp only [Bool.not_false, cT]
theorem whole_Pow_bad {n : Int} (h : intOf a = none) : whole_Pow a n = some (ByteArray.empty, 1) := by rw [whole_Pow_eq, read1_bad ha h, bS]; simp only [Bool.not_false, cT]
include hb
theorem whole_Add_bad (h : intOf a = none ∨ intOf b = none) : whole_Add a b = some (ByteArray.empty, 1) := by rw [whole_Add_eq, read2_bad ha hb h, bS]; simp only [Bool.not_false, cT]
theorem whole_Sub_bad (h : intOf a = none ∨ intOf b = none) : whole_Sub a b = some (ByteArray.empty, 1) := by rw [whole_Sub_eq, read2_bad ha hb h, bS]; simp only [Bool.not_false, cT]
theorem whole_Mul_bad (h : intOf a = none ∨ intOf b = none) : whole_Mul a b = some (ByteArray.empty, 1) := by rw [whole_Mul_eq, read2_bad ha hb h, bS]; simp only [Bool.not_false, cT]
theorem whole_Cmp_bad (h : intOf a = none ∨ intOf b = none) : whole_Cmp a b = some 0 := by rw [whole_Cmp_eq, read2_bad ha hb h, bS]; simp only [Bool.not_false, cT]
theorem whole_DivMod_bad (h : intOf a = none ∨ intOf b = none) : whole_DivMod a b = some (ByteArray.empty, ByteArray.empty, 1) := by rw [whole_DivMod_eq, read2_bad ha hb h, bS]; simp only [Bool.not_false, cT]
theorem whole_Gcd_bad (h : intOf a = none ∨ intOf b = none) : whole_Gcd a b = some (ByteArray.empty, 1) := by rw [whole_Gcd_eq, read2_bad ha hb h, bS]; simp only [Bool.not_false, cT]
theorem whole_Bezout_bad (h : intOf a = none ∨ intOf b = none) : whole_Bezout a b = some (ByteArray.empty, ByteArray.empty, ByteArray.empty, 1) := by rw [whole_Bezout_eq, read2_bad ha hb h, bS]; simp only [Bool.not_false, cT]
end
end Go.Proofs.Ytlpkaimkmfgpiaa.Ev
set_option linter.unusedVariables false
set_option linter.unusedSimpArgs false
set_option linter.unusedSectionVars false
namespace Go.Proofs.Ytlpkaimkmfgpiaa.Ev
open Go.Abs Go.IntWalk

/-! ### Pow -/
theorem pow_mono {x : Int} (hx : x ≠ 0) {a b : Nat} (h : a ≤ b) : (x ^ a).natAbs ≤ (x ^ b).natAbs := by
  rw [Int.natAbs_pow, Int.natAbs_pow]
  exact Nat.pow_le_pow_right (by omega) h

theorem Pow_walk {x : Int} (hx : Sm x) (hx0 : x ≠ 0) {n : Nat} (hn : n ≤ 9223372036854775807) : ∀ (m k : Nat), m + k = n → Sm (x ^ k) →
    whole_Pow_L0 [(W x, (T10 x, ()))] n k (W (x ^ k)).1 (W (x ^ k)).2.1 = some (resZ (x ^ n)) := by
  intro m
  induction m with
  | zero =>
    intro k hk hs
    have : k = n := by omega
    subst this
    have h1 := hs.Ln
    rw [whole_Pow_L0_eq, clt_f (by omega)]
    show (num_Whole_Text (W (x ^ k))).bind _ = _
    rw [num_Whole_Text_ok (by omega), bS]
    unfold resZ
    rw [if_pos hs]
  | succ m ih =>
    intro k hk hs
    have h1 := hs.Ln
    have h2 := hx.Ln
    have h3 := Ln_mul (x ^ k) x
    rw [whole_Pow_L0_eq, clt_t (by omega), ix0, bS]
    show (num_Whole_Mul (W (x ^ k)) (W x)).bind _ = _
    rw [num_Whole_Mul_ok (by omega) (by omega), bS]
    show (num_Whole_Long (W (x ^ k * x))).bind _ = _
    rw [num_Whole_Long_ok (by omega), bS, ← Int.pow_succ]
    by_cases hl : Sm (x ^ (k + 1))
    · rw [longZ_false hl, cF, i64_in _ (by omega)]
      have := ih (k + 1) (by omega) hl
      simp only [Int.natCast_add, Int.natCast_one] at this
      exact this
    · rw [longZ_iff.2 hl, cT]
      have : ¬ Sm (x ^ n) := fun h => hl (h.mono (pow_mono hx0 (by omega)))
      unfold resZ
      rw [if_neg this]

theorem whole_Pow_neg {x n : Int} (hx : Sm x) (hn : n < 0) : whole_Pow (T10 x) n = some (ByteArray.empty, 1) := by
  rw [whole_Pow_eq, read1 hx, bS]
  simp only [Bool.not_true, cF]
  rw [clt_t hn]

theorem one_pow' (n : Nat) : (1 : Int) ^ n = 1 := Int.one_pow
theorem neg_one_even (n : Nat) (h : n % 2 = 0) : (-1 : Int) ^ n = 1 := by
  obtain ⟨k, rfl⟩ : ∃ k, n = 2 * k := ⟨n / 2, by omega⟩
  rw [Int.pow_mul]; exact Int.one_pow
theorem neg_one_odd (n : Nat) (h : n % 2 = 1) : (-1 : Int) ^ n = -1 := by
  obtain ⟨k, rfl⟩ : ∃ k, n = 2 * k + 1 := ⟨n / 2, by omega⟩
  rw [Int.pow_succ, Int.pow_mul]
  have : ((-1 : Int) ^ 2) ^ k = 1 := Int.one_pow
  rw [this]; rfl

theorem whole_Pow_ok {x : Int} (hx : Sm x) {n : Nat} (hn : n ≤ 9223372036854775807) : whole_Pow (T10 x) n = some (resZ (x ^ n)) := by
  have h2 := hx.Ln
  have h1 : Sm 1 := Sm_small (by decide)
  have hL1 : Ln 1 ≤ 112 := h1.Ln
  have hLa : Ln (x.natAbs : Int) ≤ 112 := (hx.mono (x := x.natAbs) (by omega)).Ln
  rw [whole_Pow_eq, read1 hx, bS]
  simp only [Bool.not_true, cF]
  rw [clt_f (by omega), num_Of_ok (by omega) (by omega), bS, ix0, bS]
  show (num_Whole_Abs (W x)).bind _ = _
  rw [num_Whole_Abs_ok, bS]
  show (num_Whole_Cmp (W (x.natAbs : Int)) (W 1)).bind _ = _
  rw [num_Whole_Cmp_ok (by omega) (by omega), bS]
  by_cases h : (x.natAbs : Int) ≤ 1
  · have hc : cmpI (x.natAbs : Int) 1 ≤ 0 := by
      unfold cmpI; split
      · omega
      · rw [if_neg (by omega)]; omega
    rw [cle_t hc]
    by_cases hn0 : n = 0
    · subst hn0
      rw [ceq_t (by rfl)]
      show (num_Whole_Text (W 1)).bind _ = _
      rw [num_Whole_Text_ok (by omega), bS, Int.pow_zero]
      unfold resZ
      rw [if_pos h1]
    · rw [ceq_f (by omega), tmod_in (by omega)]
      by_cases he : n % 2 = 0
      · rw [ceq_t (by omega), bS]
        show (num_Whole_Abs (W x)).bind _ = _
        rw [num_Whole_Abs_ok, bS]
        show (num_Whole_Text (W (x.natAbs : Int))).bind _ = _
        rw [num_Whole_Text_ok (by omega), bS]
        have : x ^ n = (x.natAbs : Int) := by
          rcases (show x = 0 ∨ x = 1 ∨ x = -1 by omega) with rfl | rfl | rfl
          · exact Int.zero_pow hn0
          · exact Int.one_pow
          · exact neg_one_even n he
        rw [this]
        unfold resZ
        rw [if_pos (hx.mono (by omega))]
      · rw [ceq_f (by omega)]
        have : x ^ n = x := by
          rcases (show x = 0 ∨ x = 1 ∨ x = -1 by omega) with rfl | rfl | rfl
          · exact Int.zero_pow hn0
          · exact Int.one_pow
          · exact neg_one_odd n (by omega)
        rw [this]
        unfold resZ
        rw [if_pos hx]
  · have hc : ¬ cmpI (x.natAbs : Int) 1 ≤ 0 := by
      rw [cmpI_gt (by omega)]; omega
    rw [cle_f hc, bS]
    have := Pow_walk hx (by omega) hn n 0 (by omega) (by rw [Int.pow_zero]; exact h1)
    rw [Int.pow_zero] at this
    exact this

/-! ### Root -/
def IsRoot (r a : Int) : Prop := 0 ≤ r ∧ r * r ≤ a ∧ a < (r + 1) * (r + 1)
theorem root_ex : ∀ a : Nat, ∃ r : Int, IsRoot r a := by
  intro a
  induction a with
  | zero => exact ⟨0, by omega, by omega, by omega⟩
  | succ a ih =>
    obtain ⟨r, h0, h1, h2⟩ := ih
    by_cases h : (r + 1) * (r + 1) ≤ (a + 1 : Nat)
    · refine ⟨r + 1, by omega, h, ?_⟩
      have e1 : (r + 1 + 1) * (r + 1 + 1) = (r + 1) * (r + 1) + 2 * r + 3 := by
        rw [Int.add_mul (r + 1) 1, Int.mul_add (r + 1), Int.mul_one, Int.one_mul]; omega
      omega
    · exact ⟨r, h0, by omega, by omega⟩
theorem root_unique {r s a : Int} (hr : IsRoot r a) (hs : IsRoot s a) : r = s := by
  have key : ∀ {r s : Int}, IsRoot r a → IsRoot s a → ¬ r < s := fun {r s} hr hs h => by
    have h1 : (r + 1) * (r + 1) ≤ s * s := Int.mul_le_mul (by omega) (by omega) (by have := hr.1; omega) (by have := hs.1; omega)
    have := hr.2.2
    have := hs.2.1
    omega
  have h1 := key hr hs
  have h2 := key hs hr
  omega

theorem root_le {r a x : Int} (hr : IsRoot r a) (hx : 0 ≤ x) (h : a ≤ x * x) : r ≤ x := by
  by_cases hc : r ≤ x
  · exact hc
  · exfalso
    have h1 : (x + 1) * (x + 1) ≤ r * r := Int.mul_le_mul (by omega) (by omega) (by omega) hr.1
    have h2 : (x + 1) * (x + 1) = x * x + 2 * x + 1 := by rw [Int.add_mul, Int.mul_add, Int.mul_one, Int.one_mul]; omega
    have := hr.2.1
    omega

/-- Newton's step stays above the root. -/
theorem newton {r a x : Int} (hr : IsRoot r a) (hx : 0 < x) : r ≤ (x + a / x) / 2 := by
  by_cases hc : r ≤ (x + a / x) / 2
  · exact hc
  · exfalso
    have h1 : x + a / x + 1 ≤ 2 * r := by omega
    have h2 := Int.mul_ediv_add_emod a x
    have h3 := Int.emod_lt_of_pos a hx
    have h4 : x * (a / x + 1) ≤ x * (2 * r - x) := Int.mul_le_mul_of_nonneg_left (by omega) (by omega)
    have h5 : 0 ≤ (r - x) * (r - x) := by
      by_cases h : 0 ≤ r - x
      · exact Int.mul_nonneg h h
      · have := Int.mul_nonneg (show 0 ≤ x - r by omega) (show 0 ≤ x - r by omega)
        have e : (r - x) * (r - x) = (x - r) * (x - r) := by rw [← Int.neg_mul_neg, Int.neg_sub]
        omega
    have h6 : (r - x) * (r - x) = r * r - x * (2 * r - x) := by
      rw [Int.sub_mul, Int.mul_sub, Int.mul_sub, Int.mul_sub, Int.mul_comm r x, Int.mul_left_comm x 2 r]; omega
    rw [Int.mul_add, Int.mul_one] at h4
    have := hr.2.1
    omega

theorem sq_lt {x y : Int} (hx : 0 ≤ x) (h : x < y) : x * x < y * y := by
  have h1 : (x + 1) * (x + 1) ≤ y * y := Int.mul_le_mul (by omega) (by omega) (by omega) (by omega)
  have h2 : (x + 1) * (x + 1) = x * x + 2 * x + 1 := by rw [Int.add_mul, Int.mul_add, Int.mul_one, Int.one_mul]; omega
  omega

theorem cmp_lt_iff {x y : Int} : cmpI x y < 0 ↔ x < y := by
  unfold cmpI
  by_cases h1 : x < y
  · rw [if_pos h1]; omega
  · rw [if_neg h1]; split <;> omega
theorem cmp_gt_iff {x y : Int} : cmpI x y > 0 ↔ x > y := by
  unfold cmpI
  by_cases h1 : x < y
  · rw [if_pos h1]; omega
  · rw [if_neg h1]; split <;> omega

theorem Root_L1_walk {a r : Int} (ha : Sm a) (ha0 : 0 ≤ a) (hr : IsRoot r a) : ∀ (n : Nat) (x : Int), x.toNat = n → r ≤ x → Ln x ≤ 200 →
    whole_Root_L1 [(W a, (T10 a, ()))] (W x).1 (W x).2.1 (W 2).1 (W 2).2.1 = some (T10 r, 0) := by
  intro n
  induction n using Nat.strongRecOn with
  | ind n ih =>
    intro x hn hrx hL
    have h1 := ha.Ln
    have h0 := hr.1
    have h3 := Ln_mul x x
    rw [whole_Root_L1_eq]
    show (num_Whole_Mul (W x) (W x)).bind _ = _
    rw [num_Whole_Mul_ok (by omega) (by omega), bS, ix0, bS]
    show (num_Whole_Cmp (W (x * x)) (W a)).bind _ = _
    rw [num_Whole_Cmp_ok (by omega) (by omega), bS]
    by_cases hc : x * x > a
    · rw [cgt_t (cmp_gt_iff.2 hc), bS]
      have hx0 : 0 < x := by
        by_cases h : 0 < x
        · exact h
        · have : x = 0 := by omega
          subst this; omega
      show (num_Whole_DivMod (W a) (W x)).bind _ = _
      have e1 : a.fdiv x = a / x := Int.fdiv_eq_ediv_of_nonneg a (by omega)
      rw [num_Whole_DivMod_ok (by omega) (by omega) (by omega), bS, e1]
      have hq : a / x < x := Int.ediv_lt_of_lt_mul hx0 hc
      have hq0 : 0 ≤ a / x := Int.ediv_nonneg ha0 (by omega)
      have hLq : Ln (a / x) ≤ Ln x := Ln_mono (by omega)
      have hLs := Ln_add x (a / x)
      show (num_Whole_Add (W x) (W (a / x))).bind _ = _
      rw [num_Whole_Add_ok (by omega) (by omega), bS]
      show (num_Whole_DivMod (W (x + a / x)) (W 2)).bind _ = _
      have hL2 : Ln 2 ≤ 1 := Ln_small (by decide)
      have e2 : (x + a / x).fdiv 2 = (x + a / x) / 2 := Int.fdiv_eq_ediv_of_nonneg _ (by omega)
      rw [num_Whole_DivMod_ok (by omega) (by omega) (by omega), bS, e2]
      have hlt : (x + a / x) / 2 < x := by omega
      exact ih ((x + a / x) / 2).toNat (by omega) _ rfl (newton hr hx0) (by have := Ln_mono (x := (x + a / x) / 2) (y := x) (by omega); omega)
    · rw [cgt_f (fun h => hc (cmp_gt_iff.1 h))]
      have hxr : x = r := by
        by_cases h : x = r
        · exact h
        · exfalso
          have h5 : (r + 1) * (r + 1) ≤ x * x := Int.mul_le_mul (by omega) (by omega) (by omega) (by omega)
          have := hr.2.2
          omega
      show (num_Whole_Text (W x)).bind _ = _
      rw [num_Whole_Text_ok (by omega), bS, hxr]

theorem Root_L0_walk {a r : Int} (ha : Sm a) (ha0 : 0 ≤ a) (hr : IsRoot r a) : ∀ (n : Nat) (x : Int), (1000 * a + 1000 - x).toNat = n → 1 ≤ x → x ≤ 1000 * a + 1000 →
    whole_Root_L0 [(W a, (T10 a, ()))] (W x).1 (W x).2.1 (W 2).1 (W 2).2.1 = some (T10 r, 0) := by
  have h1 := ha.Ln
  have hL1000 : Ln 1000 ≤ 1 := Ln_small (by decide)
  have hbig : Ln (1000 * a + 1000) ≤ 120 := by
    have e1 := Ln_mul 1000 a
    have e2 := Ln_add (1000 * a) 1000
    omega
  intro n
  induction n using Nat.strongRecOn with
  | ind n ih =>
    intro x hn hx1 hx2
    have hL : Ln x ≤ 120 := by
      have := Ln_mono (x := x) (y := 1000 * a + 1000) (by omega)
      omega
    have h3 := Ln_mul x x
    rw [whole_Root_L0_eq]
    show (num_Whole_Mul (W x) (W x)).bind _ = _
    rw [num_Whole_Mul_ok (by omega) (by omega), bS, ix0, bS]
    show (num_Whole_Cmp (W (x * x)) (W a)).bind _ = _
    rw [num_Whole_Cmp_ok (by omega) (by omega), bS]
    by_cases hc : x * x < a
    · rw [clt_t (cmp_lt_iff.2 hc), num_Of_ok (by omega) (by omega), bS]
      show (num_Whole_Mul (W x) (W 1000)).bind _ = _
      rw [num_Whole_Mul_ok (by omega) (by omega), bS]
      have hxa : x < a := by
        have : x * 1 ≤ x * x := Int.mul_le_mul_of_nonneg_left (by omega) (by omega)
        omega
      exact ih (1000 * a + 1000 - x * 1000).toNat (by omega) _ rfl (by omega) (by omega)
    · rw [clt_f (fun h => hc (cmp_lt_iff.1 h))]
      exact Root_L1_walk ha ha0 hr _ x rfl (root_le hr (by omega) (by omega)) (by omega)

theorem whole_Root_ok {a r : Int} (ha : Sm a) (hr : IsRoot r a) : whole_Root (T10 a) = some (T10 r, 0) := by
  have ha0 : 0 ≤ a := by
    have := hr.2.1
    have := Int.mul_nonneg hr.1 hr.1
    omega
  rw [whole_Root_eq, read1 ha, bS]
  simp only [Bool.not_true, cF, ix0, bS]
  show (num_Whole_Sign (W a)).bind _ = _
  rw [num_Whole_Sign_ok, bS, clt_f (by unfold sgnI; rw [if_neg (by omega)]; split <;> omega), num_Of_ok (by omega) (by omega), bS, num_Of_ok (by omega) (by omega), bS]
  exact Root_L0_walk ha ha0 hr _ 1 rfl (by omega) (by omega)

theorem whole_Root_neg {a : Int} (ha : Sm a) (h : a < 0) : whole_Root (T10 a) = some (ByteArray.empty, 1) := by
  rw [whole_Root_eq, read1 ha, bS]
  simp only [Bool.not_true, cF, ix0, bS]
  show (num_Whole_Sign (W a)).bind _ = _
  rw [num_Whole_Sign_ok, bS, clt_t (by unfold sgnI; rw [if_pos h]; omega)]

/-! ### Sum -/
def sumL : List ByteArray → Option Int
  | [] => some 0
  | s :: r => match intOf s with
    | none => none
    | some z => match sumL r with
      | none => none
      | some t => some (z + t)

theorem sumL_rdl : ∀ l : List ByteArray, (sumL l).isSome = (rdl l).isSome
  | [] => rfl
  | s :: r => by
    have := sumL_rdl r
    simp only [sumL, rdl]
    cases intOf s with
    | none => rfl
    | some z =>
      cases h1 : sumL r <;> cases h2 : rdl r <;> rw [h1, h2] at this <;> first | rfl | cases this

theorem rdl_length : ∀ (l : List ByteArray) (t : List Vl), rdl l = some t → t.length = l.length
  | [], t, h => by simp only [rdl, Option.some.injEq] at h; subst h; rfl
  | s :: r, t, h => by
    simp only [rdl] at h
    split at h
    · cases h
    · split at h
      · cases h
      · rename_i t' ht'
        simp only [Option.some.injEq] at h
        subst h
        simp [rdl_length r t' ht']

def zero_Vl : Vl := ((false, [], ()), (ByteArray.empty, ()))

theorem Sum_walk {l : List ByteArray} {t : List Vl} (hl : l.length ≤ 1000000) (ht : rdl l = some t) : ∀ (m k : Nat) (z : Int), m + k = l.length → Ln z ≤ 200 + k → ∀ s, sumL (l.drop k) = some s →
    whole_Sum_L0 t t.length k (W z).1 (W z).2.1 = some (resZ (z + s)) := by
  have htl := rdl_length l t ht
  -- the elements read
  have hdrop : ∀ k, rdl (l.drop k) = some (t.drop k) := by
    intro k
    induction k with
    | zero => simpa using ht
    | succ k ih =>
      by_cases hk : k < l.length
      · rw [List.drop_eq_getElem_cons hk] at ih
        simp only [rdl] at ih
        split at ih
        · cases ih
        · split at ih
          · cases ih
          · rename_i z hz t' ht'
            simp only [Option.some.injEq] at ih
            have : t.drop (k + 1) = t' := by
              have e : (t.drop k).drop 1 = t' := by rw [← ih]; rfl
              rw [List.drop_drop] at e; exact e
            rw [this, ht']
      · rw [List.drop_eq_nil_of_le (by omega), List.drop_eq_nil_of_le (by omega)]; rfl
  intro m
  induction m with
  | zero =>
    intro k z hk hL s hs
    rw [List.drop_eq_nil_of_le (by omega)] at hs
    simp only [sumL, Option.some.injEq] at hs
    subst hs
    rw [whole_Sum_L0_eq, clt_f (by omega)]
    show (whole_result (W z)).bind _ = _
    rw [whole_result_ok (by omega), bS, Int.add_zero]
  | succ m ih =>
    intro k z hk hL s hs
    have hkl : k < l.length := by omega
    have hr := hdrop k
    rw [List.drop_eq_getElem_cons hkl] at hs hr
    simp only [sumL] at hs
    simp only [rdl] at hr
    cases hi : intOf l[k] with
    | none => rw [hi] at hs; cases hs
    | some x =>
      rw [hi] at hs hr
      simp only at hs hr
      have hx := (intOf_some hi).2
      have hLx := hx.Ln
      cases hs1 : sumL (l.drop (k + 1)) with
      | none => rw [hs1] at hs; cases hs
      | some s' =>
        rw [hs1] at hs
        simp only [Option.some.injEq] at hs
        rw [hdrop (k + 1)] at hr
        simp only [Option.some.injEq] at hr
        have hidx : idx t (k : Int) = some (W x, (l[k], ())) := by
          show t[k]? = _
          have : (t.drop k)[0]? = some (W x, (l[k], ())) := by rw [← hr]; rfl
          rw [List.getElem?_drop] at this
          simpa using this
        have hLa := Ln_add z x
        rw [whole_Sum_L0_eq, clt_t (by omega), hidx, bS]
        show (num_Whole_Add (W z) (W x)).bind _ = _
        rw [num_Whole_Add_ok (by omega) (by omega), bS, i64_in _ (by omega)]
        have := ih (k + 1) (z + x) (by omega) (by omega) s' hs1
        simp only [Int.natCast_add, Int.natCast_one] at this
        rw [this, ← hs, Int.add_assoc]

theorem whole_Sum_ok {l : List ByteArray} (hl : l.length ≤ 1000000) (hb : ∀ s ∈ l, BigOk s) : whole_Sum l = match sumL l with
    | some s => some (resZ s)
    | none => some (ByteArray.empty, 1) := by
  rw [whole_Sum_eq, whole_read_ok (by omega) hb]
  have hrs := sumL_rdl l
  cases ht : rdl l with
  | none =>
    rw [ht] at hrs
    cases hs : sumL l with
    | none => simp only [bS, Bool.not_false, cT]
    | some s => rw [hs] at hrs; cases hrs
  | some t =>
    rw [ht] at hrs
    cases hs : sumL l with
    | none => rw [hs] at hrs; cases hrs
    | some s =>
      simp only [bS, Bool.not_true, cF]
      have := Sum_walk hl ht l.length 0 0 (by omega) (by have := (Ln_zero_iff 0).2 rfl; omega) s (by simpa using hs)
      have e1 : (W 0).1 = false := rfl
      have e2 : (W 0).2.1 = [] := dig_zero _
      rw [Int.zero_add, e1, e2] at this
      simp only [Int.natCast_zero] at this
      exact this
end Go.Proofs.Ytlpkaimkmfgpiaa.Ev
set_option linter.unusedVariables false
set_option linter.unusedSimpArgs false
set_option linter.unusedSectionVars false
namespace Go.Proofs.Ytlpkaimkmfgpiaa.Ev
open Go.Abs Go.IntWalk

/-! ### Bezout -/
/-- What Euclid's algorithm keeps. -/
structure BI (x y r s k m : Int) : Prop where
  d : ∀ e : Int, (e ∣ r ∧ e ∣ s) ↔ (e ∣ x ∧ e ∣ y)
  e1 : y ∣ r - x * k
  e2 : y ∣ s - x * m
  f : k.natAbs * s.natAbs + m.natAbs * r.natAbs = y.natAbs
  sg : 0 ≤ r * s ∨ m = 0
  sk : k * m ≤ 0
  rz : r = 0 → m = 0

theorem BI.start {x y : Int} : BI x y x y 1 0 where
  d e := Iff.rfl
  e1 := by rw [Int.mul_one, Int.sub_self]; exact Int.dvd_zero _
  e2 := by rw [Int.mul_zero, Int.sub_zero]; exact Int.dvd_refl _
  f := by simp
  sg := .inr rfl
  sk := by omega
  rz _ := rfl

theorem BI.step {x y r s k m : Int} (h : BI x y r s k m) (hs : s ≠ 0) : BI x y s (r.fmod s) m (k - r.fdiv s * m) := by
  have hdm := Int.mul_fdiv_add_fmod r s
  obtain ⟨q, hq⟩ : ∃ q, q = r.fdiv s := ⟨_, rfl⟩
  obtain ⟨t, ht⟩ : ∃ t, t = r.fmod s := ⟨_, rfl⟩
  have ht' : (0 < s ∧ 0 ≤ t ∧ t < s) ∨ (s < 0 ∧ s < t ∧ t ≤ 0) := by
    rcases Int.lt_or_lt_of_ne hs with h1 | h1
    · obtain ⟨_, a, b⟩ := (Int.fdiv_fmod_unique' (a := r) (b := s) (r := r.fmod s) (q := r.fdiv s) h1).1 ⟨rfl, rfl⟩
      exact .inr ⟨h1, by omega, by omega⟩
    · obtain ⟨_, a, b⟩ := (Int.fdiv_fmod_unique (a := r) (b := s) (r := r.fmod s) (q := r.fdiv s) h1).1 ⟨rfl, rfl⟩
      exact .inl ⟨h1, by omega, by omega⟩
  rw [← hq, ← ht] at hdm ⊢
  -- the signs of the quotient and of the factors
  have hsg : m = 0 ∨ (0 ≤ q ∧ r.natAbs = q.natAbs * s.natAbs + t.natAbs) := by
    rcases h.sg with h1 | h1
    · right
      have hq0 : 0 ≤ q := by
        by_cases hc : 0 ≤ q
        · exact hc
        · exfalso
          rcases ht' with ⟨a, b, c⟩ | ⟨a, b, c⟩
          · have h3 : s * q ≤ s * (-1) := Int.mul_le_mul_of_nonneg_left (by omega) (by omega)
            have h4 : r ≤ -1 := by omega
            have h5 : r * s ≤ (-1) * s := Int.mul_le_mul_of_nonneg_right h4 (by omega)
            omega
          · have h3 : s * q ≥ s * (-1) := Int.mul_le_mul_of_nonpos_left (by omega) (by omega)
            have h4 : r ≥ 1 := by omega
            have h5 : r * s ≤ 1 * s := Int.mul_le_mul_of_nonpos_right h4 (by omega)
            omega
      refine ⟨hq0, ?_⟩
      have h6 : (s * q).natAbs = q.natAbs * s.natAbs := by rw [Int.natAbs_mul, Nat.mul_comm]
      rw [← h6]
      rcases ht' with ⟨a, b, c⟩ | ⟨a, b, c⟩
      · have := Int.mul_nonneg (show 0 ≤ s by omega) hq0
        omega
      · have := Int.mul_nonpos_of_nonpos_of_nonneg (show s ≤ 0 by omega) hq0
        omega
    · exact .inl h1
  refine ⟨fun e => ?_, h.e2, ?_, ?_, ?_, ?_, fun e => absurd e hs⟩
  · rw [← h.d e]
    constructor
    · rintro ⟨a, b⟩
      exact ⟨by rw [← hdm]; exact Int.dvd_add (Int.dvd_mul_of_dvd_left a) b, a⟩
    · rintro ⟨a, b⟩
      refine ⟨b, ?_⟩
      have : t = r - s * q := by omega
      rw [this]; exact Int.dvd_sub a (Int.dvd_mul_of_dvd_left b)
  · have h1 : t - x * (k - q * m) = (r - x * k) - q * (s - x * m) := by
      rw [Int.mul_sub, Int.mul_sub, Int.mul_left_comm q x m, Int.mul_comm q s]; omega
    rw [h1]
    exact Int.dvd_sub h.e1 (Int.dvd_mul_of_dvd_right h.e2)
  · have hf := h.f
    rcases hsg with h1 | ⟨h1, h2⟩
    · subst h1
      simp only [Int.natAbs_zero, Nat.zero_mul, Nat.add_zero, Nat.zero_add, Int.mul_zero, Int.sub_zero] at hf ⊢
      exact hf
    · have h3 : (k - q * m).natAbs = k.natAbs + q.natAbs * m.natAbs := by
        have h4 : (q * m).natAbs = q.natAbs * m.natAbs := Int.natAbs_mul _ _
        rw [← h4]
        have hsk := h.sk
        by_cases hm0 : 0 ≤ m
        · have hqm := Int.mul_nonneg h1 hm0
          by_cases hk : k ≤ 0
          · omega
          · have : m = 0 := by
              by_cases hm1 : m = 0
              · exact hm1
              · exfalso
                have := Int.mul_pos (show 0 < k by omega) (show 0 < m by omega)
                omega
            subst this
            simp
        · have hqm := Int.mul_nonpos_of_nonneg_of_nonpos h1 (show m ≤ 0 by omega)
          by_cases hk : 0 ≤ k
          · omega
          · exfalso
            have := Int.mul_pos_of_neg_of_neg (show k < 0 by omega) (show m < 0 by omega)
            omega
      rw [h3, Nat.add_mul, ← hf, h2, Nat.mul_add, Nat.mul_comm q.natAbs m.natAbs, Nat.mul_assoc]
      omega
  · left
    rcases ht' with ⟨a, b, c⟩ | ⟨a, b, c⟩
    · exact Int.mul_nonneg (by omega) b
    · exact Int.mul_nonneg_of_nonpos_of_nonpos (by omega) c
  · rcases hsg with h1 | ⟨h1, h2⟩
    · subst h1; simp
    · have h3 : m * (k - q * m) = k * m - q * (m * m) := by rw [Int.mul_sub, Int.mul_comm m k, Int.mul_left_comm m q m]
      have h4 : 0 ≤ m * m := by
        by_cases hm : 0 ≤ m
        · exact Int.mul_nonneg hm hm
        · exact Int.mul_nonneg_of_nonpos_of_nonpos (by omega) (by omega)
      have h5 := Int.mul_nonneg h1 h4
      have := h.sk
      omega

/-- The end: the last remainder but one is the divisor, up to its sign. -/
theorem BI.gcd {x y r k m : Int} (h : BI x y r 0 k m) : r.natAbs = Int.gcd x y := by
  have h1 := (h.d r).1 ⟨Int.dvd_refl _, Int.dvd_zero _⟩
  have h2 := (h.d ((Int.gcd x y : Nat) : Int)).2 ⟨Int.gcd_dvd_left .., Int.gcd_dvd_right ..⟩
  apply Nat.dvd_antisymm
  · exact Nat.dvd_gcd (Int.natAbs_dvd_natAbs.2 h1.1) (Int.natAbs_dvd_natAbs.2 h1.2)
  · have := Int.natAbs_dvd_natAbs.2 h2.1
    rwa [Int.natAbs_natCast] at this

/-- What Bezout has to find. -/
def IsBez (x y X Y : Int) : Prop := x * X + y * Y = (Int.gcd x y : Nat) ∧ 0 ≤ X ∧ X * (Int.gcd x y : Nat) < y.natAbs

theorem bez_unique {x y X Y X' Y' : Int} (hy : y ≠ 0) (h : IsBez x y X Y) (h' : IsBez x y X' Y') : X = X' ∧ Y = Y' := by
  obtain ⟨g, hg⟩ : ∃ g : Nat, g = Int.gcd x y := ⟨_, rfl⟩
  have hgpos : 0 < g := by rw [hg]; exact Int.gcd_pos_of_ne_zero_right _ hy
  unfold IsBez at h h'
  rw [← hg] at h h'
  obtain ⟨a1, a2, a3⟩ := h
  obtain ⟨b1, b2, b3⟩ := h'
  have hX : X = X' := by
    -- y / g divides the difference
    have hgx : (g : Int) ∣ x := by rw [hg]; exact Int.gcd_dvd_left ..
    have hgy : (g : Int) ∣ y := by rw [hg]; exact Int.gcd_dvd_right ..
    have h1 : x * (X - X') = y * (Y' - Y) := by rw [Int.mul_sub, Int.mul_sub]; omega
    -- g (X - X') is a multiple of y: g = x X + y Y
    have h2 : y ∣ (g : Int) * (X - X') := by
      rw [← a1, Int.add_mul, Int.mul_assoc, Int.mul_assoc, Int.mul_comm X, ← Int.mul_assoc, h1, Int.mul_assoc]
      exact Int.dvd_add (Int.dvd_mul_right _ _) (Int.dvd_mul_right _ _)
    have h3 : (y.natAbs : Int) ∣ (g : Int) * (X - X') := Int.natAbs_dvd.2 h2
    obtain ⟨c, hc⟩ := h3
    rw [Int.mul_sub, Int.mul_comm _ X, Int.mul_comm _ X'] at hc
    have h5 : 0 ≤ X * g := Int.mul_nonneg a2 (by omega)
    have h6 : 0 ≤ X' * g := Int.mul_nonneg b2 (by omega)
    have hc0 : c = 0 := by
      by_cases h7 : c ≥ 1
      · exfalso
        have := Int.mul_le_mul_of_nonneg_left h7 (show (0 : Int) ≤ y.natAbs by omega)
        omega
      · by_cases h8 : c ≤ -1
        · exfalso
          have := Int.mul_le_mul_of_nonneg_left h8 (show (0 : Int) ≤ y.natAbs by omega)
          omega
        · omega
    subst hc0
    have h9 : X * g = X' * g := by omega
    exact Int.eq_of_mul_eq_mul_right (by omega) h9
  refine ⟨hX, ?_⟩
  subst hX
  have : y * Y = y * Y' := by omega
  exact Int.eq_of_mul_eq_mul_left hy this

/-- The last step: the factor modulo the period. -/
theorem bez_end {x y k : Int} (hy : y ≠ 0) {g : Nat} (hg : g = Int.gcd x y) (hk : y ∣ (g : Int) - x * k) :
    IsBez x y (k.fmod ((y.natAbs : Int).fdiv g)) (((g : Int) - x * (k.fmod ((y.natAbs : Int).fdiv g))).fdiv y) := by
  have hgpos : 0 < g := by rw [hg]; exact Int.gcd_pos_of_ne_zero_right _ hy
  have hgx : (g : Int) ∣ x := by rw [hg]; exact Int.gcd_dvd_left ..
  have hgy : (g : Int) ∣ y.natAbs := Int.dvd_natAbs.2 (by rw [hg]; exact Int.gcd_dvd_right ..)
  have e1 : (y.natAbs : Int).fdiv g = (y.natAbs : Int) / g := Int.fdiv_eq_ediv_of_nonneg _ (by omega)
  obtain ⟨p, hp⟩ := hgy
  have hpe : (y.natAbs : Int) / g = p := by rw [hp]; exact Int.mul_ediv_cancel_left _ (by omega)
  have hppos : 0 < p := by
    by_cases h : 0 < p
    · exact h
    · exfalso
      have := Int.mul_nonpos_of_nonneg_of_nonpos (show (0 : Int) ≤ g by omega) (show p ≤ 0 by omega)
      omega
  rw [e1, hpe]
  have e2 : k.fmod p = k % p := Int.fmod_eq_emod_of_nonneg _ (by omega)
  rw [e2]
  have h0 := Int.emod_nonneg k (show p ≠ 0 by omega)
  have h1 := Int.emod_lt_of_pos k hppos
  have hdm := Int.mul_ediv_add_emod k p
  -- y divides g - x X
  have hdvd : y ∣ (g : Int) - x * (k % p) := by
    obtain ⟨c, hc⟩ := hgx
    have h2 : x * (k % p) = x * k - x * (p * (k / p)) := by rw [← Int.mul_sub]; congr 1; omega
    have h3 : x * (p * (k / p)) = (y.natAbs : Int) * (c * (k / p)) := by
      rw [hc, hp, Int.mul_assoc, Int.mul_assoc, Int.mul_left_comm c p]
    rw [h2]
    have h4 : (g : Int) - (x * k - x * (p * (k / p))) = ((g : Int) - x * k) + x * (p * (k / p)) := by omega
    rw [h4, h3]
    exact Int.dvd_add hk (Int.dvd_mul_of_dvd_left (Int.dvd_natAbs_self))
  refine ⟨?_, h0, ?_⟩
  · obtain ⟨c, hc⟩ := hdvd
    have : ((g : Int) - x * (k % p)).fdiv y = c := by rw [hc]; exact Int.mul_fdiv_cancel_left _ hy
    rw [this, ← hg]
    omega
  · rw [← hg]
    have h5 : (k % p) * g < p * g := Int.mul_lt_mul_of_pos_right h1 (by omega)
    rw [hp, Int.mul_comm (g : Int) p]
    exact h5

theorem IsBez.Sm {x y X Y : Int} (hx : Sm x) (hy : Sm y) (hy0 : y ≠ 0) (h : IsBez x y X Y) : Sm X := by
  obtain ⟨h1, h2, h3⟩ := h
  have hgpos : 0 < Int.gcd x y := Int.gcd_pos_of_ne_zero_right _ hy0
  have h4 : X * 1 ≤ X * (Int.gcd x y : Nat) := Int.mul_le_mul_of_nonneg_left (by omega) h2
  exact hy.mono (by omega)

theorem Bez_walk {x y : Int} (hx : Sm x) (hy : Sm y) (hy0 : y ≠ 0) : ∀ (n : Nat) (r s k m : Int), s.natAbs = n → BI x y r s k m → Sm r → Sm s → k.natAbs ≤ y.natAbs →
    ∃ X Y, whole_Bezout_L0 (W x).1 (W x).2.1 (W y).1 (W y).2.1 (W r).1 (W r).2.1 (W s).1 (W s).2.1 (W k).1 (W k).2.1 (W m).1 (W m).2.1 = some (T10 ((Int.gcd x y : Nat) : Int), T10 X, T10 Y, 0) ∧ IsBez x y X Y := by
  intro n
  induction n using Nat.strongRecOn with
  | ind n ih =>
    intro r s k m hn hI hr hs hkb
    have hLx := hx.Ln
    have hLy := hy.Ln
    have hLr := hr.Ln
    have hLs := hs.Ln
    have hLk := (hy.mono hkb).Ln
    rw [whole_Bezout_L0_eq]
    simp only [W_eta, num_Whole_Sign_ok, bS]
    by_cases h : s = 0
    · subst h
      rw [cne_f (by rfl)]
      have hg := hI.gcd
      have hLg := (gcd_Sm hx hy).Ln
      -- the rest for the divisor and a factor
      have fin : ∀ (k' : Int), k'.natAbs ≤ y.natAbs → y ∣ ((Int.gcd x y : Nat) : Int) - x * k' → ∀ (K : Option (ByteArray × ByteArray × ByteArray × Int)),
          K = ((num_Whole_Abs (W y)).bind fun r7 =>
            (num_Whole_DivMod (r7.1, (r7.2.1, ())) (W ((Int.gcd x y : Nat) : Int))).bind fun r8 =>
            (num_Whole_DivMod (W k') (r8.1.1, (r8.1.2.1, ()))).bind fun r9 =>
            (num_Whole_Mul (W x) (r9.2.1, (r9.2.2.1, ()))).bind fun r10 =>
            (num_Whole_Sub (W ((Int.gcd x y : Nat) : Int)) (r10.1, (r10.2.1, ()))).bind fun r11 =>
            (num_Whole_DivMod (r11.1, (r11.2.1, ())) (W y)).bind fun r12 =>
            (num_Whole_Text (W ((Int.gcd x y : Nat) : Int))).bind fun r13 =>
            (num_Whole_Text (r9.2.1, (r9.2.2.1, ()))).bind fun r14 =>
            (num_Whole_Text (r12.1.1, (r12.1.2.1, ()))).bind fun r15 =>
            some (r13, r14, r15, (0 : Int))) → ∃ X Y, K = some (T10 ((Int.gcd x y : Nat) : Int), T10 X, T10 Y, 0) ∧ IsBez x y X Y := fun k' hk' hd K hK => by
        subst hK
        have hgpos : 0 < Int.gcd x y := Int.gcd_pos_of_ne_zero_right _ hy0
        have hend := bez_end hy0 rfl hd
        have hLk' := (hy.mono hk').Ln
        have hLay : Ln (y.natAbs : Int) ≤ 112 := (hy.mono (x := y.natAbs) (by omega)).Ln
        have hLp : Ln ((y.natAbs : Int).fdiv (Int.gcd x y : Nat)) ≤ 112 := by
          have := Ln_mono (fdiv_natAbs_le (x := (y.natAbs : Int)) (y := ((Int.gcd x y : Nat) : Int)) (by omega))
          omega
        have hp0 : (y.natAbs : Int).fdiv (Int.gcd x y : Nat) ≠ 0 := by
          obtain ⟨p, hp⟩ : ((Int.gcd x y : Nat) : Int) ∣ y.natAbs := Int.dvd_natAbs.2 (Int.gcd_dvd_right ..)
          rw [hp, Int.mul_fdiv_cancel_left _ (by omega)]
          intro e; subst e; simp at hp; exact hy0 (by omega)
        have hLX := (hend.Sm hx hy hy0).Ln
        refine ⟨_, _, ?_, hend⟩
        rw [num_Whole_Abs_ok, bS]
        show (num_Whole_DivMod (W (y.natAbs : Int)) (W ((Int.gcd x y : Nat) : Int))).bind _ = _
        rw [num_Whole_DivMod_ok (by omega) (by omega) (by omega), bS]
        show (num_Whole_DivMod (W k') (W ((y.natAbs : Int).fdiv (Int.gcd x y : Nat)))).bind _ = _
        rw [num_Whole_DivMod_ok (by omega) (by omega) hp0, bS]
        generalize hX : k'.fmod ((y.natAbs : Int).fdiv (Int.gcd x y : Nat)) = X at *
        show (num_Whole_Mul (W x) (W X)).bind _ = _
        have hLm := Ln_mul x X
        have hLd := Ln_sub ((Int.gcd x y : Nat) : Int) (x * X)
        rw [num_Whole_Mul_ok (by omega) (by omega), bS]
        show (num_Whole_Sub (W ((Int.gcd x y : Nat) : Int)) (W (x * X))).bind _ = _
        rw [num_Whole_Sub_ok (by omega) (by omega), bS]
        show (num_Whole_DivMod (W (((Int.gcd x y : Nat) : Int) - x * X)) (W y)).bind _ = _
        rw [num_Whole_DivMod_ok (by omega) (by omega) hy0, bS, num_Whole_Text_ok (by omega), bS]
        show (num_Whole_Text (W X)).bind _ = _
        rw [num_Whole_Text_ok (by omega), bS]
        have hLY : Ln ((((Int.gcd x y : Nat) : Int) - x * X).fdiv y) ≤ 1000 := by
          have h1 : ((((Int.gcd x y : Nat) : Int) - x * X).fdiv y).natAbs ≤ (((Int.gcd x y : Nat) : Int) - x * X).natAbs := fdiv_natAbs_le hy0
          have := Ln_mono h1
          omega
        show (num_Whole_Text (W ((((Int.gcd x y : Nat) : Int) - x * X).fdiv y))).bind _ = _
        rw [num_Whole_Text_ok (by omega), bS]
      by_cases hneg : r < 0
      · rw [clt_t (by unfold sgnI; rw [if_pos hneg]; omega)]
        have hgr : ((Int.gcd x y : Nat) : Int) = -r := by omega
        refine fin (-k) (by omega) ?_ _ ?_
        · have h1 : ((Int.gcd x y : Nat) : Int) - x * -k = -(r - x * k) := by rw [hgr, Int.mul_neg]; omega
          rw [h1]; exact Int.dvd_neg.2 hI.e1
        · rw [num_Whole_Neg_ok (by omega), bS]
          simp only [W_eta]
          rw [num_Whole_Neg_ok (by omega), bS, hgr]
          try simp only [W_eta]
      · rw [clt_f (by unfold sgnI; rw [if_neg hneg]; split <;> omega)]
        have hgr : ((Int.gcd x y : Nat) : Int) = r := by omega
        refine fin k (by omega) (by rw [hgr]; exact hI.e1) _ ?_
        rw [hgr]
    · rw [cne_t (by unfold sgnI; split; omega; split <;> omega)]
      have hst := hI.step h
      have hlt := fmod_natAbs_lt (x := r) h
      have hq := fdiv_natAbs_le (x := r) h
      have hmb : m.natAbs ≤ y.natAbs := by
        have hf' := hI.f
        by_cases hr0 : r = 0
        · rw [hI.rz hr0]; simp
        · have h3 : m.natAbs * 1 ≤ m.natAbs * r.natAbs := Nat.mul_le_mul_left _ (by omega)
          omega
      have hLm := (hy.mono hmb).Ln
      have hLq := Ln_mono hq
      have hLqm := Ln_mul (r.fdiv s) m
      rw [num_Whole_DivMod_ok (by omega) (by omega) h, bS]
      simp only [W_eta]
      rw [num_Whole_Mul_ok (by omega) (by omega), bS]
      simp only [W_eta]
      rw [num_Whole_Sub_ok (by omega) (by omega), bS]
      exact ih _ (by omega) s (r.fmod s) m (k - r.fdiv s * m) rfl hst hs (hs.mono (by omega)) hmb

theorem whole_Bezout_ok {x y : Int} (hx : Sm x) (hy : Sm y) (hy0 : y ≠ 0) : ∃ X Y, whole_Bezout (T10 x) (T10 y) = some (T10 ((Int.gcd x y : Nat) : Int), T10 X, T10 Y, 0) ∧ IsBez x y X Y := by
  rw [whole_Bezout_eq, read2 hx hy, bS]
  simp only [Bool.not_true, cF, ix0, ix1, bS, W_eta, num_Whole_Sign_ok]
  rw [ceq_f (by unfold sgnI; split; omega; split <;> omega), num_Of_ok (by omega) (by omega), bS, num_Of_ok (by omega) (by omega), bS]
  exact Bez_walk hx hy hy0 _ x y 1 0 rfl BI.start hx hy (by omega)

theorem whole_Bezout_zero {x : Int} (hx : Sm x) : whole_Bezout (T10 x) (T10 0) = some (T10 x.natAbs, T10 (sgnI x), T10 0, 0) := by
  have h0 : Sm 0 := Sm_small (by decide)
  have hL := (hx.mono (x := x.natAbs) (by omega)).Ln
  have hs : -1 ≤ sgnI x ∧ sgnI x ≤ 1 := by unfold sgnI; split; omega; split <;> omega
  rw [whole_Bezout_eq, read2 hx h0, bS]
  simp only [Bool.not_true, cF, ix0, ix1, bS, W_eta, num_Whole_Sign_ok]
  rw [ceq_t (by rfl), num_Whole_Abs_ok, bS]
  simp only [W_eta]
  rw [num_Whole_Text_ok (by omega), bS, whole_Of_ok (by omega) (by omega), bS]
  rfl
end Go.Proofs.Ytlpkaimkmfgpiaa.Ev
