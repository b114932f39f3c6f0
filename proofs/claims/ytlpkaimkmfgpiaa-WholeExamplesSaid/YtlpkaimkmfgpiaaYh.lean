/- YtlpkaimkmfgpiaaYh: a part of the proof (YtlpkaimkmfgpiaaN1, YtlpkaimkmfgpiaaN2, YtlpkaimkmfgpiaaN3, YtlpkaimkmfgpiaaN4, YtlpkaimkmfgpiaaN5). No condition. -/
import Derived.Test.YtlpkaimkmfgpiaaYc
import Derived.Test.YtlpkaimkmfgpiaaYe
import Derived.Laws.Bits64
set_option linter.unusedVariables false
set_option linter.unusedSimpArgs false
namespace Go.Proofs.Ytlpkaimkmfgpiaa.Ev
open Go.Abs Go.IntWalk

abbrev VU (d : List Int) : Int := val 1000000000 d
abbrev DU (d : List Int) : Prop := Dig 1000000000 d
abbrev dU (n : Nat) : List Int := dig 1000000000 n
theorem dU_D (n : Nat) : DU (dU n) := dig_Dig (B := 1000000000) (by omega) n
theorem VU_d (n : Nat) : VU (dU n) = n := val_dig (B := 1000000000) (by omega) n
theorem trimU {d : List Int} (h : DU d) : trimL d = dU (VU d).toNat := trimL_dig (B := 1000000000) (by omega) d h
theorem VU_nonneg {d : List Int} (h : DU d) : 0 ≤ VU d := val_nonneg (by omega) h
/-- An integer as the program has it. -/
def W (z : Int) : Bool × List Int × Unit := (decide (z < 0), dU z.natAbs, ())

/-! ### trim, signed -/
theorem trim_walk : ∀ (n : Nat) (d : List Int), d.length = n → n ≤ 1000000000000000 → num_trim_L0 d = some (trimL d) := by
  intro n
  induction n with
  | zero =>
    intro d hd hn
    have : d = [] := List.length_eq_zero_iff.1 hd
    subst this
    rw [num_trim_L0_eq]; rfl
  | succ n ih =>
    intro d hd hn
    obtain ⟨d', y, rfl⟩ : ∃ d' y, d = d' ++ [y] := by
      have hne : d ≠ [] := fun e => by rw [e] at hd; cases hd
      exact ⟨d.dropLast, d.getLast hne, (List.dropLast_concat_getLast hne).symm⟩
    have hl : d'.length = n := by simpa using hd
    have hy : (d' ++ [y]).getD d'.length 0 = y := by simp [List.getD]
    have ht : (d' ++ [y]).take d'.length = d' := by simp
    rw [num_trim_L0_eq]
    simp only [List.length_append, List.length_cons, List.length_nil]
    simp (disch := omega) only [i64_in, dgt_t, cond_true, inCut_t, cut0]
    rw [idx_in (by omega) (by simp; omega)]
    have e : (((d'.length + (0 + 1) : Nat) : Int) - 1).toNat = d'.length := by omega
    rw [e, hy, ht]
    simp only [Option.bind_some]
    by_cases h0 : y = 0
    · subst h0
      rw [trimL_snoc0, ih d' hl (by omega)]; rfl
    · rw [beq_f h0, trimL_snoc h0]; rfl

theorem num_trim_ok {d : List Int} (h : d.length ≤ 1000000000000000) : num_trim d = some (trimL d) := by
  rw [num_trim_eq]; exact trim_walk _ d rfl h

theorem num_signed_ok {neg : Bool} {d : List Int} (hd : DU d) (h : d.length ≤ 1000000000000000) : num_signed neg d = some (W (bif neg then -VU d else VU d)) := by
  rw [num_signed_eq, num_trim_ok h, trimU hd]
  have hv := VU_nonneg hd
  obtain ⟨v, hv'⟩ := Int.eq_ofNat_of_zero_le hv
  rw [hv']
  simp only [Option.bind_some, Int.toNat_natCast]
  have hl : (0 < (dU v).length) ↔ 0 < v := by
    have := dig_length_lt (B := 1000000000) (by omega) 0 v
    rw [Nat.pow_zero] at this
    exact this
  cases neg with
  | true =>
    have e : decide (((dU v).length : Int) > 0) = decide (-(v : Int) < 0) := decide_eq_decide.2 ⟨fun h => by have := hl.1 (by omega); omega, fun h => by have := hl.2 (by omega); omega⟩
    simp only [cond_true, W, Int.natAbs_neg, Int.natAbs_natCast, e]
  | false =>
    simp only [cond_false, W, Int.natAbs_natCast]
    rw [dlt_f (by omega)]

/-! ### plus -/
def plusL : List Int → List Int → Int → List Int
  | [], _, c => [c]
  | x :: xs, [], c => (x + c) % 1000000000 :: plusL xs [] ((x + c) / 1000000000)
  | x :: xs, y :: ys, c => (x + c + y) % 1000000000 :: plusL xs ys ((x + c + y) / 1000000000)

theorem plus_walk {a b : List Int} (ha : DU a) (hb : DU b) (hl : a.length ≤ 1000000000000) : ∀ (m k : Nat) (c : Int) (out : List Int), m + k = a.length → out.length = k → 0 ≤ c → c ≤ 1 →
    num_plus_L0 b c a a.length k out = some (out ++ plusL (a.drop k) (b.drop k) c) := by
  intro m
  induction m with
  | zero =>
    intro k c out hk ho h0 h1
    rw [num_plus_L0_eq]
    simp (disch := omega) only [dlt_f, cond_false, okApp_t, cond_true, drop_nil, plusL]
  | succ m ih =>
    intro k c out hk ho h0 h1
    have hx := ha.getD (by omega) k
    have hy := hb.getD (by omega) k
    rw [num_plus_L0_eq]
    simp (disch := omega) only [dlt_t, cond_true, idx_in, Option.bind_some, Int.toNat_natCast]
    rw [drop_eq (show k < a.length by omega)]
    by_cases hkb : k < b.length
    · rw [drop_eq hkb]
      have ih' := fun c out => ih (k + 1) c out (by omega)
      simp only [Int.natCast_add, Int.natCast_one] at ih'
      simp (disch := omega) only [dlt_t, cond_true, idx_in, Option.bind_some, Int.toNat_natCast, u32_in, u32_quo, tmod_in, okApp_t, i64_in]
      rw [ih' _ _ (by simp; omega) (by omega) (by omega)]
      simp [plusL]
    · rw [drop_nil (show b.length ≤ k by omega)]
      have ih' := fun c out => ih (k + 1) c out (by omega)
      simp only [Int.natCast_add, Int.natCast_one] at ih'
      simp (disch := omega) only [dlt_f, cond_false, cond_true, Option.bind_some, Int.toNat_natCast, u32_in, u32_quo, tmod_in, okApp_t, i64_in]
      rw [ih' _ _ (by simp; omega) (by omega) (by omega), drop_nil (show b.length ≤ k + 1 by omega)]
      simp [plusL]

theorem plusL_val : ∀ (a b : List Int) (c : Int), b.length ≤ a.length → DU a → DU b → 0 ≤ c → c ≤ 1 →
    VU (plusL a b c) = VU a + VU b + c ∧ DU (plusL a b c) ∧ (plusL a b c).length = a.length + 1
  | [], [], c, hl, ha, hb, h0, h1 => by
    simp only [plusL]
    refine ⟨by simp [VU, val], Dig.cons (by omega) (by omega) Dig.nil, by simp⟩
  | [], y :: ys, c, hl, ha, hb, h0, h1 => by simp at hl
  | x :: xs, [], c, hl, ha, hb, h0, h1 => by
    have hx := ha.head
    obtain ⟨e1, e2, e3⟩ := plusL_val xs [] ((x + c) / 1000000000) (by simp) ha.tail Dig.nil (by omega) (by omega)
    simp only [plusL]
    refine ⟨?_, Dig.cons (by omega) (by omega) e2, by simp [e3]⟩
    simp only [VU, val] at e1 ⊢
    rw [e1]; omega
  | x :: xs, y :: ys, c, hl, ha, hb, h0, h1 => by
    have hx := ha.head
    have hy := hb.head
    obtain ⟨e1, e2, e3⟩ := plusL_val xs ys ((x + c + y) / 1000000000) (by simp at hl; omega) ha.tail hb.tail (by omega) (by omega)
    simp only [plusL]
    refine ⟨?_, Dig.cons (by omega) (by omega) e2, by simp [e3]⟩
    simp only [VU, val] at e1 ⊢
    rw [e1]; omega

theorem num_plus_ok {a b : List Int} (ha : DU a) (hb : DU b) (hl : a.length ≤ 1000000000000) (hl' : b.length ≤ 1000000000000) :
    ∃ r, num_plus a b = some r ∧ VU r = VU a + VU b ∧ DU r ∧ r.length ≤ max a.length b.length + 1 := by
  by_cases h : a.length < b.length
  · obtain ⟨e1, e2, e3⟩ := plusL_val b a 0 (by omega) hb ha (by omega) (by omega)
    refine ⟨plusL b a 0, ?_, by omega, e2, by omega⟩
    rw [num_plus_eq]
    have := plus_walk hb ha hl' b.length 0 0 [] (by omega) rfl (by omega) (by omega)
    simp (disch := omega) only [dlt_t, cond_true, i64_in, okMake_t]
    simpa using this
  · obtain ⟨e1, e2, e3⟩ := plusL_val a b 0 (by omega) ha hb (by omega) (by omega)
    refine ⟨plusL a b 0, ?_, by omega, e2, by omega⟩
    rw [num_plus_eq]
    have := plus_walk ha hb hl a.length 0 0 [] (by omega) rfl (by omega) (by omega)
    simp (disch := omega) only [dlt_f, cond_false, cond_true, i64_in, okMake_t]
    simpa using this

/-! ### minus -/
def minusL : List Int → List Int → Int → List Int
  | [], _, _ => []
  | x :: xs, [], c => if x < c then (x + 1000000000 - c) :: minusL xs [] 1 else (x - c) :: minusL xs [] 0
  | x :: xs, y :: ys, c => if x < c + y then (x + 1000000000 - (c + y)) :: minusL xs ys 1 else (x - (c + y)) :: minusL xs ys 0

theorem minus_walk {a b : List Int} (ha : DU a) (hb : DU b) (hl : a.length ≤ 1000000000000) : ∀ (m k : Nat) (c : Int) (out : List Int), m + k = a.length → out.length = k → 0 ≤ c → c ≤ 1 →
    num_minus_L0 b c a a.length k out = some (out ++ minusL (a.drop k) (b.drop k) c) := by
  intro m
  induction m with
  | zero =>
    intro k c out hk ho h0 h1
    rw [num_minus_L0_eq]
    simp (disch := omega) only [dlt_f, cond_false, drop_nil, minusL, List.append_nil]
  | succ m ih =>
    intro k c out hk ho h0 h1
    have hx := ha.getD (by omega) k
    have hy := hb.getD (by omega) k
    have ih' := fun c out => ih (k + 1) c out (by omega)
    simp only [Int.natCast_add, Int.natCast_one] at ih'
    rw [num_minus_L0_eq]
    simp (disch := omega) only [dlt_t, cond_true, idx_in, Option.bind_some, Int.toNat_natCast]
    rw [drop_eq (show k < a.length by omega)]
    by_cases hkb : k < b.length
    · rw [drop_eq hkb]
      by_cases hlt : a.getD k 0 < c + b.getD k 0
      · simp (disch := omega) only [dlt_t, cond_true, idx_in, Option.bind_some, Int.toNat_natCast, u32_in, okApp_t, i64_in]
        rw [ih' _ _ (by simp; omega) (by omega) (by omega)]
        simp only [minusL, if_pos hlt]; simp
      · simp (disch := omega) only [dlt_t, cond_true, idx_in, Option.bind_some, Int.toNat_natCast, u32_in, okApp_t, i64_in]
        rw [dlt_f hlt]
        simp (disch := omega) only [cond_false, cond_true, u32_in, okApp_t, i64_in]
        rw [ih' _ _ (by simp; omega) (by omega) (by omega)]
        simp only [minusL, if_neg hlt]; simp
    · rw [drop_nil (show b.length ≤ k by omega)]
      have hd : b.drop (k + 1) = [] := drop_nil (by omega)
      rw [dlt_f (show ¬ (k : Int) < b.length by omega)]
      by_cases hlt : a.getD k 0 < c
      · simp (disch := omega) only [dlt_t, cond_false, cond_true, u32_in, okApp_t, i64_in]
        rw [ih' _ _ (by simp; omega) (by omega) (by omega), hd]
        simp only [minusL, if_pos hlt]; simp
      · rw [dlt_f hlt]
        simp (disch := omega) only [cond_false, cond_true, u32_in, okApp_t, i64_in]
        rw [ih' _ _ (by simp; omega) (by omega) (by omega), hd]
        simp only [minusL, if_neg hlt]; simp

theorem minusL_val : ∀ (a b : List Int) (c : Int), b.length ≤ a.length → DU a → DU b → 0 ≤ c → c ≤ 1 →
    ∃ c', 0 ≤ c' ∧ VU (minusL a b c) = VU a - VU b - c + c' * 1000000000 ^ a.length ∧ DU (minusL a b c) ∧ (minusL a b c).length = a.length
  | [], [], c, hl, ha, hb, h0, h1 => ⟨c, h0, by simp [minusL, VU, val]; omega, Dig.nil, rfl⟩
  | [], y :: ys, c, hl, ha, hb, h0, h1 => by simp at hl
  | x :: xs, [], c, hl, ha, hb, h0, h1 => by
    have hx := ha.head
    have key : ∀ d : Int, (0 ≤ d ∧ d ≤ 1) → ∃ c', 0 ≤ c' ∧ VU (minusL xs [] d) = VU xs - d + c' * 1000000000 ^ xs.length ∧ DU (minusL xs [] d) ∧ (minusL xs [] d).length = xs.length := fun d hd => by
      obtain ⟨c', h2, h3, h4, h5⟩ := minusL_val xs [] d (by simp) ha.tail Dig.nil hd.1 hd.2
      exact ⟨c', h2, by simpa [VU, val] using h3, h4, h5⟩
    simp only [minusL]
    split
    · obtain ⟨c', h2, h3, h4, h5⟩ := key 1 ⟨by omega, by omega⟩
      refine ⟨c', h2, ?_, Dig.cons (by omega) (by omega) h4, by simp [h5]⟩
      simp only [VU, val, List.length_cons, Int.pow_succ] at h3 ⊢
      rw [← Int.mul_assoc, h3]; omega
    · obtain ⟨c', h2, h3, h4, h5⟩ := key 0 ⟨by omega, by omega⟩
      refine ⟨c', h2, ?_, Dig.cons (by omega) (by omega) h4, by simp [h5]⟩
      simp only [VU, val, List.length_cons, Int.pow_succ] at h3 ⊢
      rw [← Int.mul_assoc, h3]; omega
  | x :: xs, y :: ys, c, hl, ha, hb, h0, h1 => by
    have hx := ha.head
    have hy := hb.head
    simp only [minusL]
    split
    · obtain ⟨c', h2, h3, h4, h5⟩ := minusL_val xs ys 1 (by simp at hl; omega) ha.tail hb.tail (by omega) (by omega)
      refine ⟨c', h2, ?_, Dig.cons (by omega) (by omega) h4, by simp [h5]⟩
      simp only [VU, val, List.length_cons, Int.pow_succ] at h3 ⊢
      rw [← Int.mul_assoc, h3]; omega
    · obtain ⟨c', h2, h3, h4, h5⟩ := minusL_val xs ys 0 (by simp at hl; omega) ha.tail hb.tail (by omega) (by omega)
      refine ⟨c', h2, ?_, Dig.cons (by omega) (by omega) h4, by simp [h5]⟩
      simp only [VU, val, List.length_cons, Int.pow_succ] at h3 ⊢
      rw [← Int.mul_assoc, h3]; omega

theorem num_minus_ok {a b : List Int} (ha : DU a) (hb : DU b) (hl : a.length ≤ 1000000000000) (hba : b.length ≤ a.length) (hv : VU b ≤ VU a) :
    ∃ r, num_minus a b = some r ∧ VU r = VU a - VU b ∧ DU r ∧ r.length = a.length := by
  obtain ⟨c', h1, h2, h3, h4⟩ := minusL_val a b 0 hba ha hb (by omega) (by omega)
  refine ⟨minusL a b 0, ?_, ?_, h3, h4⟩
  · rw [num_minus_eq]
    have := minus_walk ha hb hl a.length 0 0 [] (by omega) rfl (by omega) (by omega)
    simp (disch := omega) only [cond_true, okMake_t]
    simpa using this
  · -- the last borrow is none: else the value would be too great
    have h5 := val_lt (B := 1000000000) (by omega) h3
    have h6 := VU_nonneg hb
    have h7 := VU_nonneg ha
    rw [h4] at h5
    by_cases hc : c' = 0
    · subst hc; simp at h2; omega
    · exfalso
      have hp : (0 : Int) ≤ 1000000000 ^ a.length := Int.pow_nonneg (by omega)
      have h8 : 1 * (1000000000 : Int) ^ a.length ≤ c' * 1000000000 ^ a.length := Int.mul_le_mul_of_nonneg_right (by omega) hp
      rw [Int.one_mul] at h8
      simp only [VU] at *
      omega

/-! ### size -/
theorem size_walk {a b : List Int} (ha : DU a) (hb : DU b) (hl : a.length = b.length) (hl' : a.length ≤ 1000000000000) : ∀ (k : Nat), k ≤ a.length →
    num_size_L0 a b ((k : Int) - 1) = some (cmpI (VU (a.take k)) (VU (b.take k))) := by
  intro k
  induction k with
  | zero =>
    intro hk
    rw [num_size_L0_eq]
    simp (disch := omega) only [dge_f, cond_false]
    simp [cmpI]
  | succ k ih =>
    intro hk
    rw [num_size_L0_eq]
    have e : ((k + 1 : Nat) : Int) - 1 = k := by omega
    rw [e, take_succ' (show k < a.length by omega), take_succ' (show k < b.length by omega)]
    simp (disch := omega) only [dge_t, cond_true, idx_in, Option.bind_some, Int.toNat_natCast, i64_in]
    have hta : (a.take k).length = (b.take k).length := by simp; omega
    by_cases h : a.getD k 0 = b.getD k 0
    · rw [bne_f h, ih (by omega)]
      simp only [cond_false, VU, val_append, hta, h]
      generalize (1000000000 : Int) ^ (b.take k).length * val 1000000000 [b.getD k 0] = z
      by_cases h1 : val 1000000000 (a.take k) < val 1000000000 (b.take k)
      · rw [cmpI_lt h1, cmpI_lt (by omega)]
      · by_cases h2 : val 1000000000 (b.take k) < val 1000000000 (a.take k)
        · rw [cmpI_gt h2, cmpI_gt (by omega)]
        · rw [cmpI_eq (by omega), cmpI_eq (by omega)]
    · rw [bne_t h]
      simp only [cond_true]
      by_cases h1 : a.getD k 0 < b.getD k 0
      · rw [dlt_t h1]
        rw [cmpI_lt (top_lt (by omega) (ha.take k) (hb.take k) hta h1)]
        rfl
      · rw [dlt_f h1]
        rw [cmpI_gt (top_lt (by omega) (hb.take k) (ha.take k) hta.symm (by omega))]
        rfl

theorem num_size_ok {m n : Nat} (hm : (dU m).length ≤ 1000000000000) (hn : (dU n).length ≤ 1000000000000) : num_size (dU m) (dU n) = some (cmpI m n) := by
  rw [num_size_eq]
  by_cases h : (dU m).length = (dU n).length
  · have := size_walk (dU_D m) (dU_D n) h hm (dU m).length (Nat.le_refl _)
    rw [bne_f (by omega)]
    simp (disch := omega) only [cond_false, i64_in]
    rw [this, h, List.take_length]
    rw [← h, List.take_length, VU_d, VU_d]
  · rw [bne_t (by omega)]
    have l1 := (dig_length_le (B := 1000000000) (by omega) (dU m).length m).1 (Nat.le_refl _)
    have l2 := (dig_length_le (B := 1000000000) (by omega) (dU n).length n).1 (Nat.le_refl _)
    simp only [cond_true]
    by_cases h1 : (dU m).length < (dU n).length
    · rw [dlt_t (by omega)]
      have := (dig_length_lt (B := 1000000000) (by omega) (dU m).length n).1 h1
      rw [cmpI_lt (by omega)]; rfl
    · rw [dlt_f (by omega)]
      have := (dig_length_lt (B := 1000000000) (by omega) (dU n).length m).1 (show (dU n).length < (dU m).length by omega)
      rw [cmpI_gt (by omega)]; rfl

theorem dU_le {m n : Nat} (h : m ≤ n) : (dU m).length ≤ (dU n).length := by
  have l2 := (dig_length_le (B := 1000000000) (by omega) (dU n).length n).1 (Nat.le_refl _)
  exact (dig_length_le (B := 1000000000) (by omega) (dU n).length m).2 (by omega)
end Go.Proofs.Ytlpkaimkmfgpiaa.Ev
set_option linter.unusedVariables false
set_option linter.unusedSimpArgs false
namespace Go.Proofs.Ytlpkaimkmfgpiaa.Ev
open Go.Abs Go.IntWalk

/-- The number of digits to the base 1000000000. -/
def Ln (z : Int) : Nat := (dU z.natAbs).length
theorem Ln_le_iff (z : Int) (k : Nat) : Ln z ≤ k ↔ z.natAbs < 1000000000 ^ k := dig_length_le (B := 1000000000) (by omega) k z.natAbs
theorem Ln_self (z : Int) : z.natAbs < 1000000000 ^ Ln z := (Ln_le_iff z _).1 (Nat.le_refl _)
theorem Ln_mono {x y : Int} (h : x.natAbs ≤ y.natAbs) : Ln x ≤ Ln y := dU_le h
theorem Ln_neg (z : Int) : Ln (-z) = Ln z := by unfold Ln; rw [Int.natAbs_neg]
theorem Ln_add (x y : Int) : Ln (x + y) ≤ max (Ln x) (Ln y) + 1 := by
  rw [Ln_le_iff, Nat.pow_succ]
  have h1 := Ln_self x
  have h2 := Ln_self y
  have h3 : 1000000000 ^ Ln x ≤ 1000000000 ^ max (Ln x) (Ln y) := Nat.pow_le_pow_right (by omega) (Nat.le_max_left _ _)
  have h4 : 1000000000 ^ Ln y ≤ 1000000000 ^ max (Ln x) (Ln y) := Nat.pow_le_pow_right (by omega) (Nat.le_max_right _ _)
  omega
theorem Ln_sub (x y : Int) : Ln (x - y) ≤ max (Ln x) (Ln y) + 1 := by
  have := Ln_add x (-y)
  rw [Ln_neg] at this
  exact this
theorem Ln_mul (x y : Int) : Ln (x * y) ≤ Ln x + Ln y := by
  rw [Ln_le_iff, Int.natAbs_mul, Nat.pow_add]
  have h1 := Ln_self x
  have h2 := Ln_self y
  exact Nat.mul_lt_mul'' h1 h2
theorem Ln_small {x : Int} (h : x.natAbs < 1000000000) : Ln x ≤ 1 := by rw [Ln_le_iff]; omega

theorem W_eta (z : Int) : ((W z).1, ((W z).2.1, ())) = W z := rfl
theorem W_1 (z : Int) : (W z).1 = decide (z < 0) := rfl
theorem W_2 (z : Int) : (W z).2.1 = dU z.natAbs := rfl
theorem Ln_def (z : Int) : (dU z.natAbs).length = Ln z := rfl

theorem num_Whole_Add_ok {x y : Int} (hx : Ln x ≤ 100000000000) (hy : Ln y ≤ 100000000000) : num_Whole_Add (W x) (W y) = some (W (x + y)) := by
  rw [num_Whole_Add_eq]
  simp only [W_1, W_2]
  by_cases hs : decide (x < 0) = decide (y < 0)
  · obtain ⟨r, e, v, d, l⟩ := num_plus_ok (dU_D x.natAbs) (dU_D y.natAbs) (show (dU x.natAbs).length ≤ _ by rw [Ln_def]; omega) (show (dU y.natAbs).length ≤ _ by rw [Ln_def]; omega)
    rw [Ln_def, Ln_def] at l
    rw [show (decide (x < 0) == decide (y < 0)) = true by rw [hs]; simp]
    simp only [cond_true, e, Option.bind_some, num_signed_ok d (show r.length ≤ 1000000000000000 by omega)]
    rw [VU_d, VU_d] at v
    have hs' := decide_eq_decide.1 hs
    by_cases h : x < 0
    · rw [dlt_t h, v]
      have : (bif true then -((x.natAbs : Int) + (y.natAbs : Int)) else ((x.natAbs : Int) + (y.natAbs : Int))) = x + y := by simp only [cond_true]; omega
      rw [this]
    · rw [dlt_f h, v]
      have : (bif false then -((x.natAbs : Int) + (y.natAbs : Int)) else ((x.natAbs : Int) + (y.natAbs : Int))) = x + y := by simp only [cond_false]; omega
      rw [this]
  · have hs' : ¬ (x < 0 ↔ y < 0) := fun e => hs (decide_eq_decide.2 e)
    rw [show (decide (x < 0) == decide (y < 0)) = false by simpa using hs']
    simp only [cond_false, num_size_ok (show (dU x.natAbs).length ≤ _ by rw [Ln_def]; omega) (show (dU y.natAbs).length ≤ _ by rw [Ln_def]; omega), Option.bind_some]
    by_cases hc : x.natAbs < y.natAbs
    · have hl := dU_le (show x.natAbs ≤ y.natAbs by omega)
      obtain ⟨r, e, v, d, l⟩ := num_minus_ok (dU_D y.natAbs) (dU_D x.natAbs) (show (dU y.natAbs).length ≤ _ by rw [Ln_def]; omega) hl (by rw [VU_d, VU_d]; omega)
      rw [Ln_def] at l
      rw [cmpI_lt (by omega), dlt_t (by omega)]
      simp only [cond_true, e, Option.bind_some, num_signed_ok d (show r.length ≤ 1000000000000000 by omega)]
      rw [VU_d, VU_d] at v
      by_cases h : y < 0
      · rw [dlt_t h, v]
        have : (bif true then -((y.natAbs : Int) - (x.natAbs : Int)) else ((y.natAbs : Int) - (x.natAbs : Int))) = x + y := by simp only [cond_true]; omega
        rw [this]
      · rw [dlt_f h, v]
        have : (bif false then -((y.natAbs : Int) - (x.natAbs : Int)) else ((y.natAbs : Int) - (x.natAbs : Int))) = x + y := by simp only [cond_false]; omega
        rw [this]
    · have hl := dU_le (show y.natAbs ≤ x.natAbs by omega)
      obtain ⟨r, e, v, d, l⟩ := num_minus_ok (dU_D x.natAbs) (dU_D y.natAbs) (show (dU x.natAbs).length ≤ _ by rw [Ln_def]; omega) hl (by rw [VU_d, VU_d]; omega)
      rw [Ln_def] at l
      have : ¬ cmpI x.natAbs y.natAbs < 0 := by unfold cmpI; rw [if_neg (by omega)]; split <;> omega
      rw [dlt_f this]
      simp only [cond_false, e, Option.bind_some, num_signed_ok d (show r.length ≤ 1000000000000000 by omega)]
      rw [VU_d, VU_d] at v
      by_cases h : x < 0
      · rw [dlt_t h, v]
        have : (bif true then -((x.natAbs : Int) - (y.natAbs : Int)) else ((x.natAbs : Int) - (y.natAbs : Int))) = x + y := by simp only [cond_true]; omega
        rw [this]
      · rw [dlt_f h, v]
        have : (bif false then -((x.natAbs : Int) - (y.natAbs : Int)) else ((x.natAbs : Int) - (y.natAbs : Int))) = x + y := by simp only [cond_false]; omega
        rw [this]

theorem num_Whole_Neg_ok {x : Int} (hx : Ln x ≤ 100000000000) : num_Whole_Neg (W x) = some (W (-x)) := by
  rw [num_Whole_Neg_eq]
  simp only [W_1, W_2]
  rw [num_signed_ok (dU_D _) (show (dU x.natAbs).length ≤ _ by rw [Ln_def]; omega), VU_d]
  by_cases h : x < 0
  · rw [dlt_t h]
    have : (bif !true then -(x.natAbs : Int) else (x.natAbs : Int)) = -x := by simp only [Bool.not_true, cond_false]; omega
    rw [this]; rfl
  · rw [dlt_f h]
    have : (bif !false then -(x.natAbs : Int) else (x.natAbs : Int)) = -x := by simp only [Bool.not_false, cond_true]; omega
    rw [this]; rfl

theorem num_Whole_Sub_ok {x y : Int} (hx : Ln x ≤ 100000000000) (hy : Ln y ≤ 100000000000) : num_Whole_Sub (W x) (W y) = some (W (x - y)) := by
  rw [num_Whole_Sub_eq]
  show (num_Whole_Neg (W y)).bind _ = _
  rw [num_Whole_Neg_ok hy]
  simp only [Option.bind_some]
  show (num_Whole_Add (W x) (W (-y))).bind _ = _
  rw [num_Whole_Add_ok hx (by rw [Ln_neg]; exact hy)]
  rfl

theorem W_len (x : Int) : ((W x).2.1.length : Int) = (Ln x : Int) := rfl
theorem Ln_zero_iff (x : Int) : Ln x = 0 ↔ x = 0 := by
  have := Ln_le_iff x 0
  rw [Nat.pow_zero] at this
  omega

def sgnI (x : Int) : Int := if x < 0 then -1 else if 0 < x then 1 else 0

theorem num_Whole_Sign_ok (x : Int) : num_Whole_Sign (W x) = some (sgnI x) := by
  rw [num_Whole_Sign_eq, W_len, W_1]
  have h0 := Ln_zero_iff x
  unfold sgnI
  by_cases hz : x = 0
  · rw [beq_t (by omega)]; simp [hz]
  · rw [beq_f (by omega)]
    simp only [cond_false]
    by_cases h : x < 0
    · rw [dlt_t h, if_pos h]; rfl
    · rw [dlt_f h, if_neg h, if_pos (by omega)]; rfl

theorem num_Whole_Abs_ok (x : Int) : num_Whole_Abs (W x) = some (W x.natAbs) := by
  rw [num_Whole_Abs_eq, W_2]
  simp only [W, Int.natAbs_natCast]
  rw [dlt_f (by omega)]

theorem num_Whole_Cmp_ok {x y : Int} (hx : Ln x ≤ 100000000000) (hy : Ln y ≤ 100000000000) : num_Whole_Cmp (W x) (W y) = some (cmpI x y) := by
  rw [num_Whole_Cmp_eq]
  simp only [W_1, W_2]
  rw [num_size_ok (show (dU x.natAbs).length ≤ _ by rw [Ln_def]; omega) (show (dU y.natAbs).length ≤ _ by rw [Ln_def]; omega),
    num_size_ok (show (dU y.natAbs).length ≤ _ by rw [Ln_def]; omega) (show (dU x.natAbs).length ≤ _ by rw [Ln_def]; omega)]
  simp only [Option.bind_some]
  by_cases h1 : x < 0 <;> by_cases h2 : y < 0
  · rw [dlt_t h1, dlt_t h2]
    simp only [beq_self_eq_true, Bool.not_true, cond_false, cond_true, Option.some.injEq]
    unfold cmpI
    by_cases h3 : x < y
    · rw [if_pos h3, if_pos (by omega)]
    · rw [if_neg h3, if_neg (by omega)]
      by_cases h4 : y < x
      · rw [if_pos h4, if_pos (by omega)]
      · rw [if_neg h4, if_neg (by omega)]
  · rw [dlt_t h1, dlt_f h2, cmpI_lt (x := x) (y := y) (by omega)]; rfl
  · rw [dlt_f h1, dlt_t h2, cmpI_gt (x := x) (y := y) (by omega)]; rfl
  · rw [dlt_f h1, dlt_f h2]
    simp only [beq_self_eq_true, Bool.not_true, cond_false, Option.some.injEq]
    unfold cmpI
    by_cases h3 : x < y
    · rw [if_pos h3, if_pos (by omega)]
    · rw [if_neg h3, if_neg (by omega)]
      by_cases h4 : y < x
      · rw [if_pos h4, if_pos (by omega)]
      · rw [if_neg h4, if_neg (by omega)]

/-! ### Of -/
theorem Of_walk (neg : Bool) (t : Bool) (t2 : List Int) : ∀ (n : Nat) (u : Nat) (d : List Int), u < 1000000000 ^ n → u < 18446744073709551616 → d.length + n ≤ 1000 → num_Of_L0 u neg d t t2 = some (neg, (d ++ dU u, ())) := by
  intro n
  induction n with
  | zero =>
    intro u d hu hu' hd
    have : u = 0 := by rw [Nat.pow_zero] at hu; omega
    subst this
    rw [num_Of_L0_eq]
    simp [dU, dig_zero]
  | succ n ih =>
    intro u d hu hu' hd
    rw [num_Of_L0_eq]
    by_cases h0 : u = 0
    · subst h0; simp [dU, dig_zero]
    · have ht : ([(u : Int) % 1000000000] : List Int).length = 1 := rfl
      simp (disch := omega) only [dgt_t, cond_true, tmod_in, u32_in, u64_quo, ht, okApp_t]
      have e1 : ((u : Int) / 1000000000) = ((u / 1000000000 : Nat) : Int) := by omega
      have e2 : ((u : Int) % 1000000000) = ((u % 1000000000 : Nat) : Int) := by omega
      rw [Nat.pow_succ] at hu
      rw [e1, e2, ih (u / 1000000000) _ (by omega) (by omega) (by simp; omega)]
      rw [show dU u = _ from dig_pos (B := 1000000000) (by omega) (by omega)]
      simp

theorem num_Of_ok {n : Int} (h0 : -9223372036854775808 ≤ n) (h1 : n ≤ 9223372036854775807) : num_Of n = some (W n) := by
  rw [num_Of_eq]
  by_cases h : n < 0
  · have e1 : IntKind.wrap .u64 n = n + 18446744073709551616 := by rw [IntKind.wrap_u64]; omega
    have e2 : IntKind.wrap .u64 (0 - (n + 18446744073709551616)) = (n.natAbs : Int) := by rw [IntKind.wrap_u64]; omega
    rw [dlt_t h, e1, e2, Of_walk _ _ _ 3 n.natAbs [] (by omega) (by omega) (by simp)]
    simp [W, h]
  · have e1 : IntKind.wrap .u64 n = (n.natAbs : Int) := by rw [IntKind.wrap_u64]; omega
    rw [dlt_f h, e1, Of_walk _ _ _ 3 n.natAbs [] (by omega) (by omega) (by simp)]
    simp [W, h]
end Go.Proofs.Ytlpkaimkmfgpiaa.Ev
set_option linter.unusedVariables false
set_option linter.unusedSimpArgs false
namespace Go.Abs
theorem set_take {l : List Int} {n : Nat} {v : Int} (h : n < l.length) : (l.set n v).take (n + 1) = l.take n ++ [v] := by
  rw [take_succ' (by simpa using h), List.take_set_of_le (Nat.le_refl n)]
  simp [List.getD, h]
theorem set_drop {l : List Int} {n : Nat} {v : Int} : (l.set n v).drop (n + 1) = l.drop (n + 1) := by
  rw [List.drop_set_of_lt (by omega)]
theorem list_cut (l : List Int) (k : Nat) : l = l.take k ++ l.drop k := (List.take_append_drop k l).symm
theorem getD_replicate (n j : Nat) : (List.replicate n (0 : Int)).getD j 0 = 0 := by
  by_cases h : j < n
  · simp only [List.getD, List.getElem?_replicate, if_pos h]; rfl
  · exact getD_none (by simp; omega)
theorem mulU {x y : Int} (hx : 0 ≤ x ∧ x < 1000000000) (hy : 0 ≤ y ∧ y < 1000000000) : 0 ≤ x * y ∧ x * y ≤ 999999998000000001 := by
  have h1 := Int.mul_nonneg hx.1 hy.1
  have h2 : x * y ≤ 999999999 * y := Int.mul_le_mul_of_nonneg_right (by omega) hy.1
  exact ⟨h1, by omega⟩
end Go.Abs
namespace Go.Proofs.Ytlpkaimkmfgpiaa.Ev
open Go.Abs Go.IntWalk

/-! ### Mul -/
def amL : List Int → Int → List Int → Int → List Int
  | [], x, o :: os, c => c :: os
  | [], x, [], c => []
  | y :: ys, x, o :: os, c => (x * y + o + c) % 1000000000 :: amL ys x os ((x * y + o + c) / 1000000000)
  | y :: ys, x, [], c => []

def mlL : List Int → List Int → List Int → List Int
  | [], b, o => o
  | x :: xs, b, o => match amL b x o 0 with
    | [] => []
    | h :: t => h :: mlL xs b t

theorem amL_length : ∀ (b : List Int) (x : Int) (o : List Int) (c : Int), b.length < o.length → (amL b x o c).length = o.length
  | [], x, [], c, h => by simp at h
  | [], x, o :: os, c, h => by simp [amL]
  | y :: ys, x, [], c, h => by simp at h
  | y :: ys, x, o :: os, c, h => by simp only [amL, List.length_cons]; rw [amL_length ys x os _ (by simpa using h)]

theorem amL_val : ∀ (b : List Int) (x : Int) (o : List Int) (c : Int), b.length < o.length → DU b → DU o → 0 ≤ x ∧ x < 1000000000 → 0 ≤ c ∧ c < 1000000000 → o.getD b.length 0 = 0 →
    VU (amL b x o c) = VU o + x * VU b + c ∧ DU (amL b x o c) ∧ (amL b x o c).drop (b.length + 1) = o.drop (b.length + 1)
  | [], x, [], c, h, hb, ho, hx, hc, hz => by simp at h
  | [], x, o :: os, c, h, hb, ho, hx, hc, hz => by
    have : o = 0 := by simpa using hz
    subst this
    simp only [amL]
    exact ⟨by simp [VU, val]; omega, Dig.cons hc.1 hc.2 ho.tail, by simp⟩
  | y :: ys, x, [], c, h, hb, ho, hx, hc, hz => by simp at h
  | y :: ys, x, o :: os, c, h, hb, ho, hx, hc, hz => by
    have hy := hb.head
    have hoo := ho.head
    have hm := mulU hx hy
    obtain ⟨e1, e2, e3⟩ := amL_val ys x os ((x * y + o + c) / 1000000000) (by simpa using h) hb.tail ho.tail hx (by omega) (by simpa using hz)
    simp only [amL]
    refine ⟨?_, Dig.cons (by omega) (by omega) e2, by simpa using e3⟩
    simp only [VU, val] at e1 ⊢
    have e4 : x * (y + 1000000000 * val 1000000000 ys) = x * y + 1000000000 * (x * val 1000000000 ys) := by rw [Int.mul_add, Int.mul_left_comm]
    rw [e1, e4]
    omega

theorem mlL_val : ∀ (a b o : List Int), o.length = a.length + b.length → DU a → DU b → DU o → (∀ j, b.length ≤ j → o.getD j 0 = 0) →
    VU (mlL a b o) = VU o + VU a * VU b ∧ DU (mlL a b o) ∧ (mlL a b o).length = o.length
  | [], b, o, hl, ha, hb, ho, hz => by simp [mlL, VU, val]; exact ho
  | x :: xs, b, o, hl, ha, hb, ho, hz => by
    have hlt : b.length < o.length := by simp at hl; omega
    obtain ⟨e1, e2, e3⟩ := amL_val b x o 0 hlt hb ho ha.head ⟨by omega, by omega⟩ (hz _ (Nat.le_refl _))
    have e4 := amL_length b x o 0 hlt
    simp only [mlL]
    split
    · rename_i e; rw [e] at e4; simp at e4; omega
    · rename_i h t e
      rw [e] at e1 e2 e3 e4
      obtain ⟨f1, f2, f3⟩ := mlL_val xs b t (by simp at hl e4; omega) ha.tail hb e2.tail (fun j hj => by
        have h5 : (h :: t).drop (b.length + 1) = t.drop b.length := rfl
        have h6 : t.getD j 0 = (t.drop b.length).getD (j - b.length) 0 := by rw [getD_drop]; congr 1; omega
        rw [h6, ← h5, e3, getD_drop]
        exact hz _ (by omega))
      refine ⟨?_, Dig.cons e2.head.1 e2.head.2 f2, by simp [f3] at e4 ⊢; omega⟩
      simp only [VU, val] at e1 f1 ⊢
      rw [f1, Int.add_mul, Int.mul_assoc]
      omega

theorem mul_inner {a b : List Int} {sa sb : Bool} {t8 : List Int} {t7 : Bool} {x : Int} {i : Nat} (hb : DU b) (hx : 0 ≤ x ∧ x < 1000000000) (hi : i < a.length) (hl : a.length ≤ 1000000000000) (hl' : b.length ≤ 1000000000000) :
    ∀ (m k : Nat) (c : Int) (out : List Int), m + k = b.length → out.length = a.length + b.length → DU out → 0 ≤ c ∧ c < 1000000000 →
    num_Whole_Mul_L1 i x c a a.length i b b.length k out sa a sb b t7 t8 = num_Whole_Mul_L0 a a.length (i + 1) (out.take (i + k) ++ amL (b.drop k) x (out.drop (i + k)) c) sa a sb b t7 t8 := by
  intro m
  induction m with
  | zero =>
    intro k c out hk ho hd hc
    have hk' : k = b.length := by omega
    subst hk'
    rw [num_Whole_Mul_L1_eq]
    simp (disch := omega) only [dlt_f, cond_false, i64_in, u32_in]
    rw [idx_in (by omega) (by omega), get_in (show ((i : Int) + b.length).toNat < out.length by omega)]
    have e : ((i : Int) + b.length).toNat = i + b.length := by omega
    simp only [Option.bind_some, e]
    rw [drop_nil (Nat.le_refl _), drop_eq (show i + b.length < out.length by omega)]
    simp only [amL]
    congr 1
    conv => lhs; rw [list_cut (out.set (i + b.length) c) (i + b.length + 1)]
    rw [set_take (by omega), set_drop]
    simp
  | succ m ih =>
    intro k c out hk ho hd hc
    have hy := hb.getD (by omega) k
    have hoo := hd.getD (by omega) (i + k)
    have hm := mulU hx hy
    rw [num_Whole_Mul_L1_eq]
    have e : ((i : Int) + k).toNat = i + k := by omega
    simp (disch := omega) only [dlt_t, cond_true, i64_in, idx_in, get_in, Option.bind_some, u64_in, Int.toNat_natCast, e]
    simp (disch := omega) only [u64_in, u64_quo, tmod_in, u32_in]
    have ih' := fun c out => ih (k + 1) c out (by omega)
    simp only [Int.natCast_add, Int.natCast_one] at ih'
    rw [ih' _ _ (by simp [ho]) (hd.set (by omega) (by omega) _) (by omega)]
    congr 1
    rw [drop_eq (show k < b.length by omega), drop_eq (show i + k < out.length by omega)]
    simp only [amL]
    rw [show i + (k + 1) = i + k + 1 by omega, set_take (by omega), set_drop]
    have e2 : c + (x * b.getD k 0 + out.getD (i + k) 0) = x * b.getD k 0 + out.getD (i + k) 0 + c := by omega
    rw [e2]
    simp

theorem mul_outer {a b : List Int} {sa sb : Bool} {t8 : List Int} {t7 : Bool} (ha : DU a) (hb : DU b) (hl : a.length ≤ 1000000000000) (hl' : b.length ≤ 1000000000000) :
    ∀ (m i : Nat) (out : List Int), m + i = a.length → out.length = a.length + b.length → DU out → (∀ j, b.length ≤ j → (out.drop i).getD j 0 = 0) →
    num_Whole_Mul_L0 a a.length i out sa a sb b t7 t8 = num_signed (!(sa == sb)) (out.take i ++ mlL (a.drop i) b (out.drop i)) := by
  intro m
  induction m with
  | zero =>
    intro i out hi ho hd hz
    have hi' : i = a.length := by omega
    rw [num_Whole_Mul_L0_eq]
    simp (disch := omega) only [dlt_f, cond_false, drop_nil, mlL, List.take_append_drop]
    cases num_signed (!(sa == sb)) out <;> rfl
  | succ m ih =>
    intro i out hi ho hd hz
    have hx := ha.getD (by omega) i
    rw [num_Whole_Mul_L0_eq]
    simp (disch := omega) only [dlt_t, cond_true, idx_in, Option.bind_some, Int.toNat_natCast]
    have hI := mul_inner (a := a) (sa := sa) (sb := sb) (t7 := t7) (t8 := t8) (i := i) hb hx (by omega) hl hl' b.length 0 0 out (by omega) ho hd ⟨by omega, by omega⟩
    simp only [Int.natCast_zero] at hI
    rw [hI]
    have hlen : (out.drop (i + 0)).length = a.length - i + b.length := by simp; omega
    have hlt : b.length < (out.drop (i + 0)).length := by omega
    obtain ⟨e1, e2, e3⟩ := amL_val b (a.getD i 0) (out.drop (i + 0)) 0 hlt hb (hd.drop _) hx ⟨by omega, by omega⟩ (hz _ (Nat.le_refl _))
    have e4 := amL_length b (a.getD i 0) (out.drop (i + 0)) 0 hlt
    have ih' := fun out => ih (i + 1) out (by omega)
    simp only [Int.natCast_add, Int.natCast_one] at ih'
    rw [drop_eq (show i < a.length by omega)]
    simp only [mlL, List.drop_zero, Nat.add_zero, Int.natCast_zero] at *
    cases hA : amL b (a.getD i 0) (out.drop i) 0 with
    | nil => rw [hA] at e4; simp at e4; omega
    | cons h t =>
      rw [hA] at e2 e3 e4
      have htl : (out.take i).length = i := by simp; omega
      have h7 : (out.take i ++ h :: t).drop (i + 1) = t := by
        rw [List.drop_append, htl]
        have : (out.take i).drop (i + 1) = [] := drop_nil (by omega)
        rw [this]; simp
      have h8 : (out.take i ++ h :: t).take (i + 1) = out.take i ++ [h] := by
        rw [List.take_append, htl]
        have : (out.take i).take (i + 1) = out.take i := List.take_of_length_le (by omega)
        rw [this]; simp
      rw [ih' _ (by simp [ho] at e4 ⊢; omega) ((hd.take _).append e2) (fun j hj => by
        rw [h7]
        have h5 : (h :: t).drop (b.length + 1) = t.drop b.length := rfl
        have h6 : t.getD j 0 = (t.drop b.length).getD (j - b.length) 0 := by rw [getD_drop]; congr 1; omega
        rw [h6, ← h5, e3, getD_drop]
        exact hz _ (by omega)), h7, h8]
      simp

theorem num_Whole_Mul_ok {x y : Int} (hx : Ln x ≤ 100000000000) (hy : Ln y ≤ 100000000000) : num_Whole_Mul (W x) (W y) = some (W (x * y)) := by
  rw [num_Whole_Mul_eq]
  simp only [W_1, W_2, Ln_def]
  simp (disch := omega) only [i64_in, okMake_t, cond_true]
  have hrep : (((Ln x : Nat) : Int) + (Ln y : Nat)).toNat = Ln x + Ln y := by omega
  rw [hrep]
  have ha := dU_D x.natAbs
  have hb := dU_D y.natAbs
  have h1 := mul_outer (sa := decide (x < 0)) (sb := decide (y < 0)) (t7 := false) (t8 := []) ha hb (by rw [Ln_def]; omega) (by rw [Ln_def]; omega) (Ln x) 0 (List.replicate (Ln x + Ln y) 0) (by rw [Ln_def]; omega)
    (by rw [List.length_replicate, Ln_def, Ln_def]) (Dig.replicate (by omega) _) (fun j hj => by
      rw [getD_drop]
      exact getD_replicate _ _)
  rw [Ln_def] at h1
  have h2 : num_Whole_Mul_L0 (dU x.natAbs) (Ln x) 0 (List.replicate (Ln x + Ln y) 0) (decide (x < 0)) (dU x.natAbs) (decide (y < 0)) (dU y.natAbs) false [] = _ := h1
  rw [h2]
  obtain ⟨e1, e2, e3⟩ := mlL_val (dU x.natAbs) (dU y.natAbs) (List.replicate (Ln x + Ln y) 0) (by rw [List.length_replicate, Ln_def, Ln_def]) ha hb (Dig.replicate (by omega) _) (fun j hj => by
      exact getD_replicate _ _)
  simp only [List.take_zero, List.nil_append, List.drop_zero]
  rw [num_signed_ok e2 (by rw [e3, List.length_replicate]; omega), e1, VU_d, VU_d]
  simp only [VU, val_replicate, Int.zero_add]
  have key : (bif !(decide (x < 0) == decide (y < 0)) then -((x.natAbs : Int) * (y.natAbs : Int)) else ((x.natAbs : Int) * (y.natAbs : Int))) = x * y := by
    by_cases h1 : x < 0 <;> by_cases h2 : y < 0
    · rw [dlt_t h1, dlt_t h2]
      have e1 : (x.natAbs : Int) = -x := by omega
      have e2 : (y.natAbs : Int) = -y := by omega
      rw [e1, e2]; simp [Int.neg_mul, Int.mul_neg]
    · rw [dlt_t h1, dlt_f h2]
      have e1 : (x.natAbs : Int) = -x := by omega
      have e2 : (y.natAbs : Int) = y := by omega
      rw [e1, e2]; simp [Int.neg_mul, Int.mul_neg]
    · rw [dlt_f h1, dlt_t h2]
      have e1 : (x.natAbs : Int) = x := by omega
      have e2 : (y.natAbs : Int) = -y := by omega
      rw [e1, e2]; simp [Int.neg_mul, Int.mul_neg]
    · rw [dlt_f h1, dlt_f h2]
      have e1 : (x.natAbs : Int) = x := by omega
      have e2 : (y.natAbs : Int) = y := by omega
      rw [e1, e2]; simp [Int.neg_mul, Int.mul_neg]
  rw [key]

/-! ### short, scaled -/
def scL : List Int → Int → Int → List Int
  | [], k, c => [c]
  | x :: xs, k, c => (c + x * k) % 1000000000 :: scL xs k ((c + x * k) / 1000000000)

theorem scL_val : ∀ (a : List Int) (k c : Int), DU a → 0 ≤ k ∧ k < 1000000000 → 0 ≤ c ∧ c < 1000000000 → VU (scL a k c) = VU a * k + c ∧ DU (scL a k c) ∧ (scL a k c).length = a.length + 1
  | [], k, c, ha, hk, hc => by
    simp only [scL]
    exact ⟨by simp [VU, val], Dig.cons hc.1 hc.2 Dig.nil, rfl⟩
  | x :: xs, k, c, ha, hk, hc => by
    have hm := mulU ha.head hk
    obtain ⟨e1, e2, e3⟩ := scL_val xs k ((c + x * k) / 1000000000) ha.tail hk (by omega)
    simp only [scL]
    refine ⟨?_, Dig.cons (by omega) (by omega) e2, by simp [e3]⟩
    simp only [VU, val] at e1 ⊢
    rw [e1, Int.add_mul, Int.mul_assoc]
    omega

theorem scaled_walk {a : List Int} {k : Int} (ha : DU a) (hk : 0 ≤ k ∧ k < 1000000000) (hl : a.length ≤ 1000000000000) : ∀ (m i : Nat) (c : Int) (out : List Int), m + i = a.length → out.length = i → 0 ≤ c ∧ c < 1000000000 →
    num_scaled_L0 k c a a.length i out = some (out ++ scL (a.drop i) k c) := by
  intro m
  induction m with
  | zero =>
    intro i c out hi ho hc
    rw [num_scaled_L0_eq]
    simp (disch := omega) only [dlt_f, cond_false, okApp_t, cond_true, drop_nil, scL, u32_in]
  | succ m ih =>
    intro i c out hi ho hc
    have hx := ha.getD (by omega) i
    have hm := mulU hx hk
    rw [num_scaled_L0_eq]
    simp (disch := omega) only [dlt_t, cond_true, idx_in, Option.bind_some, Int.toNat_natCast, u64_in]
    simp (disch := omega) only [u64_in, tmod_in, u64_quo, okApp_t, cond_true, i64_in, u32_in]
    have ih' := fun c out => ih (i + 1) c out (by omega)
    simp only [Int.natCast_add, Int.natCast_one] at ih'
    rw [ih' _ _ (by simp; omega) (by omega), drop_eq (show i < a.length by omega)]
    simp [scL]

theorem num_scaled_ok {a : List Int} {k : Int} (ha : DU a) (hk : 0 ≤ k ∧ k < 1000000000) (hl : a.length ≤ 1000000000000) : num_scaled a k = some (scL a k 0) := by
  rw [num_scaled_eq]
  simp (disch := omega) only [i64_in, okMake_t, cond_true]
  have := scaled_walk ha hk hl a.length 0 0 [] (by omega) rfl ⟨by omega, by omega⟩
  simpa using this

/-- The quotient's digits, from the top; the list is read from its end. -/
def shL (b : Int) : List Int → List Int × Int
  | [] => ([], 0)
  | x :: xs => ((((shL b xs).2 * 1000000000 + x) / b) :: (shL b xs).1, ((shL b xs).2 * 1000000000 + x) % b)

theorem shL_val {b : Int} (hb : 0 < b ∧ b < 1000000000) : ∀ (a : List Int), DU a → VU a = VU (shL b a).1 * b + (shL b a).2 ∧ 0 ≤ (shL b a).2 ∧ (shL b a).2 < b ∧ DU (shL b a).1 ∧ (shL b a).1.length = a.length
  | [], ha => ⟨by simp [shL, VU, val], by simp [shL], by simp [shL]; omega, Dig.nil, rfl⟩
  | x :: xs, ha => by
    have hx := ha.head
    obtain ⟨e1, e2, e3, e4, e5⟩ := shL_val hb xs ha.tail
    have hd := Int.mul_ediv_add_emod ((shL b xs).2 * 1000000000 + x) b
    have hlt := Int.emod_lt_of_pos ((shL b xs).2 * 1000000000 + x) hb.1
    have hnn := Int.emod_nonneg ((shL b xs).2 * 1000000000 + x) (show b ≠ 0 by omega)
    have hq0 : 0 ≤ ((shL b xs).2 * 1000000000 + x) / b := Int.ediv_nonneg (by omega) (by omega)
    have hq1 : ((shL b xs).2 * 1000000000 + x) / b < 1000000000 := Int.ediv_lt_of_lt_mul hb.1 (by omega)
    simp only [shL]
    refine ⟨?_, hnn, hlt, Dig.cons hq0 hq1 e4, by simp [e5]⟩
    simp only [VU, val] at e1 ⊢
    have e7 : (((shL b xs).2 * 1000000000 + x) / b + 1000000000 * val 1000000000 (shL b xs).1) * b = b * (((shL b xs).2 * 1000000000 + x) / b) + 1000000000 * (val 1000000000 (shL b xs).1 * b) := by
      rw [Int.add_mul, Int.mul_assoc, Int.mul_comm (_ / b) b]
    rw [e1, e7]
    omega

theorem short_walk {a : List Int} {b : Int} (ha : DU a) (hb : 0 < b ∧ b < 1000000000) (hl : a.length ≤ 1000000000000) : ∀ (k : Nat) (out : List Int), k ≤ a.length → out.length = a.length → out.drop k = (shL b (a.drop k)).1 →
    num_short_L0 a b (shL b (a.drop k)).2 ((k : Int) - 1) out = some (shL b a) := by
  intro k
  induction k with
  | zero =>
    intro out hk ho hd
    rw [num_short_L0_eq]
    obtain ⟨e1, e2, e3, e4, e5⟩ := shL_val hb a ha
    simp only [List.drop_zero] at hd ⊢
    simp (disch := omega) only [dge_f, cond_false, u32_in]
    rw [hd]
  | succ k ih =>
    intro out hk ho hd
    obtain ⟨e1, e2, e3, e4, e5⟩ := shL_val hb (a.drop (k + 1)) (ha.drop _)
    have hx := ha.getD (by omega) k
    have hq0 : 0 ≤ ((shL b (a.drop (k + 1))).2 * 1000000000 + a.getD k 0) / b := Int.ediv_nonneg (by omega) (by omega)
    have hq1 : ((shL b (a.drop (k + 1))).2 * 1000000000 + a.getD k 0) / b < 1000000000 := Int.ediv_lt_of_lt_mul hb.1 (by omega)
    rw [num_short_L0_eq]
    have e : ((k + 1 : Nat) : Int) - 1 = k := by omega
    rw [e]
    simp (disch := omega) only [dge_t, cond_true, idx_in, get_in, Option.bind_some, Int.toNat_natCast, u64_in]
    simp (disch := omega) only [u64_in, u64_quo, tmod_in, beq_f, cond_false, u32_in, i64_in]
    have h1 : shL b (a.drop k) = ((((shL b (a.drop (k + 1))).2 * 1000000000 + a.getD k 0) / b) :: (shL b (a.drop (k + 1))).1, ((shL b (a.drop (k + 1))).2 * 1000000000 + a.getD k 0) % b) := by
      rw [drop_eq (show k < a.length by omega)]; rfl
    have h2 := ih (out.set k (((shL b (a.drop (k + 1))).2 * 1000000000 + a.getD k 0) / b)) (by omega) (by simpa using ho) (by
      rw [h1, drop_eq (by simp; omega), set_drop, hd]
      simp [List.getD, show k < out.length by omega])
    rw [h1] at h2
    exact h2

theorem num_short_ok {a : List Int} {b : Int} (ha : DU a) (hb : 0 < b ∧ b < 1000000000) (hl : a.length ≤ 1000000000000) : num_short a b = some (shL b a) := by
  rw [num_short_eq]
  simp (disch := omega) only [i64_in, okMake_t, cond_true, Int.toNat_natCast]
  have := short_walk ha hb hl a.length (List.replicate a.length 0) (Nat.le_refl _) (by simp) (by rw [drop_nil (Nat.le_refl _), drop_nil (by simp)]; rfl)
  rw [drop_nil (Nat.le_refl _)] at this
  exact this
end Go.Proofs.Ytlpkaimkmfgpiaa.Ev
set_option linter.unusedVariables false
set_option linter.unusedSimpArgs false
namespace Go.Abs

/-! ### The estimate of a quotient's digit -/
section
variable {P V R vl wl v1 v2 u1 u2 u3 g rest : Int}

theorem est_u1 (hP : 0 < P) (hvl : vl < P) (hwl : 0 ≤ wl) (hV : V = vl + P * (v2 + 1000000000 * v1)) (hR : R = wl + P * (u3 + 1000000000 * (u2 + 1000000000 * u1)))
    (h2 : v2 < 1000000000) (h3 : 0 ≤ u3) (h4 : 0 ≤ u2) (hlt : R < V * 1000000000) : u1 ≤ v1 := by
  by_cases h : u1 ≤ v1
  · exact h
  · exfalso
    have e1 : P * (v1 + 1) ≤ P * u1 := Int.mul_le_mul_of_nonneg_left (by omega) (by omega)
    have e2 : P * (v2 + 1) ≤ P * 1000000000 := Int.mul_le_mul_of_nonneg_left (by omega) (by omega)
    have e3 : 0 ≤ P * u3 := Int.mul_nonneg (by omega) h3
    have e4 : 0 ≤ P * u2 := Int.mul_nonneg (by omega) h4
    simp only [Int.mul_add, Int.mul_one, Int.mul_left_comm P 1000000000] at hV hR e1 e2
    omega

theorem est_gt (hP : 0 < P) (hV0 : 0 < V) (hvl : 0 ≤ vl) (hwl : wl < P) (hV : V = vl + P * (v2 + 1000000000 * v1)) (hR : R = wl + P * (u3 + 1000000000 * (u2 + 1000000000 * u1)))
    (hg : 0 ≤ g) (ht : u1 * 1000000000 + u2 = g * v1 + rest) (hlt : R < V * 1000000000) (h : g ≥ 1000000000 ∨ g * v2 > rest * 1000000000 + u3) : R < g * V := by
  rcases h with h | h
  · have e1 : V * 1000000000 ≤ V * g := Int.mul_le_mul_of_nonneg_left h (by omega)
    rw [Int.mul_comm V g] at e1
    omega
  · have e1 : 0 ≤ g * vl := Int.mul_nonneg hg hvl
    have e2 : P * (rest * 1000000000 + u3 + 1) ≤ P * (g * v2) := Int.mul_le_mul_of_nonneg_left (by omega) (by omega)
    have e3 : P * (u1 * 1000000000 + u2) = P * (g * v1 + rest) := by rw [ht]
    have e4 : g * V = g * vl + (P * (g * v2) + 1000000000 * (P * (g * v1))) := by
      rw [hV, Int.mul_add, Int.mul_left_comm g P, Int.mul_add g, Int.mul_left_comm g 1000000000, Int.mul_add P, Int.mul_left_comm P 1000000000]
    simp only [Int.mul_add, Int.mul_one, ← Int.mul_assoc, Int.mul_left_comm P 1000000000] at e2 e3 hR e4
    simp only [Int.mul_assoc, Int.mul_comm _ (1000000000 : Int), Int.mul_left_comm _ (1000000000 : Int)] at e2 e3 hR e4 ⊢
    omega

theorem est_top {G : Int} (hP : 0 < P) (hvl : 0 ≤ vl) (hwl : wl < P) (hV : V = vl + P * (v2 + 1000000000 * v1)) (hR : R = wl + P * (u3 + 1000000000 * (u2 + 1000000000 * u1)))
    (hv2 : 0 ≤ v2) (hu3 : u3 < 1000000000) (hG : 0 ≤ G) (ht : u1 * 1000000000 + u2 + 1 ≤ G * v1) : R < G * V := by
  have h2 := Int.mul_le_mul_of_nonneg_left ht (show (0 : Int) ≤ P by omega)
  have h3 : 0 ≤ G * vl := Int.mul_nonneg hG hvl
  have h4 : 0 ≤ P * (G * v2) := Int.mul_nonneg (by omega) (Int.mul_nonneg hG hv2)
  have h5 : G * V = G * vl + (P * (G * v2) + 1000000000 * (P * (G * v1))) := by
    rw [hV, Int.mul_add, Int.mul_left_comm G P, Int.mul_add G, Int.mul_left_comm G 1000000000, Int.mul_add P, Int.mul_left_comm P 1000000000]
  have h6 : P * (u3 + 1) ≤ P * 1000000000 := Int.mul_le_mul_of_nonneg_left (by omega) (by omega)
  simp only [Int.mul_add, Int.mul_one, ← Int.mul_assoc, Int.mul_left_comm P 1000000000] at h2 h6 h4 hR h5
  simp only [Int.mul_assoc, Int.mul_comm _ (1000000000 : Int), Int.mul_left_comm _ (1000000000 : Int)] at h2 h6 h4 hR h5 ⊢
  omega

theorem est_le (hP : 0 < P) (hv1 : 1 ≤ v1) (hv2 : 0 ≤ v2) (hvl0 : 0 ≤ vl) (hvl : vl < P) (hwl : 0 ≤ wl) (hV : V = vl + P * (v2 + 1000000000 * v1)) (hR : R = wl + P * (u3 + 1000000000 * (u2 + 1000000000 * u1)))
    (hg : 0 ≤ g) (hg' : g ≤ 999999999) (ht : u1 * 1000000000 + u2 = g * v1 + rest) (h : g * v2 ≤ rest * 1000000000 + u3) : g * V < R + V := by
  have e1 : g * vl ≤ 999999999 * vl := Int.mul_le_mul_of_nonneg_right hg' hvl0
  have e2 : P * (g * v2) ≤ P * (rest * 1000000000 + u3) := Int.mul_le_mul_of_nonneg_left h (by omega)
  have e3 : P * (u1 * 1000000000 + u2) = P * (g * v1 + rest) := by rw [ht]
  have e4 : g * V = g * vl + (P * (g * v2) + 1000000000 * (P * (g * v1))) := by
    rw [hV, Int.mul_add, Int.mul_left_comm g P, Int.mul_add g, Int.mul_left_comm g 1000000000, Int.mul_add P, Int.mul_left_comm P 1000000000]
  have e5 : P * 1 ≤ P * v1 := Int.mul_le_mul_of_nonneg_left hv1 (by omega)
  have e6 : 0 ≤ P * v2 := Int.mul_nonneg (by omega) hv2
  simp only [Int.mul_add, Int.mul_one, ← Int.mul_assoc, Int.mul_left_comm P 1000000000] at e2 e3 hR e4 hV e5
  simp only [Int.mul_assoc, Int.mul_comm _ (1000000000 : Int), Int.mul_left_comm _ (1000000000 : Int)] at e2 e3 hR e4 hV ⊢
  omega
end

/-! ### Subtracting a multiple, adding back -/
def subL (g : Int) : List Int → List Int → Int → List Int × Int
  | us, [], b => (us, b)
  | [], _ :: _, b => ([], b)
  | u :: us, v :: vs, b =>
    if u - b - g * v % 1000000000 < 0 then
      if u - b - g * v % 1000000000 + 1000000000 < 0 then
        ((u - b - g * v % 1000000000 + 2000000000) :: (subL g us vs (g * v / 1000000000 + 2)).1, (subL g us vs (g * v / 1000000000 + 2)).2)
      else ((u - b - g * v % 1000000000 + 1000000000) :: (subL g us vs (g * v / 1000000000 + 1)).1, (subL g us vs (g * v / 1000000000 + 1)).2)
    else ((u - b - g * v % 1000000000) :: (subL g us vs (g * v / 1000000000)).1, (subL g us vs (g * v / 1000000000)).2)

def addL : List Int → List Int → Int → List Int × Int
  | us, [], c => (us, c)
  | [], _ :: _, c => ([], c)
  | u :: us, v :: vs, c => ((u + v + c) % 1000000000 :: (addL us vs ((u + v + c) / 1000000000)).1, (addL us vs ((u + v + c) / 1000000000)).2)

theorem subL_val {g : Int} (hg : 0 ≤ g ∧ g < 1000000000) : ∀ (us vs : List Int) (hs : List Int) (b : Int), us.length = vs.length → Dig 1000000000 us → Dig 1000000000 vs → 0 ≤ b ∧ b ≤ 1000000000 →
    ∃ r b', subL g (us ++ hs) vs b = (r ++ hs, b') ∧ val 1000000000 us - b - g * val 1000000000 vs = val 1000000000 r - 1000000000 ^ vs.length * b' ∧ Dig 1000000000 r ∧ r.length = us.length ∧ 0 ≤ b' ∧ b' ≤ 1000000000
  | [], [], hs, b, hl, hu, hv, hb => ⟨[], b, by simp [subL], by simp [val], Dig.nil, rfl, hb⟩
  | [], _ :: _, hs, b, hl, hu, hv, hb => by simp at hl
  | _ :: _, [], hs, b, hl, hu, hv, hb => by simp at hl
  | u :: us, v :: vs, hs, b, hl, hu, hv, hb => by
    have h1 := hu.head
    have h2 := hv.head
    have hm := mulU hg h2
    have ih := fun b' hb' => subL_val hg us vs hs b' (by simpa using hl) hu.tail hv.tail hb'
    have fin : ∀ (y c b' : Int) (r : List Int), u - b - g * v = y - 1000000000 * c → 0 ≤ y ∧ y < 1000000000 →
        val 1000000000 us - c - g * val 1000000000 vs = val 1000000000 r - 1000000000 ^ vs.length * b' →
        val 1000000000 (u :: us) - b - g * val 1000000000 (v :: vs) = val 1000000000 (y :: r) - 1000000000 ^ (v :: vs).length * b' := fun y c b' r e1 hy e2 => by
      simp only [val, List.length_cons, Int.pow_succ]
      have e3 : g * (v + 1000000000 * val 1000000000 vs) = g * v + 1000000000 * (g * val 1000000000 vs) := by rw [Int.mul_add, Int.mul_left_comm]
      have e4 : (1000000000 : Int) ^ vs.length * 1000000000 * b' = 1000000000 * (1000000000 ^ vs.length * b') := by rw [Int.mul_comm ((1000000000 : Int) ^ vs.length), Int.mul_assoc]
      rw [e3, e4]
      omega
    simp only [List.cons_append, subL]
    split
    · split
      · obtain ⟨r, b', e1, e2, e3, e4, e5⟩ := ih (g * v / 1000000000 + 2) (by omega)
        refine ⟨(u - b - g * v % 1000000000 + 2000000000) :: r, b', by rw [e1]; rfl, fin _ _ _ _ (by omega) (by omega) e2, Dig.cons (by omega) (by omega) e3, by simp [e4], e5⟩
      · obtain ⟨r, b', e1, e2, e3, e4, e5⟩ := ih (g * v / 1000000000 + 1) (by omega)
        refine ⟨(u - b - g * v % 1000000000 + 1000000000) :: r, b', by rw [e1]; rfl, fin _ _ _ _ (by omega) (by omega) e2, Dig.cons (by omega) (by omega) e3, by simp [e4], e5⟩
    · obtain ⟨r, b', e1, e2, e3, e4, e5⟩ := ih (g * v / 1000000000) (by omega)
      refine ⟨(u - b - g * v % 1000000000) :: r, b', by rw [e1]; rfl, fin _ _ _ _ (by omega) (by omega) e2, Dig.cons (by omega) (by omega) e3, by simp [e4], e5⟩

theorem addL_val : ∀ (us vs : List Int) (hs : List Int) (c : Int), us.length = vs.length → Dig 1000000000 us → Dig 1000000000 vs → 0 ≤ c ∧ c ≤ 1 →
    ∃ r c', addL (us ++ hs) vs c = (r ++ hs, c') ∧ val 1000000000 us + val 1000000000 vs + c = val 1000000000 r + 1000000000 ^ vs.length * c' ∧ Dig 1000000000 r ∧ r.length = us.length ∧ 0 ≤ c' ∧ c' ≤ 1
  | [], [], hs, c, hl, hu, hv, hc => ⟨[], c, by simp [addL], by simp [val], Dig.nil, rfl, hc⟩
  | [], _ :: _, hs, c, hl, hu, hv, hc => by simp at hl
  | _ :: _, [], hs, c, hl, hu, hv, hc => by simp at hl
  | u :: us, v :: vs, hs, c, hl, hu, hv, hc => by
    have h1 := hu.head
    have h2 := hv.head
    obtain ⟨r, c', e1, e2, e3, e4, e5⟩ := addL_val us vs hs ((u + v + c) / 1000000000) (by simpa using hl) hu.tail hv.tail (by omega)
    refine ⟨(u + v + c) % 1000000000 :: r, c', by simp only [List.cons_append, addL]; rw [e1], ?_, Dig.cons (by omega) (by omega) e3, by simp [e4], e5⟩
    simp only [val, List.length_cons, Int.pow_succ]
    have e6 : (1000000000 : Int) ^ vs.length * 1000000000 * c' = 1000000000 * (1000000000 ^ vs.length * c') := by rw [Int.mul_comm ((1000000000 : Int) ^ vs.length), Int.mul_assoc]
    rw [e6]
    omega
end Go.Abs

namespace Go.Proofs.Ytlpkaimkmfgpiaa.Ev
open Go.Abs Go.IntWalk

section
variable {k : Int} {v : List Int} {n j : Nat} {q u : List Int}

/-- The estimate's loop. -/
theorem long_L1_walk {P V R vl wl v1 v2 u1 u2 u3 : Int} (hP : 0 < P) (hvl0 : 0 ≤ vl) (hvl : vl < P) (hwl0 : 0 ≤ wl) (hwl : wl < P) (hV : V = vl + P * (v2 + 1000000000 * v1)) (hR : R = wl + P * (u3 + 1000000000 * (u2 + 1000000000 * u1)))
    (hv1 : 500000000 ≤ v1 ∧ v1 < 1000000000) (hv2 : 0 ≤ v2 ∧ v2 < 1000000000) (hu1 : 0 ≤ u1 ∧ u1 < 1000000000) (hu2 : 0 ≤ u2 ∧ u2 < 1000000000) (hu3 : 0 ≤ u3 ∧ u3 < 1000000000) (hlt : R < V * 1000000000)
    (hn : 2 ≤ n) (hvn : v.length = n) (hun : j + n < u.length) (hul : u.length ≤ 1000000000000)
    (gv1 : v.getD (n - 1) 0 = v1) (gv2 : v.getD (n - 2) 0 = v2) (gu3 : u.getD (j + n - 2) 0 = u3) : ∀ (g : Nat) (rest : Int), u1 * 1000000000 + u2 = g * v1 + rest → 0 ≤ rest → rest < 1000000000 → R < (g + 1) * V →
    ∃ g' : Int, 0 ≤ g' ∧ g' ≤ 999999999 ∧ R < (g' + 1) * V ∧ g' * V < R + V ∧ num_long_L1 k v n j g rest q u = num_long_L2 k v n j g' 0 n 0 q u := by
  have hu1v := est_u1 hP hvl hwl0 hV hR hv2.2 hu3.1 hu2.1 hlt
  have hVpos : 0 < V := by
    have e5 : P * 1 ≤ P * v1 := Int.mul_le_mul_of_nonneg_left (by omega) (by omega)
    have e6 : 0 ≤ P * v2 := Int.mul_nonneg (by omega) hv2.1
    simp only [Int.mul_add, Int.mul_one, Int.mul_left_comm P 1000000000] at hV e5
    omega
  have hR0 : 0 ≤ R := by
    have e3 : 0 ≤ P * (u3 + 1000000000 * (u2 + 1000000000 * u1)) := Int.mul_nonneg (by omega) (by omega)
    omega
  intro g
  induction g with
  | zero =>
    intro rest ht h0 h1 hb
    have hz : (0 : Int) * v2 ≤ rest * 1000000000 + u3 := by rw [Int.zero_mul]; omega
    refine ⟨0, by omega, by omega, by simpa using hb, by simp; omega, ?_⟩
    rw [num_long_L1_eq]
    have e1 : ((n : Int) - 2).toNat = n - 2 := by omega
    have e2 : ((j : Int) + n - 2).toNat = j + n - 2 := by omega
    simp (disch := omega) only [dge_f, cond_false, i64_in, idx_in, get_in, Option.bind_some, e1, e2, gv2, gu3, Int.natCast_zero, Int.zero_mul, u64_in, dgt_f]
  | succ g ih =>
    intro rest ht h0 h1 hb
    have hgb : (g : Int) + 1 ≤ 1000000001 := by
      -- g v1 is at most the two top digits
      have h5 : (g + 1 : Nat) * v1 ≤ v1 * 1000000000 + 999999999 := by
        have : u1 * 1000000000 ≤ v1 * 1000000000 := by omega
        omega
      by_cases hc : (g : Int) + 1 ≤ 1000000001
      · exact hc
      · have h6 : (1000000002 : Int) * v1 ≤ (g + 1 : Nat) * v1 := Int.mul_le_mul_of_nonneg_right (by omega) (by omega)
        omega
    have e1 : ((n : Int) - 2).toNat = n - 2 := by omega
    have e1' : ((n : Int) - 1).toNat = n - 1 := by omega
    have e2 : ((j : Int) + n - 2).toNat = j + n - 2 := by omega
    have egc : ((g + 1 : Nat) : Int) = (g : Int) + 1 := by omega
    have egc' : (g : Int) + 1 - 1 = g := by omega
    rw [egc] at ht hb ⊢
    have hprod : 0 ≤ ((g : Int) + 1) * v2 ∧ ((g : Int) + 1) * v2 ≤ 1000000001 * 999999999 := by
      refine ⟨Int.mul_nonneg (by omega) hv2.1, ?_⟩
      have h7 : ((g : Int) + 1) * v2 ≤ 1000000001 * v2 := Int.mul_le_mul_of_nonneg_right hgb hv2.1
      omega
    have hdec : ((g : Int) + 1 ≥ 1000000000 ∨ ((g : Int) + 1) * v2 > rest * 1000000000 + u3) → R < ((g : Int) + 1) * V :=
      est_gt hP hVpos hvl0 hwl hV hR (by omega) ht hlt
    -- one step down
    have hstep : R < ((g : Int) + 1) * V → ∃ g' : Int, 0 ≤ g' ∧ g' ≤ 999999999 ∧ R < (g' + 1) * V ∧ g' * V < R + V ∧
        (bif decide (rest + v1 ≥ 1000000000) then num_long_L2 k v n j g 0 n 0 q u else num_long_L1 k v n j g (rest + v1) q u) = num_long_L2 k v n j g' 0 n 0 q u := fun hR' => by
      have ht' : u1 * 1000000000 + u2 = g * v1 + (rest + v1) := by rw [ht, Int.add_mul]; omega
      by_cases hbr : rest + v1 ≥ 1000000000
      · have hg9 : (g : Int) ≤ 999999999 := by
          by_cases hc : (g : Int) ≤ 999999999
          · exact hc
          · exfalso
            have h6 : (1000000000 : Int) * v1 ≤ (g : Int) * v1 := Int.mul_le_mul_of_nonneg_right (by omega) (by omega)
            have : u1 * 1000000000 ≤ v1 * 1000000000 := by omega
            omega
        have hle : (g : Int) * v2 ≤ (rest + v1) * 1000000000 + u3 := by
          have h7 : (g : Int) * v2 ≤ 999999999 * v2 := Int.mul_le_mul_of_nonneg_right hg9 hv2.1
          omega
        refine ⟨g, by omega, hg9, hR', est_le hP (by omega) hv2.1 hvl0 hvl hwl0 hV hR (by omega) hg9 ht' hle, ?_⟩
        rw [dge_t hbr, cond_true]
      · obtain ⟨g', h1', h2', h3', h4', h5'⟩ := ih (rest + v1) ht' (by omega) (by omega) hR'
        refine ⟨g', h1', h2', h3', h4', ?_⟩
        rw [dge_f hbr, cond_false]; exact h5'
    rw [num_long_L1_eq]
    by_cases hge : (g : Int) + 1 ≥ 1000000000
    · obtain ⟨g', h1', h2', h3', h4', h5'⟩ := hstep (hdec (.inl hge))
      refine ⟨g', h1', h2', h3', h4', ?_⟩
      rw [← h5', cge_t hge]
      simp (disch := omega) only [i64_in, bIdx, e1', gv1, u64_in, egc']
    · by_cases hgt : ((g : Int) + 1) * v2 > rest * 1000000000 + u3
      · obtain ⟨g', h1', h2', h3', h4', h5'⟩ := hstep (hdec (.inr hgt))
        refine ⟨g', h1', h2', h3', h4', ?_⟩
        rw [← h5', cge_f hge]
        simp (disch := omega) only [i64_in, bIdx, bGet, e1, e1', e2, gv1, gv2, gu3, u64_in, egc', cgt_t]
      · refine ⟨(g : Int) + 1, by omega, by omega, hb, est_le hP (by omega) hv2.1 hvl0 hvl hwl0 hV hR (by omega) (by omega) ht (by omega), ?_⟩
        rw [cge_f hge]
        simp (disch := omega) only [i64_in, bIdx, bGet, e1, e1', e2, gv1, gv2, gu3, u64_in, egc', cgt_f]
end
end Go.Proofs.Ytlpkaimkmfgpiaa.Ev
set_option linter.unusedVariables false
set_option linter.unusedSimpArgs false
namespace Go.Abs
theorem val_take3 {l : List Int} {m : Nat} (h : m + 2 < l.length) : val 1000000000 (l.take (m + 3)) = val 1000000000 (l.take m) + 1000000000 ^ m * (l.getD m 0 + 1000000000 * (l.getD (m + 1) 0 + 1000000000 * l.getD (m + 2) 0)) := by
  rw [take_succ' (show m + 2 < l.length by omega), take_succ' (show m + 1 < l.length by omega), take_succ' (show m < l.length by omega), List.append_assoc, List.append_assoc, val_append]
  have : (l.take m).length = m := by simp; omega
  rw [this]
  simp [val]
theorem val_take2 {l : List Int} {m : Nat} (h : m + 1 < l.length) : val 1000000000 (l.take (m + 2)) = val 1000000000 (l.take m) + 1000000000 ^ m * (l.getD m 0 + 1000000000 * l.getD (m + 1) 0) := by
  rw [take_succ' (show m + 1 < l.length by omega), take_succ' (show m < l.length by omega), List.append_assoc, val_append]
  have : (l.take m).length = m := by simp; omega
  rw [this]
  simp [val]
end Go.Abs
namespace Go.Proofs.Ytlpkaimkmfgpiaa.Ev
open Go.Abs Go.IntWalk

section
variable {k : Int} {v : List Int} {n j : Nat}

theorem long_L2_walk {g : Int} (hg : 0 ≤ g ∧ g < 1000000000) (hv : DU v) (hvn : v.length = n) : ∀ (m i : Nat) (b : Int) (u q : List Int), m + i = n → 0 ≤ b ∧ b ≤ 1000000000 → DU u → j + n < u.length → u.length ≤ 1000000000000 →
    num_long_L2 k v n j g b n i q u = num_long_L2 k v n j g (subL g (u.drop (j + i)) (v.drop i) b).2 n n q (u.take (j + i) ++ (subL g (u.drop (j + i)) (v.drop i) b).1) := by
  intro m
  induction m with
  | zero =>
    intro i b u q hi hb hu hju hul
    have : i = n := by omega
    subst this
    have h1 : v.drop i = [] := drop_nil (by omega)
    have h2 : ∀ (us : List Int), subL g us [] b = (us, b) := fun us => by cases us <;> rfl
    rw [h1, h2]
    simp only [List.take_append_drop]
  | succ m ih =>
    intro i b u q hi hb hu hju hul
    have hx := hu.getD (by omega) (j + i)
    have hy := hv.getD (by omega) i
    have hm := mulU hg hy
    have e1 : ((i : Int) + (j : Int)).toNat = j + i := by omega
    rw [num_long_L2_eq]
    have ih' := fun b u q => ih (i + 1) b u q (by omega)
    simp only [Int.natCast_add, Int.natCast_one] at ih'
    simp (disch := omega) only [clt_t, i64_in, bIdx, bGet, e1, Int.toNat_natCast]
    simp (disch := omega) only [i64_in, tmod_in, tdiv_in]
    rw [drop_eq (show i < v.length by omega), drop_eq (show j + i < u.length by omega)]
    simp only [subL]
    by_cases h1 : u.getD (j + i) 0 - b - g * v.getD i 0 % 1000000000 < 0
    · rw [clt_t h1, if_pos h1]
      by_cases h2 : u.getD (j + i) 0 - b - g * v.getD i 0 % 1000000000 + 1000000000 < 0
      · rw [if_pos h2]
        simp (disch := omega) only [i64_in, clt_t, bIdx, bGet, e1, u32_in]
        rw [ih' _ _ _ (by omega) (hu.set (by omega) (by omega) _) (by simpa using hju) (by simpa using hul)]
        rw [show j + (i + 1) = j + i + 1 by omega, set_take (by omega), set_drop]
        have e2 : g * v.getD i 0 / 1000000000 + 1 + 1 = g * v.getD i 0 / 1000000000 + 2 := by omega
        have e3 : u.getD (j + i) 0 - b - g * v.getD i 0 % 1000000000 + 1000000000 + 1000000000 = u.getD (j + i) 0 - b - g * v.getD i 0 % 1000000000 + 2000000000 := by omega
        rw [e2, e3]
        simp only [List.append_assoc, List.singleton_append]
      · rw [if_neg h2]
        simp (disch := omega) only [i64_in, clt_f, bIdx, bGet, e1, u32_in]
        rw [ih' _ _ _ (by omega) (hu.set (by omega) (by omega) _) (by simpa using hju) (by simpa using hul)]
        rw [show j + (i + 1) = j + i + 1 by omega, set_take (by omega), set_drop]
        simp only [List.append_assoc, List.singleton_append]
    · rw [clt_f h1, if_neg h1]
      simp (disch := omega) only [i64_in, clt_f, bIdx, bGet, e1, u32_in]
      rw [ih' _ _ _ (by omega) (hu.set (by omega) (by omega) _) (by simpa using hju) (by simpa using hul)]
      rw [show j + (i + 1) = j + i + 1 by omega, set_take (by omega), set_drop]
      simp only [List.append_assoc, List.singleton_append]

theorem long_L3_walk {g x : Int} (hv : DU v) (hvn : v.length = n) : ∀ (m i : Nat) (c : Int) (u q : List Int), m + i = n → 0 ≤ c ∧ c ≤ 1 → DU u → j + n < u.length → u.length ≤ 1000000000000 →
    num_long_L3 k v n j g x c n i q u = num_long_L3 k v n j g x (addL (u.drop (j + i)) (v.drop i) c).2 n n q (u.take (j + i) ++ (addL (u.drop (j + i)) (v.drop i) c).1) := by
  intro m
  induction m with
  | zero =>
    intro i b u q hi hb hu hju hul
    have : i = n := by omega
    subst this
    have h1 : v.drop i = [] := drop_nil (by omega)
    have h2 : ∀ (us : List Int), addL us [] b = (us, b) := fun us => by cases us <;> rfl
    rw [h1, h2]
    simp only [List.take_append_drop]
  | succ m ih =>
    intro i c u q hi hc hu hju hul
    have hx := hu.getD (by omega) (j + i)
    have hy := hv.getD (by omega) i
    have e1 : ((i : Int) + (j : Int)).toNat = j + i := by omega
    rw [num_long_L3_eq]
    have ih' := fun b u q => ih (i + 1) b u q (by omega)
    simp only [Int.natCast_add, Int.natCast_one] at ih'
    simp (disch := omega) only [clt_t, i64_in, bIdx, bGet, e1, Int.toNat_natCast, u32_in]
    simp (disch := omega) only [u32_in, tmod_in, tdiv_in]
    rw [drop_eq (show i < v.length by omega), drop_eq (show j + i < u.length by omega)]
    simp only [addL]
    rw [ih' _ _ _ (by omega) (hu.set (by omega) (by omega) _) (by simpa using hju) (by simpa using hul)]
    rw [show j + (i + 1) = j + i + 1 by omega, set_take (by omega), set_drop]
    simp only [List.append_assoc, List.singleton_append]

set_option maxHeartbeats 2000000 in
/-- One digit of the quotient. -/
theorem long_step (hv : DU v) (hvn : v.length = n) (hn : 2 ≤ n) (hv1 : 500000000 ≤ v.getD (n - 1) 0) {u q : List Int} (hu : DU u) (hju : j + n < u.length) (hul : u.length ≤ 1000000000000) (hq : j < q.length) (hql : q.length ≤ 1000000000000)
    (hlt : VU ((u.drop j).take (n + 1)) < VU v * 1000000000) :
    ∃ u', num_long_L0 k v n j q u = num_long_L0 k v n ((j : Int) - 1) (q.set j (VU ((u.drop j).take (n + 1)) / VU v)) u' ∧ u'.length = u.length ∧ DU u' ∧ u'.take j = u.take j ∧ VU ((u'.drop j).take n) = VU ((u.drop j).take (n + 1)) % VU v := by
  obtain ⟨m, rfl⟩ : ∃ m, n = m + 2 := ⟨n - 2, by omega⟩
  -- the digits
  have hdl : (u.drop j).length = u.length - j := by simp
  have hR := val_take3 (l := u.drop j) (m := m) (by rw [hdl]; omega)
  have hV := val_take2 (l := v) (m := m) (by omega)
  rw [show v.take (m + 2) = v from List.take_of_length_le (by omega)] at hV
  simp only [getD_drop] at hR
  have hP : (0 : Int) < 1000000000 ^ m := Int.pow_pos (by omega)
  have hwl0 := val_nonneg (B := 1000000000) (by omega) ((hu.drop j).take m)
  have hwl := val_lt (B := 1000000000) (by omega) ((hu.drop j).take m)
  have hvl0 := val_nonneg (B := 1000000000) (by omega) (hv.take m)
  have hvl := val_lt (B := 1000000000) (by omega) (hv.take m)
  rw [show ((u.drop j).take m).length = m by rw [List.length_take, hdl]; omega] at hwl
  rw [show (v.take m).length = m by rw [List.length_take]; omega] at hvl
  have b1 := hv.getD (by omega) (m + 1)
  have b2 := hv.getD (by omega) m
  have c1 := hu.getD (by omega) (j + (m + 2))
  have c2 := hu.getD (by omega) (j + (m + 1))
  have c3 := hu.getD (by omega) (j + m)
  have hv1' : 500000000 ≤ v.getD (m + 1) 0 := hv1
  have hu1v := est_u1 hP hvl hwl0 hV hR b2.2 c3.1 c2.1 hlt
  have hVpos : 0 < VU v := by
    have e5 : (1000000000 : Int) ^ m * 1 ≤ 1000000000 ^ m * v.getD (m + 1) 0 := Int.mul_le_mul_of_nonneg_left (by omega) (by omega)
    have e6 : 0 ≤ (1000000000 : Int) ^ m * v.getD m 0 := Int.mul_nonneg (by omega) b2.1
    have hV' : VU v = _ := hV
    simp only [Int.mul_add, Int.mul_one, Int.mul_left_comm ((1000000000 : Int) ^ m) 1000000000] at hV' e5
    omega
  -- the first estimate
  have htop0 : 0 ≤ u.getD (j + (m + 2)) 0 * 1000000000 + u.getD (j + (m + 1)) 0 := by omega
  obtain ⟨g0, hg0⟩ : ∃ g0 : Nat, (u.getD (j + (m + 2)) 0 * 1000000000 + u.getD (j + (m + 1)) 0) / v.getD (m + 1) 0 = g0 := Int.eq_ofNat_of_zero_le (Int.ediv_nonneg htop0 (by omega))
  have hdm := Int.mul_ediv_add_emod (u.getD (j + (m + 2)) 0 * 1000000000 + u.getD (j + (m + 1)) 0) (v.getD (m + 1) 0)
  have hr0 := Int.emod_nonneg (u.getD (j + (m + 2)) 0 * 1000000000 + u.getD (j + (m + 1)) 0) (show v.getD (m + 1) 0 ≠ 0 by omega)
  have hr1 := Int.emod_lt_of_pos (u.getD (j + (m + 2)) 0 * 1000000000 + u.getD (j + (m + 1)) 0) (show 0 < v.getD (m + 1) 0 by omega)
  rw [hg0, Int.mul_comm] at hdm
  have hbig : val 1000000000 (List.take (m + 3) (List.drop j u)) < ((g0 : Int) + 1) * VU v := by
    -- the two top digits are less than (g0 + 1) v1
    refine est_top hP hvl0 hwl hV hR b2.1 c3.2 (by omega) ?_
    rw [Int.add_mul]; omega
  obtain ⟨g, hg1, hg2, hg3, hg4, hL1⟩ := long_L1_walk (k := k) (q := q) hP hvl0 hvl hwl0 hwl hV hR ⟨hv1', b1.2⟩ b2 c1 c2 c3 hlt hn hvn hju hul rfl rfl rfl g0 _ hdm.symm hr0 (by omega) hbig
  change VU ((u.drop j).take (m + 2 + 1)) < (g + 1) * VU v at hg3
  change g * VU v < VU ((u.drop j).take (m + 2 + 1)) + VU v at hg4
  -- the walk as far as the subtraction
  have hgb : (g0 : Int) ≤ 1000000001 := by
    by_cases hc : (g0 : Int) ≤ 1000000001
    · exact hc
    · exfalso
      have h6 : (1000000002 : Int) * v.getD (m + 1) 0 ≤ (g0 : Int) * v.getD (m + 1) 0 := Int.mul_le_mul_of_nonneg_right (by omega) (by omega)
      omega
  have w1 : num_long_L0 k v ((m + 2 : Nat) : Int) j q u = num_long_L1 k v ((m + 2 : Nat) : Int) j g0 ((u.getD (j + (m + 2)) 0 * 1000000000 + u.getD (j + (m + 1)) 0) % v.getD (m + 1) 0) q u := by
    rw [num_long_L0_eq]
    have e1 : ((j : Int) + ((m + 2 : Nat) : Int)).toNat = j + (m + 2) := by omega
    have e2 : ((j : Int) + ((m + 2 : Nat) : Int) - 1).toNat = j + (m + 1) := by omega
    have e3 : (((m + 2 : Nat) : Int) - 1).toNat = m + 1 := by omega
    simp (disch := omega) only [cge_t, i64_in, bIdx, bGet, e1, e2, e3, u64_in, ceq_f]
    simp (disch := omega) only [u64_in, ceq_f, tmod_in, tdiv_in, hg0]
  -- the subtraction
  have hus : ((u.drop j).take (m + 2)).length = v.length := by rw [List.length_take, hdl]; omega
  have hcutu : u.drop j = (u.drop j).take (m + 2) ++ (u.getD (j + (m + 2)) 0 :: u.drop (j + (m + 2) + 1)) := by
    conv => lhs; rw [list_cut (u.drop j) (m + 2)]
    rw [List.drop_drop, drop_eq (show j + (m + 2) < u.length by omega)]
  obtain ⟨r, b', hs1, hs2, hs3, hs4, hs5⟩ := subL_val (g := g) ⟨hg1, by omega⟩ ((u.drop j).take (m + 2)) v (u.getD (j + (m + 2)) 0 :: u.drop (j + (m + 2) + 1)) 0 hus ((hu.drop j).take _) hv ⟨by omega, by omega⟩
  have w2 := long_L2_walk (k := k) (j := j) (g := g) ⟨hg1, by omega⟩ hv hvn (m + 2) 0 0 u q (by omega) ⟨by omega, by omega⟩ hu hju hul
  simp only [Nat.add_zero, List.drop_zero, Int.natCast_zero] at w2
  rw [hcutu, hs1] at w2
  have hRw : VU ((u.drop j).take (m + 2 + 1)) = VU ((u.drop j).take (m + 2)) + 1000000000 ^ (m + 2) * u.getD (j + (m + 2)) 0 := by
    rw [take_succ' (show m + 2 < (u.drop j).length by rw [hdl]; omega), VU, val_append, getD_drop, hus, hvn]
    simp [val]
  have hr_lt := val_lt (B := 1000000000) (by omega) hs3
  have hr_nn := val_nonneg (B := 1000000000) (by omega) hs3
  have hV_lt := val_lt (B := 1000000000) (by omega) hv
  rw [hs4, hus, hvn] at hr_lt
  rw [hvn] at hV_lt hs2
  change VU ((u.drop j).take (m + 2)) - 0 - g * VU v = VU r - 1000000000 ^ (m + 2) * b' at hs2
  change VU r < _ at hr_lt
  change 0 ≤ VU r at hr_nn
  change VU v < _ at hV_lt
  have hjl : (u.take j).length = j := by simp; omega
  have hu1 : DU (u.take j ++ (r ++ u.getD (j + (m + 2)) 0 :: u.drop (j + (m + 2) + 1))) := (hu.take j).append (hs3.append (Dig.cons c1.1 c1.2 (hu.drop _)))
  have hu1l : (u.take j ++ (r ++ u.getD (j + (m + 2)) 0 :: u.drop (j + (m + 2) + 1))).length = u.length := by
    simp [hs4, hus, hvn]; omega
  have hx1 : (u.take j ++ (r ++ u.getD (j + (m + 2)) 0 :: u.drop (j + (m + 2) + 1))).getD (j + (m + 2)) 0 = u.getD (j + (m + 2)) 0 := by
    have hrl : r.length = m + 2 := by rw [hs4, hus, hvn]
    rw [List.getD, List.getElem?_append_right (by omega), List.getElem?_append_right (by omega)]
    simp [hjl, hrl]
  have hset : ∀ (r : List Int) (y : Int), r.length = m + 2 → (u.take j ++ (r ++ u.getD (j + (m + 2)) 0 :: u.drop (j + (m + 2) + 1))).set (j + (m + 2)) y = u.take j ++ (r ++ y :: u.drop (j + (m + 2) + 1)) := fun r y hrl => by
    rw [List.set_append_right _ _ (by omega), List.set_append_right _ _ (by omega)]
    simp [hjl, hrl]
  have hdt : ∀ (r : List Int) (y : Int), r.length = m + 2 → ((u.take j ++ (r ++ y :: u.drop (j + (m + 2) + 1))).drop j).take (m + 2) = r := fun r y hrl => by
    have h1 : (u.take j ++ (r ++ y :: u.drop (j + (m + 2) + 1))).drop j = r ++ y :: u.drop (j + (m + 2) + 1) := List.drop_left' hjl
    rw [h1]; exact List.take_left' hrl
  have htk : ∀ (l : List Int), (u.take j ++ l).take j = u.take j := fun l => List.take_left' hjl
  have e1 : ((j : Int) + ((m + 2 : Nat) : Int)).toNat = j + (m + 2) := by omega
  have hPn : (0 : Int) < 1000000000 ^ (m + 2) := Int.pow_pos (by omega)
  have hid : VU ((u.drop j).take (m + 2 + 1)) - g * VU v = VU r + 1000000000 ^ (m + 2) * (u.getD (j + (m + 2)) 0 - b') := by
    rw [hRw, Int.mul_sub]
    omega
  rw [w1, hL1, w2, num_long_L2_eq]
  by_cases hneg : u.getD (j + (m + 2)) 0 - b' < 0
  · -- one too many
    have hneg' : VU ((u.drop j).take (m + 2 + 1)) < g * VU v := by
      have h1 : (1000000000 : Int) ^ (m + 2) * (u.getD (j + (m + 2)) 0 - b' + 1) ≤ 1000000000 ^ (m + 2) * 0 := Int.mul_le_mul_of_nonneg_left (by omega) (by omega)
      rw [Int.mul_add, Int.mul_zero, Int.mul_one] at h1
      omega
    have hgpos : 1 ≤ g := by
      by_cases hc : 1 ≤ g
      · exact hc
      · exfalso
        have : g = 0 := by omega
        subst this
        have := VU_nonneg ((hu.drop j).take (m + 2 + 1))
        rw [Int.zero_mul] at hneg'
        omega
    have hq : VU ((u.drop j).take (m + 2 + 1)) / VU v = g - 1 ∧ VU ((u.drop j).take (m + 2 + 1)) % VU v = VU ((u.drop j).take (m + 2 + 1)) - (g - 1) * VU v := by
      have h1 : (g - 1) * VU v = g * VU v - VU v := by rw [Int.sub_mul, Int.one_mul]
      have h2 : VU ((u.drop j).take (m + 2 + 1)) = (VU ((u.drop j).take (m + 2 + 1)) - (g - 1) * VU v) + VU v * (g - 1) := by rw [Int.mul_comm (VU v)]; omega
      have h3 : 0 ≤ VU ((u.drop j).take (m + 2 + 1)) - (g - 1) * VU v := by rw [h1]; omega
      have h4 : VU ((u.drop j).take (m + 2 + 1)) - (g - 1) * VU v < VU v := by rw [h1]; omega
      constructor
      · rw [h2, Int.add_mul_ediv_left _ _ (by omega), Int.ediv_eq_zero_of_lt h3 h4]; omega
      · conv => lhs; rw [h2]
        rw [Int.add_mul_emod_self_left, Int.emod_eq_of_lt h3 h4]
    obtain ⟨r2, cc, ha1, ha2, ha3, ha4, ha5⟩ := addL_val r v (u.getD (j + (m + 2)) 0 :: u.drop (j + (m + 2) + 1)) 0 (by rw [hs4, hus]) hs3 hv ⟨by omega, by omega⟩
    have w3 := long_L3_walk (k := k) (j := j) (g := g - 1) (x := u.getD (j + (m + 2)) 0 - b') hv hvn (m + 2) 0 0 _ q (by omega) ⟨by omega, by omega⟩ hu1 (by rw [hu1l]; exact hju) (by rw [hu1l]; exact hul)
    have hdj : (u.take j ++ (r ++ u.getD (j + (m + 2)) 0 :: u.drop (j + (m + 2) + 1))).drop j = r ++ u.getD (j + (m + 2)) 0 :: u.drop (j + (m + 2) + 1) := List.drop_left' hjl
    simp only [Nat.add_zero, List.drop_zero, Int.natCast_zero] at w3
    rw [hdj, ha1, htk] at w3
    have hr2l : r2.length = m + 2 := by rw [ha4, hs4, hus, hvn]
    have hu2 : DU (u.take j ++ (r2 ++ u.getD (j + (m + 2)) 0 :: u.drop (j + (m + 2) + 1))) := (hu.take j).append (ha3.append (Dig.cons c1.1 c1.2 (hu.drop _)))
    have hu2l : (u.take j ++ (r2 ++ u.getD (j + (m + 2)) 0 :: u.drop (j + (m + 2) + 1))).length = u.length := by
      simp [hr2l]; omega
    refine ⟨u.take j ++ (r2 ++ 0 :: u.drop (j + (m + 2) + 1)), ?_, by simp [hr2l]; omega, (hu.take j).append (ha3.append (Dig.cons (by omega) (by omega) (hu.drop _))), htk _, ?_⟩
    · simp (disch := omega) only [clt_f, i64_in, bIdx, bGet, e1, hx1]
      simp (disch := omega) only [clt_t, i64_in, u64_in]
      rw [w3, num_long_L3_eq, hq.1]
      simp (disch := omega) only [clt_f, i64_in, bIdx, bGet, e1, u32_in, hset r2 0 hr2l, Int.toNat_natCast]
    · rw [hdt r2 0 hr2l, hq.2]
      -- the carry takes the missing unit
      have hr2_lt := val_lt (B := 1000000000) (by omega) ha3
      have hr2_nn := val_nonneg (B := 1000000000) (by omega) ha3
      rw [hr2l] at hr2_lt
      rw [hvn] at ha2
      change VU r + VU v + 0 = VU r2 + 1000000000 ^ (m + 2) * cc at ha2
      change VU r2 < _ at hr2_lt
      change 0 ≤ VU r2 at hr2_nn
      have h1 : VU ((u.drop j).take (m + 2 + 1)) - (g - 1) * VU v = VU r2 + 1000000000 ^ (m + 2) * (u.getD (j + (m + 2)) 0 - b' + cc) := by
        rw [Int.sub_mul, Int.one_mul, Int.mul_add]
        omega
      have h3 : 0 ≤ VU ((u.drop j).take (m + 2 + 1)) - (g - 1) * VU v := by rw [Int.sub_mul, Int.one_mul]; omega
      have h4 : VU ((u.drop j).take (m + 2 + 1)) - (g - 1) * VU v < VU v := by rw [Int.sub_mul, Int.one_mul]; omega
      have h5 : u.getD (j + (m + 2)) 0 - b' + cc = 0 := by
        by_cases hp : u.getD (j + (m + 2)) 0 - b' + cc ≥ 1
        · exfalso
          have := Int.mul_le_mul_of_nonneg_left hp (show (0 : Int) ≤ 1000000000 ^ (m + 2) by omega)
          rw [Int.mul_one] at this
          omega
        · by_cases hm : u.getD (j + (m + 2)) 0 - b' + cc ≤ -1
          · exfalso
            have := Int.mul_le_mul_of_nonneg_left hm (show (0 : Int) ≤ 1000000000 ^ (m + 2) by omega)
            rw [Int.mul_neg, Int.mul_one] at this
            omega
          · omega
      rw [h1, h5]; simp
  · -- just right
    have hpos' : g * VU v ≤ VU ((u.drop j).take (m + 2 + 1)) := by
      have h1 : (0 : Int) ≤ 1000000000 ^ (m + 2) * (u.getD (j + (m + 2)) 0 - b') := Int.mul_nonneg (by omega) (by omega)
      omega
    have h3 : VU ((u.drop j).take (m + 2 + 1)) - g * VU v < VU v := by
      have : ((g : Int) + 1) * VU v = g * VU v + VU v := by rw [Int.add_mul, Int.one_mul]
      rw [this] at hg3
      omega
    have hq : VU ((u.drop j).take (m + 2 + 1)) / VU v = g ∧ VU ((u.drop j).take (m + 2 + 1)) % VU v = VU ((u.drop j).take (m + 2 + 1)) - g * VU v := by
      have h2 : VU ((u.drop j).take (m + 2 + 1)) = (VU ((u.drop j).take (m + 2 + 1)) - g * VU v) + VU v * g := by rw [Int.mul_comm (VU v)]; omega
      constructor
      · rw [h2, Int.add_mul_ediv_left _ _ (by omega), Int.ediv_eq_zero_of_lt (by omega) h3]; omega
      · conv => lhs; rw [h2]
        rw [Int.add_mul_emod_self_left, Int.emod_eq_of_lt (by omega) h3]
    have hrl : r.length = m + 2 := by rw [hs4, hus, hvn]
    have h5 : u.getD (j + (m + 2)) 0 - b' = 0 := by
      by_cases hp : u.getD (j + (m + 2)) 0 - b' ≥ 1
      · exfalso
        have := Int.mul_le_mul_of_nonneg_left hp (show (0 : Int) ≤ 1000000000 ^ (m + 2) by omega)
        rw [Int.mul_one] at this
        omega
      · omega
    refine ⟨u.take j ++ (r ++ 0 :: u.drop (j + (m + 2) + 1)), ?_, by simp [hrl]; omega, (hu.take j).append (hs3.append (Dig.cons (by omega) (by omega) (hu.drop _))), htk _, ?_⟩
    · rw [hq.1]
      simp (disch := omega) only [clt_f, i64_in, bIdx, bGet, e1, hx1]
      simp (disch := omega) only [clt_f, i64_in, bIdx, bGet, e1, u32_in, hset r 0 hrl, Int.toNat_natCast]
    · rw [hdt r 0 hrl, hq.2, hid, h5]; simp
end
end Go.Proofs.Ytlpkaimkmfgpiaa.Ev
