/- A part of the proof: the reference implementation computes what the package computes. No condition. -/
import Derived.Test.YtlpkaimkmfgpiaaXl
set_option linter.unusedVariables false
set_option linter.unusedSimpArgs false
set_option linter.unusedSectionVars false
set_option exponentiation.threshold 2000
namespace Go.Abs
/-- The digits of a text from the lowest one on. -/
def dgOf (l : List Int) : List Int := ((l.filter (fun c => c != 45)).reverse).map (· - 48)
theorem dgOf_append (l m : List Int) : dgOf (l ++ m) = dgOf m ++ dgOf l := by simp [dgOf]
theorem filt1 {c : Int} (h : ¬ c = 45) : ([c] : List Int).filter (fun c => c != 45) = [c] := by simp [List.filter_cons, h]
theorem dgOf1 {c : Int} (h : ¬ c = 45) : dgOf [c] = [c - 48] := by simp [dgOf, List.filter_cons, h]
theorem filter_natT (n : Nat) : (natT n).filter (fun c => c != 45) = natT n := by
  apply List.filter_eq_self.2
  intro c hc
  have := natT_range n c hc
  simp; omega
theorem dgOf_natT (n : Nat) : trimL (dgOf (natT n)) = dX n := by
  unfold dgOf
  rw [filter_natT]
  unfold natT
  split
  · rename_i h; subst h; rw [dX, dig_zero]; rfl
  · rw [List.reverse_reverse]
    have : (chr (dX n)).map (· - 48) = dX n := by
      simp only [chr, List.map_map]
      conv => rhs; rw [← List.map_id (dX n)]
      apply List.map_congr_left
      intro c _
      simp only [Function.comp, id]; omega
    rw [this]
    exact trimL_of_dig (B := 10) (by omega) n
theorem dgOf_txtL (z : Int) : trimL (dgOf (txtL z)) = dX z.natAbs := by
  unfold txtL
  rw [dgOf_append]
  have : dgOf (if z < 0 then [45] else []) = [] := by split <;> rfl
  rw [this, List.append_nil, dgOf_natT]

theorem nd_dX (z : Int) : (dX z.natAbs).length ≤ nd z := by unfold nd; rw [natT_length]; omega
theorem dX_le {m n : Nat} (h : m ≤ n) : (dX m).length ≤ (dX n).length := by
  have l2 := (dig_length_le (B := 10) (by omega) (dX n).length n).1 (Nat.le_refl _)
  exact (dig_length_le (B := 10) (by omega) (dX n).length m).2 (by omega)
theorem nd_mono {x y : Int} (h : x.natAbs ≤ y.natAbs) : nd x ≤ nd y := by
  unfold nd; rw [natT_length, natT_length]
  have := dX_le h
  omega
theorem nd_pos (z : Int) : 1 ≤ nd z := by unfold nd; rw [natT_length]; omega
theorem nd_pow (z : Int) : z.natAbs < 10 ^ nd z := (nd_le_iff z _ (nd_pos z)).1 (Nat.le_refl _)
theorem nd_add (x y : Int) : nd (x + y) ≤ max (nd x) (nd y) + 1 := by
  rw [nd_le_iff _ _ (by omega), Nat.pow_succ]
  have h1 := nd_pow x
  have h2 := nd_pow y
  have h3 : 10 ^ nd x ≤ 10 ^ max (nd x) (nd y) := Nat.pow_le_pow_right (by omega) (Nat.le_max_left _ _)
  have h4 : 10 ^ nd y ≤ 10 ^ max (nd x) (nd y) := Nat.pow_le_pow_right (by omega) (Nat.le_max_right _ _)
  omega
theorem nd_sub (x y : Int) : nd (x - y) ≤ max (nd x) (nd y) + 1 := by
  have := nd_add x (-y)
  rw [nd_neg] at this
  exact this
theorem nd_mul (x y : Int) : nd (x * y) ≤ nd x + nd y := by
  rw [nd_le_iff _ _ (by have := nd_pos x; omega), Int.natAbs_mul, Nat.pow_add]
  exact Nat.mul_lt_mul'' (nd_pow x) (nd_pow y)
theorem nd_small {x : Int} (h : x.natAbs < 10) : nd x = 1 := by
  have h1 := (nd_le_iff x 1 (by omega)).2 (by omega)
  have := nd_pos x
  omega
/-- Not too long for the machine. -/
def Bd (z : Int) : Prop := nd z ≤ 100000
end Go.Abs

namespace Go.Proofs.Ytlpkaimkmfgpiaa.Ev
open Go.Abs Go.IntWalk

/-! ### digits -/
theorem rdigits_walk {s : ByteArray} {minus : Bool} (hs : s.size ≤ 100000000000) : ∀ (k : Nat) (d : List Int), k ≤ s.size → d.length + k ≤ 1000000000000 →
    torusref02_digits_L0 s minus ((k : Int) - 1) d = some (minus, trimL (d ++ dgOf ((bytesOf s).take k))) := by
  intro k
  induction k with
  | zero =>
    intro d hk hd
    rw [torusref02_digits_L0_eq, cge_f (by omega), rtrim_ok (by omega), bS]
    simp [dgOf]
  | succ k ih =>
    intro d hk hd
    have hb := (bytesOf_range s).getD (by omega) k
    have hl := bytesOf_length s
    have e : ((k + 1 : Nat) : Int) - 1 = k := by omega
    rw [torusref02_digits_L0_eq, e, cge_t (by omega), sidx_eq, idx_in (by omega) (by omega), bS, Int.toNat_natCast, take_succ' (show k < (bytesOf s).length by omega), dgOf_append]
    by_cases h : (bytesOf s).getD k 0 = 45
    · rw [cne_f h, i64_in _ (by omega), ih d (by omega) (by omega)]
      have : dgOf [(bytesOf s).getD k 0] = [] := by rw [h]; rfl
      rw [this, List.nil_append]
    · rw [cne_t h, bS]
      simp (disch := omega) only [i64_in, cApp]
      rw [ih _ (by omega) (by simp; omega)]
      rw [dgOf1 h, List.append_assoc]

theorem T10_head (z : Int) : (T10 z).size > 0 ∧ (bytesOf (T10 z)).getD 0 0 = (if z < 0 then 45 else (natT z.natAbs).getD 0 0) := by
  have hn := natT_ne z.natAbs
  constructor
  · rw [← bytesOf_length, bytesOf_T10]
    unfold txtL
    have : 0 < (natT z.natAbs).length := List.length_pos_iff.2 hn
    simp; omega
  · rw [bytesOf_T10]
    unfold txtL
    split <;> rfl

theorem natT_getD0 (n : Nat) : (natT n).getD 0 0 ≠ 45 := by
  have hn := natT_ne n
  have h1 := natT_range n
  cases h : natT n with
  | nil => exact absurd h hn
  | cons c r =>
    rw [h] at h1
    have := h1 c (by simp)
    simp; omega

theorem T10_minus (z : Int) : ((bytesOf (T10 z)).getD 0 0 == 45) = decide (z < 0) := by
  rw [(T10_head z).2]
  by_cases h : z < 0
  · rw [if_pos h, decide_eq_true h]; rfl
  · rw [if_neg h, decide_eq_false h]
    exact beq_f (natT_getD0 _)

theorem T10_size_le (z : Int) : (T10 z).size ≤ nd z + 1 := by rw [T10_size]; split <;> omega

theorem rdigits_ok {z : Int} (hz : Bd z) : torusref02_digits (T10 z) = some (decide (z < 0), dX z.natAbs) := by
  have h1 := (T10_head z).1
  have hsz := T10_size_le z
  unfold Bd at hz
  have hl := bytesOf_length (T10 z)
  rw [torusref02_digits_eq, cgt_t (by omega), sidx_eq, idx_in (by omega) (by omega), bS]
  have e0 : (0 : Int).toNat = 0 := rfl
  rw [e0, T10_minus, i64_in _ (by omega), rdigits_walk (by omega) _ [] (Nat.le_refl _) (by simp; omega), List.nil_append, ← hl, List.take_length, bytesOf_T10, dgOf_txtL]

/-! ### Digits, Long, Valid, Is -/
theorem rDigits_ok {s : ByteArray} (hs : BigOk s) : torusref02_Digits s = some ((bodyOf (bytesOf s)).length : Int) := by
  have hl := bytesOf_length s
  unfold BigOk at hs
  rw [torusref02_Digits_eq]
  by_cases h : s.size > 0
  · rw [cgt_t (by omega), sidx_eq, idx_in (by omega) (by omega), bS]
    have e0 : (0 : Int).toNat = 0 := rfl
    rw [e0]
    cases hb : bytesOf s with
    | nil => rw [hb] at hl; simp at hl; omega
    | cons c r =>
      rw [hb] at hl
      have : (c :: r).getD 0 0 = c := rfl
      rw [this]
      by_cases hc : c = 45
      · subst hc
        rw [ceq_t rfl, i64_in _ (by omega)]
        have : bodyOf (45 :: r) = r := by simp [bodyOf]
        rw [this]
        simp at hl
        congr 1; omega
      · rw [ceq_f hc]
        have : bodyOf (c :: r) = c :: r := by unfold bodyOf; rw [if_neg (by simp; exact hc)]
        rw [this, hl]
  · have hb : bytesOf s = [] := List.length_eq_zero_iff.1 (by omega)
    rw [cgt_f (by omega), hb]
    have : s.size = 0 := by omega
    rw [this]; rfl

theorem rLong_ok {s : ByteArray} (hs : BigOk s) : torusref02_Long s = some (decide ((bodyOf (bytesOf s)).length > 1000)) := by
  rw [torusref02_Long_eq, rDigits_ok hs, bS]
  congr 1
  exact decide_eq_decide.2 (by omega)

theorem body_T10 (z : Int) : bodyOf (bytesOf (T10 z)) = natT z.natAbs := by
  rw [bytesOf_T10]
  unfold bodyOf txtL
  by_cases h : z < 0
  · simp [h]
  · have : (natT z.natAbs).head? ≠ some 45 := by
      intro e
      have : (45 : Int) ∈ natT z.natAbs := List.mem_of_mem_head? (by rw [e]; rfl)
      have := natT_range _ _ this
      omega
    simp [h, this]

theorem rValid_walk {s : ByteArray} (hs : s.size ≤ 140737488355328) : ∀ (m k : Nat), m + k = s.size → torusref02_Valid_L0 s k = some (((bytesOf s).drop k).all isD) := by
  intro m
  have hl := bytesOf_length s
  induction m with
  | zero =>
    intro k hk
    rw [torusref02_Valid_L0_eq, clt_f (by omega), drop_nil (by omega)]; rfl
  | succ m ih =>
    intro k hk
    have hb := (bytesOf_range s).getD (by omega) k
    have ih' := ih (k + 1) (by omega)
    simp only [Int.natCast_add, Int.natCast_one] at ih'
    rw [torusref02_Valid_L0_eq, clt_t (by omega), sidx_eq, idx_in (by omega) (by omega), bS, Int.toNat_natCast, drop_eq (show k < (bytesOf s).length by omega), List.all_cons, bS]
    by_cases h1 : (bytesOf s).getD k 0 < 48
    · have : isD ((bytesOf s).getD k 0) = false := by
        cases hd : isD ((bytesOf s).getD k 0) with
        | false => rfl
        | true => have := (isD_iff _).1 hd; omega
      rw [clt_t h1, this]; rfl
    · rw [clt_f h1]
      by_cases h2 : (bytesOf s).getD k 0 > 57
      · have : isD ((bytesOf s).getD k 0) = false := by
          cases hd : isD ((bytesOf s).getD k 0) with
          | false => rfl
          | true => have := (isD_iff _).1 hd; omega
        rw [cgt_t h2, this]; rfl
      · rw [cgt_f h2, (isD_iff _).2 (by omega), Bool.true_and, i64_in _ (by omega), ih']

theorem rValid_ok {s : ByteArray} (hs : BigOk s) : torusref02_Valid s = some (okText (bytesOf s)) := by
  have hl := bytesOf_length s
  unfold BigOk at hs
  have walk0 : ∀ t : ByteArray, t.size ≤ 140737488355328 → torusref02_Valid_L0 t 0 = some ((bytesOf t).all isD) := fun t ht => by
    have := rValid_walk ht t.size 0 (by omega)
    simpa using this
  rw [torusref02_Valid_eq]
  have e0 : (0 : Int).toNat = 0 := rfl
  by_cases h : s.size > 0
  · rw [cgt_t (by omega), sidx_eq, idx_in (by omega) (by omega), bS, e0]
    cases hb : bytesOf s with
    | nil => rw [hb] at hl; simp at hl; omega
    | cons c r =>
      rw [hb] at hl
      have hgc : (c :: r).getD 0 0 = c := rfl
      rw [hgc]
      by_cases hc : c = 45
      · subst hc
        have hbo : bodyOf (45 :: r) = r := by simp [bodyOf]
        have hmo : minusOf (45 :: r) = true := rfl
        have e1 : (1 : Int).toNat = 1 := rfl
        have hx : bytesOf (s.extract 1 s.size) = r := by
          rw [bytesOf_extract, hb, ← hl, List.take_length]; rfl
        have hxs : (s.extract 1 s.size).size = r.length := by rw [← bytesOf_length, hx]
        have hrl : r.length + 1 = s.size := by simpa using hl
        rw [ceq_t rfl, cCut (by omega) (by omega) (by omega)]
        simp only [e1, Int.toNat_natCast]
        have hok : okText (45 :: r) = (r.all isD && !r.isEmpty && (!(r.head? == some 48) || (r.length == 1 && false))) := by
          unfold okText; rw [hbo, hmo]; rfl
        rw [hxs, hok]
        cases r with
        | nil =>
          simp only [List.length_nil]
          rw [cgt_f (by omega), ceq_t (by rfl)]
          try rfl
        | cons c2 r2 =>
          rw [cgt_t (by simp), sidx_eq, hx]
          have hi : idx (c2 :: r2) (0 : Int) = some c2 := rfl
          rw [hi, bS]
          by_cases h48 : c2 = 48
          · subst h48
            rw [ceq_t rfl]
            simp
          · rw [ceq_f h48, ceq_f (by simp; omega), bS, ceq_f h48, walk0 _ (by rw [hxs]; omega), hx]
            have : (some c2 == some 48) = false := by simpa using h48
            simp [this, h48]
      · have hbo : bodyOf (c :: r) = c :: r := by unfold bodyOf; rw [if_neg (by simp; exact hc)]
        have hmo : minusOf (c :: r) = false := by simpa [minusOf] using hc
        have hok : okText (c :: r) = ((c :: r).all isD && (!(c == 48) || (c :: r).length == 1)) := by
          unfold okText; rw [hbo, hmo]; simp
        rw [ceq_f hc, ceq_f (by omega), bS, walk0 _ hs, hb, hok]
        by_cases h48 : c = 48
        · subst h48
          rw [ceq_t rfl]
          cases r with
          | nil => rw [cgt_f (by rw [← hl]; simp)]; rfl
          | cons c2 r2 => rw [cgt_t (by rw [← hl]; simp; omega)]; simp
        · rw [ceq_f h48]
          have : (c == 48) = false := beq_f h48
          simp [this]
  · have hb : bytesOf s = [] := List.length_eq_zero_iff.1 (by omega)
    rw [cgt_f (by omega), ceq_t (by omega), hb]; rfl

theorem rIs_ok {s : ByteArray} (hs : BigOk s) : torusref02_Is s = some (intOf s).isSome := by
  rw [torusref02_Is_eq, rLong_ok hs, bS, rValid_ok hs]
  by_cases h : (bodyOf (bytesOf s)).length > 1000
  · rw [decide_eq_true h]
    simp only [Bool.not_true, cF]
    congr 1
    cases hi : intOf s with
    | none => rfl
    | some z =>
      obtain ⟨h1, h2⟩ := intOf_some hi
      rw [h1, body_T10] at h
      unfold Sm nd at h2
      omega
  · rw [decide_eq_false h]
    simp only [Bool.not_false, cT, bS]
    congr 1
    unfold intOf
    cases ho : okText (bytesOf s) with
    | false => rfl
    | true =>
      have h1 := txtL_of_ok ho
      have h2 : bodyOf (bytesOf s) = natT (numOf (bytesOf s)).natAbs := by
        have := body_T10 (numOf (bytesOf s))
        rw [bytesOf_T10, ← h1] at this
        exact this
      rw [h2] at h
      have : Sm (numOf (bytesOf s)) := by unfold Sm nd; omega
      rw [longZ_false this]; rfl

theorem rIs_T10 {z : Int} (hz : Sm z) : torusref02_Is (T10 z) = some true := by
  rw [rIs_ok (T10_big hz), intOf_T10 hz]; rfl
theorem rIs_bad {s : ByteArray} (hs : BigOk s) (h : intOf s = none) : torusref02_Is s = some false := by
  rw [rIs_ok hs, h]; rfl

/-! ### Number -/
theorem rNumber_L1 : ∀ (k u : Nat) (d : List Int), u < 10 ^ k → u ≤ 9223372036854775807 → d.length + k ≤ 1000 → torusref02_Number_L1 u d = (torusref02_text false (d ++ dX u)).bind fun r => some r := by
  intro k
  induction k with
  | zero =>
    intro u d hu hu' hd
    have : u = 0 := by rw [Nat.pow_zero] at hu; omega
    subst this
    rw [torusref02_Number_L1_eq, cgt_f (by omega), show dX 0 = [] from dig_zero _, List.append_nil]
  | succ k ih =>
    intro u d hu hu' hd
    rw [torusref02_Number_L1_eq]
    by_cases h0 : u = 0
    · subst h0
      rw [cgt_f (by omega), show dX 0 = [] from dig_zero _, List.append_nil]
    · rw [cgt_t (by omega), cApp (by omega) (by omega), i64_quo _ _ (by omega), tmod_in (by omega)]
      have e1 : ((u : Int) / 10) = ((u / 10 : Nat) : Int) := by omega
      have e2 : ((u : Int) % 10) = ((u % 10 : Nat) : Int) := by omega
      rw [Nat.pow_succ] at hu
      rw [e1, e2, ih (u / 10) _ (by omega) (by omega) (by simp; omega), show dX u = _ from dig_pos (B := 10) (by omega) (by omega)]
      simp

theorem rNumber_L0 : ∀ (k u : Nat) (d : List Int), u < 10 ^ k → u ≤ 9223372036854775807 → d.length + k ≤ 1000 → torusref02_Number_L0 u d = (torusref02_text true (d ++ dX u)).bind fun r => some r := by
  intro k
  induction k with
  | zero =>
    intro u d hu hu' hd
    have : u = 0 := by rw [Nat.pow_zero] at hu; omega
    subst this
    rw [torusref02_Number_L0_eq, cgt_f (by omega), show dX 0 = [] from dig_zero _, List.append_nil]
  | succ k ih =>
    intro u d hu hu' hd
    rw [torusref02_Number_L0_eq]
    by_cases h0 : u = 0
    · subst h0
      rw [cgt_f (by omega), show dX 0 = [] from dig_zero _, List.append_nil]
    · rw [cgt_t (by omega), cApp (by omega) (by omega), i64_quo _ _ (by omega), tmod_in (by omega)]
      have e1 : ((u : Int) / 10) = ((u / 10 : Nat) : Int) := by omega
      have e2 : ((u : Int) % 10) = ((u % 10 : Nat) : Int) := by omega
      rw [Nat.pow_succ] at hu
      rw [e1, e2, ih (u / 10) _ (by omega) (by omega) (by simp; omega), show dX u = _ from dig_pos (B := 10) (by omega) (by omega)]
      simp

theorem rNumber_ok {n : Int} (h0 : -9223372036854775808 ≤ n) (h1 : n ≤ 9223372036854775807) : torusref02_Number n = some (T10 n) := by
  rw [torusref02_Number_eq]
  by_cases h : n < 0
  · obtain ⟨u, hu⟩ : ∃ u : Nat, (u : Int) = -n := ⟨n.natAbs, by omega⟩
    have hm : n.tmod 10 = -((u % 10 : Nat) : Int) := by
      have : n = -(u : Int) := by omega
      rw [this, Int.neg_tmod, tmod_in (by omega)]; omega
    have hq : n.tdiv 10 = -((u / 10 : Nat) : Int) := by
      have : n = -(u : Int) := by omega
      rw [this, Int.neg_tdiv, tdiv_in (by omega)]; omega
    have e1 : IntKind.wrap .i64 (0 - n.tmod 10) = ((u % 10 : Nat) : Int) := by rw [hm, i64_in _ (by omega)]; omega
    have e2 : IntKind.wrap .i64 (n.tdiv 10) = -((u / 10 : Nat) : Int) := by rw [hq, i64_in _ (by omega)]
    have e3 : IntKind.wrap .i64 (0 - -((u / 10 : Nat) : Int)) = ((u / 10 : Nat) : Int) := by rw [i64_in _ (by omega)]; omega
    have hl : ([((u % 10 : Nat) : Int)] : List Int).length = 1 := rfl
    rw [clt_t h]
    simp only [e1, e2, e3]
    rw [cApp (by omega) (by rw [hl]; omega), List.nil_append, rNumber_L0 19 (u / 10) _ (by omega) (by omega) (by simp)]
    have hd : DX ([((u % 10 : Nat) : Int)] ++ dX (u / 10)) := (Dig.cons (by omega) (by omega) Dig.nil).append (dX_D _)
    have hv : VX ([((u % 10 : Nat) : Int)] ++ dX (u / 10)) = u := by
      have := VX_d (u / 10)
      simp only [VX, List.singleton_append, val] at this ⊢
      rw [this]; omega
    have hlen : (dX (u / 10)).length ≤ 19 := (dig_length_le (B := 10) (by omega) 19 (u / 10)).2 (by omega)
    rw [rtext_ok hd (by simp; omega), bS, hv]
    congr 2
    rw [if_pos rfl]; omega
  · obtain ⟨u, rfl⟩ := Int.eq_ofNat_of_zero_le (show 0 ≤ n by omega)
    have hlen : (dX u).length ≤ 19 := (dig_length_le (B := 10) (by omega) 19 u).2 (by omega)
    rw [clt_f h, rNumber_L1 19 u [] (by omega) (by omega) (by simp), List.nil_append, rtext_ok (dX_D u) (by omega), bS, VX_d]
    rfl

/-! ### short -/
theorem rshort_walk {z : Int} (hz : nd z ≤ 9) : ∀ (m k : Nat) (n : Int), m + k = (T10 z).size → n = decv (((bytesOf (T10 z)).take k).filter (fun c => c != 45)) →
    torusref02_short_L0 (T10 z) n k = some (z, true) := by
  intro m
  have hsz := T10_size_le z
  have hl := bytesOf_length (T10 z)
  have hh := T10_head z
  induction m with
  | zero =>
    intro k n hk hn
    have hk' : k = (bytesOf (T10 z)).length := by omega
    rw [hk', List.take_length] at hn
    have hf : (bytesOf (T10 z)).filter (fun c => c != 45) = natT z.natAbs := by
      rw [bytesOf_T10]
      unfold txtL
      rw [List.filter_append, filter_natT]
      split <;> rfl
    rw [hf, decv_natT] at hn
    have e0 : (0 : Int).toNat = 0 := rfl
    rw [torusref02_short_L0_eq, clt_f (by omega), cgt_t (by omega), sidx_eq, idx_in (by omega) (by omega), bS, e0, T10_minus]
    have hzb : z.natAbs < 10 ^ 9 := (nd_le_iff z 9 (by omega)).1 hz
    by_cases h : z < 0
    · rw [decide_eq_true h, cT, i64_in _ (by omega)]
      congr 2; omega
    · rw [decide_eq_false h, cF]
      congr 2; omega
  | succ m ih =>
    intro k n hk hn
    have hkl : k < (bytesOf (T10 z)).length := by omega
    have hb := (bytesOf_range (T10 z)).getD (by omega) k
    have ih' := fun n => ih (k + 1) n (by omega)
    simp only [Int.natCast_add, Int.natCast_one] at ih'
    rw [torusref02_short_L0_eq, clt_t (by omega), sidx_eq, idx_in (by omega) (by omega), bS, Int.toNat_natCast]
    -- all letters but the sign are digits
    have hmem : ∀ c ∈ (bytesOf (T10 z)).filter (fun c => c != 45), 48 ≤ c ∧ c ≤ 57 := by
      rw [bytesOf_T10]
      unfold txtL
      rw [List.filter_append, filter_natT]
      intro c hc
      rcases List.mem_append.1 hc with h | h
      · exfalso
        split at h
        · simp at h
        · cases h
      · exact natT_range _ c h
    have hlen : (((bytesOf (T10 z)).take k).filter (fun c => c != 45)).length ≤ 9 := by
      have h1 : (((bytesOf (T10 z)).take k).filter (fun c => c != 45)).length ≤ ((bytesOf (T10 z)).filter (fun c => c != 45)).length :=
        ((List.take_sublist k (bytesOf (T10 z))).filter _).length_le
      have h2 : (bytesOf (T10 z)).filter (fun c => c != 45) = natT z.natAbs := by
        rw [bytesOf_T10]
        unfold txtL
        rw [List.filter_append, filter_natT]
        split <;> rfl
      rw [h2] at h1
      unfold nd at hz
      omega
    have hnb := decv_bounds (((bytesOf (T10 z)).take k).filter (fun c => c != 45)) (fun c hc => hmem c (((List.take_sublist k _).filter _).subset hc))
    have hp := pow10_le hlen
    rw [← hn] at hnb
    have hts : (bytesOf (T10 z)).take (k + 1) = (bytesOf (T10 z)).take k ++ [(bytesOf (T10 z)).getD k 0] := take_succ' hkl
    by_cases h : (bytesOf (T10 z)).getD k 0 = 45
    · rw [cne_f h, i64_in _ (by omega), ih' n (by rw [hts, List.filter_append, h]; simpa using hn)]
    · rw [cne_t h, bS]
      simp (disch := omega) only [i64_in]
      rw [ih']
      rw [hts, List.filter_append, filt1 h, decv_append, ← hn]
      simp only [decv, List.foldl_cons, List.foldl_nil, List.length_singleton, Int.mul_zero, Int.zero_add, Int.pow_one]
      omega

theorem rshort_ok {z : Int} (hz : Bd z) : torusref02_short (T10 z) = some (if nd z ≤ 9 then (z, true) else (0, false)) := by
  unfold Bd at hz
  have hbig : BigOk (T10 z) := by unfold BigOk; have := T10_size_le z; omega
  rw [torusref02_short_eq, rDigits_ok hbig, bS, body_T10]
  have e : (natT z.natAbs).length = nd z := rfl
  rw [e]
  by_cases h : nd z ≤ 9
  · rw [cgt_f (by omega), if_pos h]
    have := rshort_walk h (T10 z).size 0 0 (by omega) (by simp [decv])
    simpa using this
  · rw [cgt_t (by omega), if_neg h]
end Go.Proofs.Ytlpkaimkmfgpiaa.Ev

set_option linter.unusedVariables false
set_option linter.unusedSimpArgs false
set_option linter.unusedSectionVars false
set_option exponentiation.threshold 2000
namespace Go.Proofs.Ytlpkaimkmfgpiaa.Ev
open Go.Abs Go.IntWalk

/-! ### size -/
theorem rsize_walk {a b : List Int} (ha : DX a) (hb : DX b) (hl : a.length = b.length) (hl' : a.length ≤ 1000000000000) : ∀ (k : Nat), k ≤ a.length →
    torusref02_size_L0 a b ((k : Int) - 1) = some (cmpI (VX (a.take k)) (VX (b.take k))) := by
  intro k
  induction k with
  | zero =>
    intro hk
    rw [torusref02_size_L0_eq]
    simp (disch := omega) only [cge_f]
    simp [cmpI]
  | succ k ih =>
    intro hk
    have e : ((k + 1 : Nat) : Int) - 1 = k := by omega
    rw [torusref02_size_L0_eq, e, take_succ' (show k < a.length by omega), take_succ' (show k < b.length by omega)]
    simp (disch := omega) only [cge_t, bIdx, Int.toNat_natCast, i64_in]
    have hta : (a.take k).length = (b.take k).length := by simp; omega
    by_cases h1 : a.getD k 0 < b.getD k 0
    · rw [clt_t h1, cmpI_lt (top_lt (by omega) (ha.take k) (hb.take k) hta h1)]
    · rw [clt_f h1]
      by_cases h2 : a.getD k 0 > b.getD k 0
      · rw [cgt_t h2, cmpI_gt (top_lt (by omega) (hb.take k) (ha.take k) hta.symm h2)]
      · have h : a.getD k 0 = b.getD k 0 := by omega
        rw [cgt_f h2, ih (by omega)]
        simp only [VX, val_append, hta, h]
        generalize (10 : Int) ^ (b.take k).length * val 10 [b.getD k 0] = z
        by_cases h1 : val 10 (a.take k) < val 10 (b.take k)
        · rw [cmpI_lt h1, cmpI_lt (by omega)]
        · by_cases h2 : val 10 (b.take k) < val 10 (a.take k)
          · rw [cmpI_gt h2, cmpI_gt (by omega)]
          · rw [cmpI_eq (by omega), cmpI_eq (by omega)]

theorem rsize_ok {m n : Nat} (hm : (dX m).length ≤ 1000000000000) (hn : (dX n).length ≤ 1000000000000) : torusref02_size (dX m) (dX n) = some (cmpI m n) := by
  rw [torusref02_size_eq]
  by_cases h : (dX m).length = (dX n).length
  · have := rsize_walk (dX_D m) (dX_D n) h hm (dX m).length (Nat.le_refl _)
    rw [cne_f (by omega)]
    simp (disch := omega) only [i64_in]
    rw [this, List.take_length]
    rw [h, List.take_length, VX_d, VX_d]
  · rw [cne_t (by omega)]
    have l1 := (dig_length_le (B := 10) (by omega) (dX m).length m).1 (Nat.le_refl _)
    have l2 := (dig_length_le (B := 10) (by omega) (dX n).length n).1 (Nat.le_refl _)
    by_cases h1 : (dX m).length < (dX n).length
    · rw [clt_t (by omega)]
      have := (dig_length_lt (B := 10) (by omega) (dX m).length n).1 h1
      rw [cmpI_lt (by omega)]
    · rw [clt_f (by omega)]
      have := (dig_length_lt (B := 10) (by omega) (dX n).length m).1 (show (dX n).length < (dX m).length by omega)
      rw [cmpI_gt (by omega)]

/-! ### sum -/
def rsL : List Int → List Int → Int → List Int
  | [], [], c => if c > 0 then [c % 10] else []
  | x :: xs, [], c => (c + x) % 10 :: rsL xs [] ((c + x) / 10)
  | [], y :: ys, c => (c + y) % 10 :: rsL [] ys ((c + y) / 10)
  | x :: xs, y :: ys, c => (c + x + y) % 10 :: rsL xs ys ((c + x + y) / 10)

theorem rsum_walk {a b : List Int} (ha : DX a) (hb : DX b) (hl : a.length ≤ 1000000000000) (hl' : b.length ≤ 1000000000000) : ∀ (m k : Nat) (c : Int) (out : List Int), m + k = max a.length b.length → out.length = k → 0 ≤ c ∧ c ≤ 1 →
    torusref02_sum_L0 a b c k out = some (out ++ rsL (a.drop k) (b.drop k) c) := by
  intro m
  induction m with
  | zero =>
    intro k c out hk ho hc
    have hka : a.length ≤ k := by omega
    have hkb : b.length ≤ k := by omega
    rw [drop_nil hka, drop_nil hkb, torusref02_sum_L0_eq]
    rw [clt_f (by omega), clt_f (by omega)]
    by_cases h : c > 0
    · have hc1 : c = 1 := by omega
      subst hc1
      simp (disch := omega) only [cgt_t, clt_f, cApp, tmod_in, tdiv_in, i64_in]
      rw [torusref02_sum_L0_eq]
      simp (disch := omega) only [clt_f, cgt_f]
      simp [rsL]
    · rw [cgt_f h]
      have : c = 0 := by omega
      subst this
      simp [rsL]
  | succ m ih =>
    intro k c out hk ho hc
    have hx := ha.getD (by omega) k
    have hy := hb.getD (by omega) k
    have ih' := fun c out => ih (k + 1) c out (by omega)
    simp only [Int.natCast_add, Int.natCast_one] at ih'
    rw [torusref02_sum_L0_eq]
    by_cases hka : k < a.length
    · by_cases hkb : k < b.length
      · rw [drop_eq hka, drop_eq hkb]
        simp (disch := omega) only [clt_t, bIdx, Int.toNat_natCast, i64_in, tmod_in, tdiv_in, cApp]
        rw [ih' _ _ (by simp; omega) (by omega)]
        simp [rsL]
      · have hd : b.drop (k + 1) = [] := drop_nil (by omega)
        rw [drop_eq hka, drop_nil (show b.length ≤ k by omega)]
        simp (disch := omega) only [clt_t, clt_f, bIdx, Int.toNat_natCast, i64_in, tmod_in, tdiv_in, cApp]
        rw [ih' _ _ (by simp; omega) (by omega), hd]
        simp [rsL]
    · have hkb : k < b.length := by omega
      have hd : a.drop (k + 1) = [] := drop_nil (by omega)
      rw [drop_eq hkb, drop_nil (show a.length ≤ k by omega)]
      simp (disch := omega) only [clt_t, clt_f, bIdx, Int.toNat_natCast, i64_in, tmod_in, tdiv_in, cApp]
      rw [ih' _ _ (by simp; omega) (by omega), hd]
      simp [rsL]

theorem rsL_val : ∀ (a b : List Int) (c : Int), DX a → DX b → 0 ≤ c ∧ c ≤ 1 → VX (rsL a b c) = VX a + VX b + c ∧ DX (rsL a b c) ∧ (rsL a b c).length ≤ max a.length b.length + 1
  | [], [], c, ha, hb, hc => by
    simp only [rsL]
    split
    · exact ⟨by simp [VX, val]; omega, Dig.cons (by omega) (by omega) Dig.nil, by simp⟩
    · exact ⟨by simp [VX, val]; omega, Dig.nil, by simp⟩
  | x :: xs, [], c, ha, hb, hc => by
    have hx := ha.head
    obtain ⟨e1, e2, e3⟩ := rsL_val xs [] ((c + x) / 10) ha.tail Dig.nil (by omega)
    simp only [rsL]
    refine ⟨?_, Dig.cons (by omega) (by omega) e2, by simp at e3 ⊢; omega⟩
    simp only [VX, val] at e1 ⊢
    rw [e1]; omega
  | [], y :: ys, c, ha, hb, hc => by
    have hy := hb.head
    obtain ⟨e1, e2, e3⟩ := rsL_val [] ys ((c + y) / 10) Dig.nil hb.tail (by omega)
    simp only [rsL]
    refine ⟨?_, Dig.cons (by omega) (by omega) e2, by simp at e3 ⊢; omega⟩
    simp only [VX, val] at e1 ⊢
    rw [e1]; omega
  | x :: xs, y :: ys, c, ha, hb, hc => by
    have hx := ha.head
    have hy := hb.head
    obtain ⟨e1, e2, e3⟩ := rsL_val xs ys ((c + x + y) / 10) ha.tail hb.tail (by omega)
    simp only [rsL]
    refine ⟨?_, Dig.cons (by omega) (by omega) e2, by simp at e3 ⊢; omega⟩
    simp only [VX, val] at e1 ⊢
    rw [e1]; omega

theorem rsum_ok {a b : List Int} (ha : DX a) (hb : DX b) (hl : a.length ≤ 1000000000000) (hl' : b.length ≤ 1000000000000) :
    ∃ r, torusref02_sum a b = some r ∧ VX r = VX a + VX b ∧ DX r ∧ r.length ≤ max a.length b.length + 1 := by
  obtain ⟨e1, e2, e3⟩ := rsL_val a b 0 ha hb ⟨by omega, by omega⟩
  have := rsum_walk ha hb hl hl' (max a.length b.length) 0 0 [] (by omega) rfl ⟨by omega, by omega⟩
  refine ⟨rsL a b 0, ?_, by omega, e2, e3⟩
  rw [torusref02_sum_eq]
  simpa using this

/-! ### difference -/
def rdL : List Int → List Int → Int → List Int
  | [], _, _ => []
  | x :: xs, [], c => if x - c < 0 then (x - c + 10) :: rdL xs [] 1 else (x - c) :: rdL xs [] 0
  | x :: xs, y :: ys, c => if x - c - y < 0 then (x - c - y + 10) :: rdL xs ys 1 else (x - c - y) :: rdL xs ys 0

theorem rdiff_walk {a b : List Int} (ha : DX a) (hb : DX b) (hl : a.length ≤ 1000000000000) : ∀ (m k : Nat) (c : Int) (out : List Int), m + k = a.length → out.length = k → 0 ≤ c ∧ c ≤ 1 →
    torusref02_difference_L0 a b c k out = (torusref02_trim (out ++ rdL (a.drop k) (b.drop k) c)).bind fun r => some r := by
  intro m
  induction m with
  | zero =>
    intro k c out hk ho hc
    rw [torusref02_difference_L0_eq, clt_f (by omega), drop_nil (show a.length ≤ k by omega)]
    simp [rdL]
  | succ m ih =>
    intro k c out hk ho hc
    have hx := ha.getD (by omega) k
    have hy := hb.getD (by omega) k
    have ih' := fun c out => ih (k + 1) c out (by omega)
    simp only [Int.natCast_add, Int.natCast_one] at ih'
    rw [torusref02_difference_L0_eq, clt_t (by omega), bIdx (by omega) (by omega), Int.toNat_natCast, drop_eq (show k < a.length by omega)]
    have hl1 : ∀ z : Int, ([z] : List Int).length = 1 := fun z => rfl
    by_cases hkb : k < b.length
    · rw [drop_eq hkb, clt_t (by omega), bIdx (by omega) (by omega), Int.toNat_natCast]
      simp (disch := omega) only [i64_in, hl1]
      by_cases h : a.getD k 0 - c - b.getD k 0 < 0
      · rw [clt_t h, cApp (by omega) (by omega), ih' _ _ (by simp; omega) ⟨by omega, by omega⟩]
        simp only [rdL, if_pos h]; simp
      · rw [clt_f h, cApp (by omega) (by omega), ih' _ _ (by simp; omega) ⟨by omega, by omega⟩]
        simp only [rdL, if_neg h]; simp
    · have hd : b.drop (k + 1) = [] := drop_nil (by omega)
      rw [drop_nil (show b.length ≤ k by omega), clt_f (by omega)]
      simp (disch := omega) only [i64_in]
      by_cases h : a.getD k 0 - c < 0
      · rw [clt_t h, cApp (by omega) (by omega), ih' _ _ (by simp; omega) ⟨by omega, by omega⟩, hd]
        simp only [rdL, if_pos h]; simp
      · rw [clt_f h, cApp (by omega) (by omega), ih' _ _ (by simp; omega) ⟨by omega, by omega⟩, hd]
        simp only [rdL, if_neg h]; simp

theorem rdL_val : ∀ (a b : List Int) (c : Int), b.length ≤ a.length → DX a → DX b → 0 ≤ c ∧ c ≤ 1 →
    ∃ c', 0 ≤ c' ∧ VX (rdL a b c) = VX a - VX b - c + c' * 10 ^ a.length ∧ DX (rdL a b c) ∧ (rdL a b c).length = a.length
  | [], [], c, hl, ha, hb, hc => ⟨c, hc.1, by simp [rdL, VX, val]; omega, Dig.nil, rfl⟩
  | [], y :: ys, c, hl, ha, hb, hc => by simp at hl
  | x :: xs, [], c, hl, ha, hb, hc => by
    have hx := ha.head
    have key : ∀ d : Int, (0 ≤ d ∧ d ≤ 1) → ∃ c', 0 ≤ c' ∧ VX (rdL xs [] d) = VX xs - d + c' * 10 ^ xs.length ∧ DX (rdL xs [] d) ∧ (rdL xs [] d).length = xs.length := fun d hd => by
      obtain ⟨c', h2, h3, h4, h5⟩ := rdL_val xs [] d (by simp) ha.tail Dig.nil hd
      exact ⟨c', h2, by simpa [VX, val] using h3, h4, h5⟩
    simp only [rdL]
    split
    · obtain ⟨c', h2, h3, h4, h5⟩ := key 1 ⟨by omega, by omega⟩
      refine ⟨c', h2, ?_, Dig.cons (by omega) (by omega) h4, by simp [h5]⟩
      simp only [VX, val, List.length_cons, Int.pow_succ] at h3 ⊢
      rw [← Int.mul_assoc, h3]; omega
    · obtain ⟨c', h2, h3, h4, h5⟩ := key 0 ⟨by omega, by omega⟩
      refine ⟨c', h2, ?_, Dig.cons (by omega) (by omega) h4, by simp [h5]⟩
      simp only [VX, val, List.length_cons, Int.pow_succ] at h3 ⊢
      rw [← Int.mul_assoc, h3]; omega
  | x :: xs, y :: ys, c, hl, ha, hb, hc => by
    have hx := ha.head
    have hy := hb.head
    simp only [rdL]
    split
    · obtain ⟨c', h2, h3, h4, h5⟩ := rdL_val xs ys 1 (by simp at hl; omega) ha.tail hb.tail ⟨by omega, by omega⟩
      refine ⟨c', h2, ?_, Dig.cons (by omega) (by omega) h4, by simp [h5]⟩
      simp only [VX, val, List.length_cons, Int.pow_succ] at h3 ⊢
      rw [← Int.mul_assoc, h3]; omega
    · obtain ⟨c', h2, h3, h4, h5⟩ := rdL_val xs ys 0 (by simp at hl; omega) ha.tail hb.tail ⟨by omega, by omega⟩
      refine ⟨c', h2, ?_, Dig.cons (by omega) (by omega) h4, by simp [h5]⟩
      simp only [VX, val, List.length_cons, Int.pow_succ] at h3 ⊢
      rw [← Int.mul_assoc, h3]; omega

theorem rdiff_ok {m n : Nat} (hl : (dX m).length ≤ 1000000000000) (h : n ≤ m) : torusref02_difference (dX m) (dX n) = some (dX (m - n)) := by
  have ha := dX_D m
  have hb := dX_D n
  obtain ⟨c', h1, h2, h3, h4⟩ := rdL_val (dX m) (dX n) 0 (dX_le h) ha hb ⟨by omega, by omega⟩
  have hv : VX (rdL (dX m) (dX n) 0) = ((m - n : Nat) : Int) := by
    have h5 := val_lt (B := 10) (by omega) h3
    rw [h4] at h5
    change VX _ < _ at h5
    rw [VX_d, VX_d] at h2
    by_cases hc : c' = 0
    · subst hc; simp at h2; omega
    · exfalso
      have hp : (0 : Int) ≤ 10 ^ (dX m).length := Int.pow_nonneg (by omega)
      have h8 : 1 * (10 : Int) ^ (dX m).length ≤ c' * 10 ^ (dX m).length := Int.mul_le_mul_of_nonneg_right (by omega) hp
      rw [Int.one_mul] at h8
      omega
  have := rdiff_walk ha hb hl (dX m).length 0 0 [] (by omega) rfl ⟨by omega, by omega⟩
  simp only [Int.natCast_zero, List.drop_zero, List.nil_append] at this
  rw [torusref02_difference_eq, this, rtrim_ok (by omega), bS, trimX h3, hv, Int.toNat_natCast]

/-! ### Plus, Opposite, Minus, Positive, Compare -/
theorem rsum_text {m n : Nat} {s : Bool} (hm : (dX m).length ≤ 1000000000000) (hn : (dX n).length ≤ 1000000000000) :
    ((torusref02_sum (dX m) (dX n)).bind fun r5 => (torusref02_text s r5).bind fun r6 => some r6) = some (T10 (if s then -((m : Int) + n) else (m : Int) + n)) := by
  obtain ⟨r, e1, e2, e3, e4⟩ := rsum_ok (dX_D m) (dX_D n) hm hn
  rw [e1, bS, rtext_ok e3 (by omega), bS, e2, VX_d, VX_d]

theorem rdiff_text {m n : Nat} {s : Bool} (hm : (dX m).length ≤ 1000000000000) (h : n ≤ m) :
    ((torusref02_difference (dX m) (dX n)).bind fun r5 => (torusref02_text s r5).bind fun r6 => some r6) = some (T10 (if s then -((m : Int) - n) else (m : Int) - n)) := by
  have := dX_le (show m - n ≤ m by omega)
  rw [rdiff_ok hm h, bS, rtext_ok (dX_D _) (by omega), bS, VX_d]
  have : ((m - n : Nat) : Int) = (m : Int) - n := by omega
  rw [this]

theorem rPlus_ok {x y : Int} (hx : Bd x) (hy : Bd y) : torusref02_Plus (T10 x) (T10 y) = some (T10 (x + y)) := by
  have hlx := nd_dX x
  have hly := nd_dX y
  rw [torusref02_Plus_eq, rshort_ok hx, bS, rshort_ok hy, bS]
  unfold Bd at hx hy
  -- the long way
  have long : ((torusref02_digits (T10 x)).bind fun r3 => (torusref02_digits (T10 y)).bind fun r4 =>
      bif (r3.1 == r4.1) then
        (torusref02_sum r3.2 r4.2).bind fun r5 => (torusref02_text r3.1 r5).bind fun r6 => some r6
      else
        (torusref02_size r3.2 r4.2).bind fun r7 =>
        bif (decide (r7 < (0 : Int))) then
          (torusref02_difference r4.2 r3.2).bind fun r8 => (torusref02_text r4.1 r8).bind fun r9 => some r9
        else
          (torusref02_difference r3.2 r4.2).bind fun r10 => (torusref02_text r3.1 r10).bind fun r11 => some r11) = some (T10 (x + y)) := by
    rw [rdigits_ok hx, bS, rdigits_ok hy, bS]
    simp only
    by_cases hs : (x < 0 ↔ y < 0)
    · have : (decide (x < 0) == decide (y < 0)) = true := beq_iff_eq.2 (decide_eq_decide.2 hs)
      rw [this, cT, rsum_text (by omega) (by omega)]
      congr 2
      by_cases h : x < 0
      · rw [decide_eq_true h, if_pos rfl]; omega
      · rw [decide_eq_false h, if_neg (by simp)]; omega
    · have : (decide (x < 0) == decide (y < 0)) = false := by simpa using hs
      rw [this, cF, rsize_ok (by omega) (by omega), bS]
      by_cases hc : x.natAbs < y.natAbs
      · rw [clt_t (cmp_lt_iff.2 (by omega)), rdiff_text (by omega) (by omega)]
        congr 2
        by_cases h : y < 0
        · rw [decide_eq_true h, if_pos rfl]; omega
        · rw [decide_eq_false h, if_neg (by simp)]; omega
      · rw [clt_f (fun e => by have := cmp_lt_iff.1 e; omega), rdiff_text (by omega) (by omega)]
        congr 2
        by_cases h : x < 0
        · rw [decide_eq_true h, if_pos rfl]; omega
        · rw [decide_eq_false h, if_neg (by simp)]; omega
  by_cases h1 : nd x ≤ 9
  · rw [if_pos h1]
    simp only [cT]
    by_cases h2 : nd y ≤ 9
    · rw [if_pos h2]
      simp only [cT]
      have b1 := (nd_le_iff x 9 (by omega)).1 h1
      have b2 := (nd_le_iff y 9 (by omega)).1 h2
      rw [i64_in _ (by omega), rNumber_ok (by omega) (by omega), bS]
    · rw [if_neg h2]
      simp only [cF]
      exact long
  · rw [if_neg h1]
    simp only [cF]
    exact long

theorem rOpposite_ok {x : Int} (hx : Bd x) : torusref02_Opposite (T10 x) = some (T10 (-x)) := by
  have hlx := nd_dX x
  rw [torusref02_Opposite_eq, rdigits_ok hx, bS]
  unfold Bd at hx
  rw [rtext_ok (dX_D _) (by omega), bS, VX_d]
  congr 2
  by_cases h : x < 0
  · rw [decide_eq_true h, if_neg (by simp)]; omega
  · rw [decide_eq_false h, if_pos (by rfl)]; omega

theorem rMinus_ok {x y : Int} (hx : Bd x) (hy : Bd y) : torusref02_Minus (T10 x) (T10 y) = some (T10 (x - y)) := by
  rw [torusref02_Minus_eq, rOpposite_ok hy, bS, rPlus_ok hx (by unfold Bd at *; rw [nd_neg]; exact hy), bS]
  rfl

theorem rPositive_ok {x : Int} (hx : Bd x) : torusref02_Positive (T10 x) = some (T10 x.natAbs) := by
  have hlx := nd_dX x
  rw [torusref02_Positive_eq, rdigits_ok hx, bS]
  unfold Bd at hx
  rw [rtext_ok (dX_D _) (by omega), bS, VX_d]
  rfl

theorem rCompare_ok {x y : Int} (hx : Bd x) (hy : Bd y) : torusref02_Compare (T10 x) (T10 y) = some (cmpI x y) := by
  have hlx := nd_dX x
  have hly := nd_dX y
  rw [torusref02_Compare_eq, rdigits_ok hx, bS, rdigits_ok hy, bS]
  unfold Bd at hx hy
  simp only
  rw [rsize_ok (by omega) (by omega), rsize_ok (by omega) (by omega), bS, bS]
  rcases (show x < y ∨ x = y ∨ y < x by omega) with h | h | h
  all_goals
    by_cases h1 : x < 0 <;> by_cases h2 : y < 0
    all_goals simp only [h1, h2, decide_true, decide_false, beq_self_eq_true, Bool.not_true, Bool.not_false, cT, cF, show (true == false) = false from rfl, show (false == true) = false from rfl, Option.some.injEq]
    all_goals unfold cmpI
    all_goals (repeat' split) <;> omega

/-! ### Times -/
def pmL : List Int → Int → List Int → List Int
  | [], x, os => os
  | y :: ys, x, o :: os => (o + x * y) :: pmL ys x os
  | _ :: _, _, [] => []

def ptL : List Int → List Int → List Int → List Int
  | [], b, o => o
  | x :: xs, b, o => match pmL b x o with
    | [] => []
    | h :: t => h :: ptL xs b t

def cyL : List Int → List Int
  | [] => []
  | [o] => [o]
  | o :: p :: r => o % 10 :: cyL ((p + o / 10) :: r)
termination_by l => l.length

theorem pmL_length : ∀ (b : List Int) (x : Int) (o : List Int), b.length ≤ o.length → (pmL b x o).length = o.length
  | [], x, o, h => by simp [pmL]
  | y :: ys, x, [], h => by simp at h
  | y :: ys, x, o :: os, h => by simp only [pmL, List.length_cons]; rw [pmL_length ys x os (by simpa using h)]

theorem pmL_val : ∀ (b : List Int) (x : Int) (o : List Int), b.length ≤ o.length → VX (pmL b x o) = VX o + x * VX b
  | [], x, o, h => by simp [pmL, VX, val]
  | y :: ys, x, [], h => by simp at h
  | y :: ys, x, o :: os, h => by
    have ih := pmL_val ys x os (by simpa using h)
    simp only [pmL, VX, val] at ih ⊢
    have e : x * (y + 10 * val 10 ys) = x * y + 10 * (x * val 10 ys) := by rw [Int.mul_add, Int.mul_left_comm]
    rw [ih, e]; omega

/-- Entries between 0 and a bound. -/
def Upto (M : Int) (l : List Int) : Prop := ∀ x ∈ l, 0 ≤ x ∧ x ≤ M
theorem Upto.mono {M M' : Int} {l : List Int} (h : Upto M l) (hM : M ≤ M') : Upto M' l := fun x hx => by have := h x hx; omega
theorem Upto.getD {M : Int} {l : List Int} (h : Upto M l) (hM : 0 ≤ M) (k : Nat) : 0 ≤ l.getD k 0 ∧ l.getD k 0 ≤ M := by
  by_cases hk : k < l.length
  · have : l.getD k 0 = l[k] := by simp [List.getD, hk]
    rw [this]; exact h _ (List.getElem_mem hk)
  · rw [getD_none (by omega)]; omega
theorem Upto.take {M : Int} {l : List Int} (h : Upto M l) (k : Nat) : Upto M (l.take k) := fun x hx => h x (List.mem_of_mem_take hx)
theorem Upto.drop {M : Int} {l : List Int} (h : Upto M l) (k : Nat) : Upto M (l.drop k) := fun x hx => h x (List.mem_of_mem_drop hx)
theorem Upto.append {M : Int} {l m : List Int} (h : Upto M l) (h' : Upto M m) : Upto M (l ++ m) := fun x hx => by
  rcases List.mem_append.1 hx with hx | hx
  · exact h x hx
  · exact h' x hx

theorem pmL_upto {M x : Int} (hx : 0 ≤ x ∧ x ≤ 9) : ∀ (b o : List Int), DX b → Upto M o → Upto (M + 81) (pmL b x o)
  | [], o, hb, ho => ho.mono (by omega)
  | y :: ys, [], hb, ho => fun z hz => by cases hz
  | y :: ys, o :: os, hb, ho => by
    have hy := hb.head
    have h1 := Int.mul_nonneg hx.1 hy.1
    have h2 : x * y ≤ 9 * y := Int.mul_le_mul_of_nonneg_right hx.2 hy.1
    have h3 := ho o (by simp)
    have ih := pmL_upto hx ys os hb.tail (fun z hz => ho z (by simp [hz]))
    intro z hz
    simp only [pmL, List.mem_cons] at hz
    rcases hz with rfl | hz
    · omega
    · exact ih z hz

theorem rTimes_inner {p q : Bool} {x y : List Int} {i : Nat} (hy : DX y) (hx : 0 ≤ x.getD i 0 ∧ x.getD i 0 ≤ 9) (hi : i < x.length) (hlx : x.length ≤ 10000000) (hly : y.length ≤ 10000000) :
    ∀ (m k : Nat) (M : Int) (out : List Int), m + k = y.length → out.length = x.length + y.length + 1 → Upto M out → 0 ≤ M → M + 81 * m ≤ 1000000000000000 →
    torusref02_Times_L1 p x q y i k out = torusref02_Times_L0 p x q y (i + 1) (out.take (i + k) ++ pmL (y.drop k) (x.getD i 0) (out.drop (i + k))) := by
  intro m
  induction m with
  | zero =>
    intro k M out hk ho hu h0 hM
    rw [torusref02_Times_L1_eq, clt_f (by omega), drop_nil (show y.length ≤ k by omega), i64_in _ (by omega)]
    simp [pmL]
  | succ m ih =>
    intro k M out hk ho hu h0 hM
    have hyk := hy.getD (by omega) k
    have hok := hu.getD h0 (i + k)
    have h1 := Int.mul_nonneg hx.1 hyk.1
    have h2 : x.getD i 0 * y.getD k 0 ≤ 9 * y.getD k 0 := Int.mul_le_mul_of_nonneg_right hx.2 hyk.1
    have e1 : ((i : Int) + k).toNat = i + k := by omega
    have ih' := fun M out => ih (k + 1) M out (by omega)
    simp only [Int.natCast_add, Int.natCast_one] at ih'
    rw [torusref02_Times_L1_eq]
    simp (disch := omega) only [clt_t, i64_in, bIdx, bGet, e1, Int.toNat_natCast]
    have hset : Upto (M + 81) (out.set (i + k) (out.getD (i + k) 0 + x.getD i 0 * y.getD k 0)) := fun z hz => by
      rcases List.mem_or_eq_of_mem_set hz with hz | rfl
      · have := hu z hz; omega
      · omega
    rw [ih' (M + 81) _ (by simp [ho]) hset (by omega) (by omega), drop_eq (show k < y.length by omega), drop_eq (show i + k < out.length by omega)]
    simp only [pmL]
    rw [show i + (k + 1) = i + k + 1 by omega, set_take (by omega), set_drop]
    simp

theorem ptL_val : ∀ (a b o : List Int), o.length = a.length + b.length + 1 → DX a → VX (ptL a b o) = VX o + VX a * VX b ∧ (ptL a b o).length = o.length
  | [], b, o, hl, ha => by simp [ptL, VX, val]
  | x :: xs, b, o, hl, ha => by
    have hlen := pmL_length b x o (by simp at hl; omega)
    have hval := pmL_val b x o (by simp at hl; omega)
    simp only [ptL]
    split
    · rename_i e; rw [e] at hlen; simp at hlen hl; omega
    · rename_i h t e
      rw [e] at hlen hval
      obtain ⟨f1, f2⟩ := ptL_val xs b t (by simp at hl hlen; omega) ha.tail
      refine ⟨?_, by simp [f2] at hlen ⊢; omega⟩
      simp only [VX, val] at hval f1 ⊢
      rw [f1, Int.add_mul, Int.mul_assoc]
      omega

theorem rTimes_outer {p q : Bool} {x y : List Int} (hxd : DX x) (hy : DX y) (hlx : x.length ≤ 10000000) (hly : y.length ≤ 10000000) :
    ∀ (m i : Nat) (out : List Int), m + i = x.length → out.length = x.length + y.length + 1 → Upto (81 * i) out →
    ∃ o', torusref02_Times_L0 p x q y i out = torusref02_Times_L2 p q 0 o' ∧ o' = out.take i ++ ptL (x.drop i) y (out.drop i) ∧ Upto 1000000000000 o' := by
  intro m
  induction m with
  | zero =>
    intro i out hi ho hu
    refine ⟨out, ?_, ?_, hu.mono (by omega)⟩
    · rw [torusref02_Times_L0_eq, clt_f (by omega)]
    · rw [drop_nil (show x.length ≤ i by omega)]; simp [ptL]
  | succ m ih =>
    intro i out hi ho hu
    have hx := hxd.getD (by omega) i
    have hI := rTimes_inner (p := p) (q := q) (i := i) hy ⟨hx.1, by omega⟩ (by omega) hlx hly y.length 0 (81 * i) out (by omega) ho hu (by omega) (by omega)
    simp only [Int.natCast_zero, Nat.add_zero, List.drop_zero] at hI
    rw [torusref02_Times_L0_eq, clt_t (by omega), hI]
    have ih' := fun out => ih (i + 1) out (by omega)
    simp only [Int.natCast_add, Int.natCast_one] at ih'
    have hplen := pmL_length y (x.getD i 0) (out.drop i) (by rw [List.length_drop]; omega)
    have hup : Upto (81 * ((i : Int) + 1)) (out.take i ++ pmL y (x.getD i 0) (out.drop i)) := ((hu.take i).mono (by omega)).append ((pmL_upto ⟨hx.1, by omega⟩ y (out.drop i) hy (hu.drop i)).mono (by omega))
    obtain ⟨o', e1, e2, e3⟩ := ih' (out.take i ++ pmL y (x.getD i 0) (out.drop i)) (by rw [List.length_append, hplen, List.length_take, List.length_drop]; omega) hup
    refine ⟨o', e1, ?_, e3⟩
    rw [e2, drop_eq (show i < x.length by omega)]
    simp only [ptL]
    cases hp : pmL y (x.getD i 0) (out.drop i) with
    | nil => rw [hp] at hplen; simp at hplen; omega
    | cons h t =>
      have htl : (out.take i).length = i := by simp; omega
      have h7 : (out.take i ++ h :: t).drop (i + 1) = t := by
        rw [List.drop_append, htl]
        have : (out.take i).drop (i + 1) = [] := drop_nil (by omega)
        rw [this]; simp
      have h8 : (out.take i ++ h :: t).take (i + 1) = out.take i ++ [h] := by
        rw [List.take_append, htl]
        have : (out.take i).take (i + 1) = out.take i := List.take_of_length_le (by omega)
        rw [this]; simp
      rw [h7, h8]; simp

theorem cyL_one (o : Int) : cyL [o] = [o] := by rw [cyL]
theorem cyL_two (o p : Int) (r : List Int) : cyL (o :: p :: r) = o % 10 :: cyL ((p + o / 10) :: r) := by rw [cyL]

theorem cyL_val : ∀ (n : Nat) (l : List Int), l.length = n → (∀ x ∈ l, 0 ≤ x) → VX (cyL l) = VX l ∧ (cyL l).length = l.length ∧ (∀ x ∈ cyL l, 0 ≤ x) ∧ DX (cyL l).dropLast
  | 0, l, hl, h => by
    have : l = [] := List.length_eq_zero_iff.1 hl
    subst this
    rw [cyL]; exact ⟨rfl, rfl, h, Dig.nil⟩
  | 1, l, hl, h => by
    obtain ⟨o, rfl⟩ : ∃ o, l = [o] := by
      cases l with
      | nil => cases hl
      | cons o r => exact ⟨o, by have : r = [] := List.length_eq_zero_iff.1 (by simpa using hl); rw [this]⟩
    rw [cyL_one]; exact ⟨rfl, rfl, h, Dig.nil⟩
  | n + 2, l, hl, h => by
    match l, hl, h with
    | o :: q :: r, hl, h =>
      have h1 := h o (by simp)
      have h2 := h q (by simp)
      obtain ⟨e1, e2, e3, e4⟩ := cyL_val (n + 1) ((q + o / 10) :: r) (by simpa using hl) (fun x hx => by
        rcases List.mem_cons.1 hx with rfl | hx
        · omega
        · exact h x (by simp [hx]))
      rw [cyL_two]
      refine ⟨?_, by simp [e2], ?_, ?_⟩
      · simp only [VX, val] at e1 ⊢
        rw [e1]; omega
      · intro x hx
        rcases List.mem_cons.1 hx with rfl | hx
        · omega
        · exact e3 x hx
      · have hne : cyL ((q + o / 10) :: r) ≠ [] := fun e => by rw [e] at e2; simp at e2
        rw [List.dropLast_cons_of_ne_nil hne]
        exact Dig.cons (by omega) (by omega) e4

theorem rTimes_carry {p q : Bool} : ∀ (n : Nat) (A l : List Int), l.length = n + 1 → (A ++ l).length ≤ 100000000 → (∀ x ∈ l, 0 ≤ x) → (∀ x ∈ l.tail, x ≤ 1000000000000) → l.getD 0 0 ≤ 2000000000000 →
    torusref02_Times_L2 p q A.length (A ++ l) = (torusref02_text (!(p == q)) (A ++ cyL l)).bind fun r => some r := by
  intro n
  induction n with
  | zero =>
    intro A l hl hlen h0 h1 h2
    obtain ⟨o, rfl⟩ : ∃ o, l = [o] := by
      cases l with
      | nil => cases hl
      | cons o r => exact ⟨o, by have : r = [] := List.length_eq_zero_iff.1 (by simpa using hl); rw [this]⟩
    have hlen' : (A ++ [o]).length = A.length + 1 := by simp
    rw [torusref02_Times_L2_eq, i64_in _ (by omega), clt_f (by omega), cyL_one]
  | succ n ih =>
    intro A l hl hlen h0 h1 h2
    match l, hl, hlen, h0, h1, h2 with
    | o :: t :: r, hl, hlen, h0, h1, h2 =>
      have ho := h0 o (by simp)
      have ht := h0 t (by simp)
      have ht1 := h1 t (by simp)
      have ho1 : o ≤ 2000000000000 := h2
      have hlen' : (A ++ o :: t :: r).length = A.length + r.length + 2 := by simp; omega
      have e1 : ((A.length : Int) + 1).toNat = A.length + 1 := by omega
      have g0 : (A ++ o :: t :: r).getD A.length 0 = o := by simp [List.getD]
      have g1 : (A ++ o :: t :: r).getD (A.length + 1) 0 = t := by
        rw [List.getD, List.getElem?_append_right (by omega), show A.length + 1 - A.length = 1 by omega]; rfl
      have s1 : ∀ z, (A ++ o :: t :: r).set (A.length + 1) z = A ++ o :: z :: r := fun z => by
        rw [List.set_append_right _ _ (by omega), show A.length + 1 - A.length = 1 by omega]; rfl
      have s2 : ∀ z w, (A ++ o :: z :: r).set A.length w = A ++ w :: z :: r := fun z w => by
        rw [List.set_append_right _ _ (by omega), show A.length - A.length = 0 by omega]; rfl
      have hlen2 : ∀ z, (A ++ o :: z :: r).length = A.length + r.length + 2 := fun z => by simp; omega
      have g2 : ∀ z, (A ++ o :: z :: r).getD A.length 0 = o := fun z => by simp [List.getD]
      rw [torusref02_Times_L2_eq]
      simp (disch := omega) only [i64_in, clt_t, bIdx, bGet, e1, g0, g1, s1, Int.toNat_natCast, tdiv_in, tmod_in]
      have hl2 := hlen2 (t + o / 10)
      simp (disch := omega) only [bIdx, bGet, g2, s2, Int.toNat_natCast, tmod_in]
      have := ih (A ++ [o % 10]) ((t + o / 10) :: r) (by simpa using hl) (by simp at hlen ⊢; omega) (fun x hx => by
        rcases List.mem_cons.1 hx with rfl | hx
        · omega
        · exact h0 x (by simp [hx])) (fun x hx => h1 x (by simp at hx ⊢; exact .inr hx)) (by show t + o / 10 ≤ _; omega)
      have e3 : ((A ++ [o % 10]).length : Int) = (A.length : Int) + 1 := by simp
      rw [e3] at this
      simp only [List.append_assoc, List.singleton_append] at this
      rw [cyL_two]
      exact this

theorem rTimes_long {m n : Nat} {s t : Bool} (hm : (dX m).length ≤ 10000000) (hn : (dX n).length ≤ 10000000) :
    torusref02_Times_L0 s (dX m) t (dX n) 0 (List.replicate ((dX m).length + (dX n).length + 1) 0) = some (T10 (if s = t then (m : Int) * n else -((m : Int) * n))) := by
  have hdm := dX_D m
  have hdn := dX_D n
  obtain ⟨o', e1, e2, e3⟩ := rTimes_outer (p := s) (q := t) hdm hdn hm hn (dX m).length 0 (List.replicate ((dX m).length + (dX n).length + 1) 0) (by omega) (by simp) (fun x hx => by
    obtain ⟨_, rfl⟩ := List.mem_replicate.1 hx; omega)
  simp only [Int.natCast_zero, List.take_zero, List.nil_append, List.drop_zero] at e1 e2
  obtain ⟨v1, v2⟩ := ptL_val (dX m) (dX n) (List.replicate ((dX m).length + (dX n).length + 1) 0) (by simp) hdm
  rw [← e2, List.length_replicate] at v2
  rw [← e2, VX_d, VX_d] at v1
  simp only [VX, val_replicate, Int.zero_add] at v1
  have hnn : ∀ x ∈ o', 0 ≤ x := fun x hx => (e3 x hx).1
  obtain ⟨c1, c2, c3, c4⟩ := cyL_val _ o' rfl hnn
  have hc := rTimes_carry (p := s) (q := t) ((dX m).length + (dX n).length) [] o' (by omega) (by simp; omega) hnn (fun x hx => (e3 x (List.mem_of_mem_tail hx)).2) (by have := (e3.getD (by omega) 0).2; omega)
  simp only [List.nil_append, List.length_nil, Int.natCast_zero] at hc
  rw [e1, hc]
  -- the last entry is a digit, too
  have hne : cyL o' ≠ [] := fun e => by rw [e] at c2; simp at c2; omega
  have hsplit : cyL o' = (cyL o').dropLast ++ [(cyL o').getLast hne] := (List.dropLast_concat_getLast hne).symm
  have hvs : VX (cyL o') = VX (cyL o').dropLast + 10 ^ (cyL o').dropLast.length * (cyL o').getLast hne := by
    conv => lhs; rw [hsplit]
    rw [VX, val_append]; simp [val]
  have hdl : (cyL o').dropLast.length = (dX m).length + (dX n).length := by rw [List.length_dropLast, c2, v2]; omega
  have hlow := VX_nonneg c4
  have hlast := c3 _ (List.getLast_mem hne)
  have hlast2 : (cyL o').getLast hne < 10 := by
    by_cases hcc : (cyL o').getLast hne < 10
    · exact hcc
    · exfalso
      have h1 := (dig_length_le (B := 10) (by omega) (dX m).length m).1 (Nat.le_refl _)
      have h2 := (dig_length_le (B := 10) (by omega) (dX n).length n).1 (Nat.le_refl _)
      have h3 : m * n < 10 ^ (dX m).length * 10 ^ (dX n).length := Nat.mul_lt_mul'' h1 h2
      rw [← Nat.pow_add] at h3
      have h4 : ((m * n : Nat) : Int) < ((10 ^ ((dX m).length + (dX n).length) : Nat) : Int) := Int.ofNat_lt.2 h3
      rw [pow10_cast, Int.natCast_mul] at h4
      have h5 : (10 : Int) ^ ((dX m).length + (dX n).length) * 1 ≤ 10 ^ ((dX m).length + (dX n).length) * (cyL o').getLast hne := Int.mul_le_mul_of_nonneg_left (by omega) (Int.pow_nonneg (by omega))
      rw [hdl] at hvs
      rw [c1] at hvs
      change VX o' = _ at v1
      omega
  have hD : DX (cyL o') := by
    rw [hsplit]
    exact c4.append (Dig.cons hlast hlast2 Dig.nil)
  rw [rtext_ok hD (by rw [c2, v2]; omega), bS, c1]
  change VX o' = _ at v1
  rw [v1]
  congr 2
  cases s <;> cases t <;> simp

theorem rTimes_ok {x y : Int} (hx : Bd x) (hy : Bd y) : torusref02_Times (T10 x) (T10 y) = some (T10 (x * y)) := by
  have hlx := nd_dX x
  have hly := nd_dX y
  rw [torusref02_Times_eq, rshort_ok hx, bS, rshort_ok hy, bS]
  unfold Bd at hx hy
  have long : ((torusref02_digits (T10 x)).bind fun r3 => (torusref02_digits (T10 y)).bind fun r4 =>
      bif (okMake 8 (IntKind.wrap .i64 ((IntKind.wrap .i64 ((r3.2.length : Int) + (r4.2.length : Int))) + (1 : Int))) (IntKind.wrap .i64 ((IntKind.wrap .i64 ((r3.2.length : Int) + (r4.2.length : Int))) + (1 : Int)))) then
      torusref02_Times_L0 r3.1 r3.2 r4.1 r4.2 (0 : Int) (List.replicate (IntKind.wrap .i64 ((IntKind.wrap .i64 ((r3.2.length : Int) + (r4.2.length : Int))) + (1 : Int))).toNat (0 : Int))
      else none) = some (T10 (x * y)) := by
    rw [rdigits_ok hx, bS, rdigits_ok hy, bS]
    simp only
    simp (disch := omega) only [i64_in, cMake]
    have e1 : (((dX x.natAbs).length : Int) + (dX y.natAbs).length + 1).toNat = (dX x.natAbs).length + (dX y.natAbs).length + 1 := by omega
    rw [e1, rTimes_long (by omega) (by omega)]
    congr 2
    by_cases h1 : x < 0 <;> by_cases h2 : y < 0
    · have a1 : (x.natAbs : Int) = -x := by omega
      have a2 : (y.natAbs : Int) = -y := by omega
      rw [decide_eq_true h1, decide_eq_true h2, if_pos rfl, a1, a2]; simp [Int.neg_mul, Int.mul_neg]
    · have a1 : (x.natAbs : Int) = -x := by omega
      have a2 : (y.natAbs : Int) = y := by omega
      rw [decide_eq_true h1, decide_eq_false h2, if_neg (by simp), a1, a2]; simp [Int.neg_mul, Int.mul_neg]
    · have a1 : (x.natAbs : Int) = x := by omega
      have a2 : (y.natAbs : Int) = -y := by omega
      rw [decide_eq_false h1, decide_eq_true h2, if_neg (by simp), a1, a2]; simp [Int.neg_mul, Int.mul_neg]
    · have a1 : (x.natAbs : Int) = x := by omega
      have a2 : (y.natAbs : Int) = y := by omega
      rw [decide_eq_false h1, decide_eq_false h2, if_pos rfl, a1, a2]
  by_cases h1 : nd x ≤ 9
  · rw [if_pos h1]
    simp only [cT]
    by_cases h2 : nd y ≤ 9
    · rw [if_pos h2]
      simp only [cT]
      have b1 := (nd_le_iff x 9 (by omega)).1 h1
      have b2 := (nd_le_iff y 9 (by omega)).1 h2
      have b3 : (x * y).natAbs < 10 ^ 9 * 10 ^ 9 := by rw [Int.natAbs_mul]; exact Nat.mul_lt_mul'' b1 b2
      rw [i64_in _ (by omega), rNumber_ok (by omega) (by omega), bS]
    · rw [if_neg h2]
      simp only [cF]
      exact long
  · rw [if_neg h1]
    simp only [cF]
    exact long
end Go.Proofs.Ytlpkaimkmfgpiaa.Ev

set_option linter.unusedVariables false
set_option linter.unusedSimpArgs false
set_option linter.unusedSectionVars false
set_option exponentiation.threshold 2000
namespace Go.Abs
/-- Floor division out of the absolute values. -/
theorem floor_of {x y : Int} (hy : y ≠ 0) {Q R : Int} (hQ : Q = ((x.natAbs / y.natAbs : Nat) : Int)) (hR : R = ((x.natAbs % y.natAbs : Nat) : Int)) :
    (x.fdiv y = if (x < 0 ↔ y < 0) then Q else if R = 0 then -Q else -Q - 1) ∧
    (x.fmod y = if (x < 0 ↔ y < 0) then (if x < 0 then -R else R) else if R = 0 then 0 else (if x < 0 then -R else R) + y) := by
  have hdm := Nat.div_add_mod x.natAbs y.natAbs
  have hlt := Nat.mod_lt x.natAbs (show y.natAbs > 0 by omega)
  obtain ⟨A, hA⟩ : ∃ A, A = x.natAbs := ⟨_, rfl⟩
  obtain ⟨B, hB⟩ : ∃ B, B = y.natAbs := ⟨_, rfl⟩
  rw [← hA, ← hB] at hdm hlt hQ hR
  have hdmI : (B : Int) * Q + R = A := by rw [hQ, hR, ← Int.natCast_mul, ← Int.natCast_add, hdm]
  have hR0 : 0 ≤ R := by rw [hR]; exact Int.natCast_nonneg _
  have hRB : R < B := by rw [hR]; exact Int.ofNat_lt.2 hlt
  by_cases h1 : x < 0 <;> by_cases h2 : y < 0
  · have hx' : x = -(A : Int) := by omega
    have hy' : y = -(B : Int) := by omega
    have hu := (Int.fdiv_fmod_unique' (a := x) (b := y) (r := -R) (q := Q) h2).2 ⟨by rw [hx', hy', Int.neg_mul]; omega, by omega, by omega⟩
    rw [hu.1, hu.2]
    simp [h1, h2]
  · have hx' : x = -(A : Int) := by omega
    have hy' : y = (B : Int) := by omega
    by_cases hz : R = 0
    · have hu := (Int.fdiv_fmod_unique (a := x) (b := y) (r := -R) (q := -Q) (by omega)).2 ⟨by rw [hx', hy', Int.mul_neg]; omega, by omega, by omega⟩
      rw [hu.1, hu.2]
      simp [h1, h2, hz]
    · have hu := (Int.fdiv_fmod_unique (a := x) (b := y) (r := -R + y) (q := -Q - 1) (by omega)).2 ⟨by rw [hx', hy', Int.mul_sub, Int.mul_neg]; omega, by omega, by omega⟩
      rw [hu.1, hu.2]
      simp [h1, h2, hz]
  · have hx' : x = (A : Int) := by omega
    have hy' : y = -(B : Int) := by omega
    by_cases hz : R = 0
    · have hu := (Int.fdiv_fmod_unique' (a := x) (b := y) (r := R) (q := -Q) (by omega)).2 ⟨by rw [hx', hy', Int.neg_mul_neg]; omega, by omega, by omega⟩
      rw [hu.1, hu.2]
      simp [h1, h2, hz]
    · have hu := (Int.fdiv_fmod_unique' (a := x) (b := y) (r := R + y) (q := -Q - 1) (by omega)).2 ⟨by rw [hx', hy', Int.mul_sub, Int.neg_mul_neg]; omega, by omega, by omega⟩
      rw [hu.1, hu.2]
      simp [h1, h2, hz]
  · have hx' : x = (A : Int) := by omega
    have hy' : y = (B : Int) := by omega
    have hu := (Int.fdiv_fmod_unique (a := x) (b := y) (r := R) (q := Q) (by omega)).2 ⟨by rw [hx', hy']; omega, by omega, by omega⟩
    rw [hu.1, hu.2]
    simp [h1, h2]
end Go.Abs
namespace Go.Proofs.Ytlpkaimkmfgpiaa.Ev
open Go.Abs Go.IntWalk

/-! ### Quotient -/
section
variable {b : ByteArray} {p s : Bool}

theorem rQ_L1 {x : List Int} {B : Nat} (hB : 0 < B) (hBl : (dX B).length ≤ 10000000) {i : Int} {q : List Int} (hq : q.length ≤ 10000000) : ∀ (S k : Nat), (dX S).length ≤ 10000001 → k + S / B ≤ 1000 →
    torusref02_Quotient_L1 b p x s (dX B) (dX S) i k q = torusref02_Quotient_L0 b p x s (dX B) (dX (S % B)) (IntKind.wrap .i64 (i - 1)) (q ++ [((k + S / B : Nat) : Int)]) := by
  intro S
  induction S using Nat.strongRecOn with
  | ind S ih =>
    intro k hS hk
    rw [torusref02_Quotient_L1_eq, rsize_ok (by omega) (by omega), bS]
    by_cases h : B ≤ S
    · have hc : cmpI (S : Int) B ≥ 0 := by
        by_cases hh : cmpI (S : Int) B ≥ 0
        · exact hh
        · have := cmp_lt_iff.1 (show cmpI (S : Int) B < 0 by omega)
          omega
      have e1 := Nat.mod_eq_sub_mod h
      have e2 : S / B = (S - B) / B + 1 := Nat.div_eq_sub_div hB h
      obtain ⟨D, hD⟩ : ∃ D, (S - B) / B = D := ⟨_, rfl⟩
      rw [e2, hD] at hk
      rw [cge_t hc, rdiff_ok (by omega) h, bS, i64_in _ (by omega)]
      have := ih (S - B) (by omega) (k + 1) (by have := dX_le (show S - B ≤ S by omega); omega) (by rw [hD]; omega)
      simp only [Int.natCast_add, Int.natCast_one] at this
      rw [this, ← e1, e2]
      congr 3
      omega
    · have hc : ¬ cmpI (S : Int) B ≥ 0 := by rw [cmpI_lt (by omega)]; omega
      rw [cge_f hc, cApp (by omega) (by omega), Nat.mod_eq_of_lt (by omega), Nat.div_eq_of_lt (by omega), Nat.add_zero]

theorem rQ_L0 {x : List Int} (hx : DX x) {B : Nat} (hB : 0 < B) (hBl : (dX B).length ≤ 10000000) (hxl : x.length ≤ 10000000) : ∀ (k : Nat) (R : Nat) (q : List Int), k ≤ x.length → R < B → q.length + k ≤ 10000000 → DX q →
    VX (x.drop k) = B * VX q.reverse + R →
    ∃ q' R', torusref02_Quotient_L0 b p x s (dX B) (dX R) ((k : Int) - 1) q = torusref02_Quotient_L2 b p s (dX R') 0 q' ∧ R' < B ∧ DX q' ∧ VX x = B * VX q'.reverse + R' ∧ q'.length ≤ 10000000 := by
  intro k
  induction k with
  | zero =>
    intro R q hk hR hql hq hv
    refine ⟨q, R, ?_, hR, hq, by simpa using hv, by omega⟩
    rw [torusref02_Quotient_L0_eq, cge_f (by omega)]
  | succ k ih =>
    intro R q hk hR hql hq hv
    have hxk := hx.getD (by omega) k
    have hRl := dX_le (show R ≤ B by omega)
    have e : ((k + 1 : Nat) : Int) - 1 = k := by omega
    obtain ⟨c, hc⟩ := Int.eq_ofNat_of_zero_le hxk.1
    rw [hc] at hxk
    have hDc : DX ([(c : Int)] ++ dX R) := (Dig.cons hxk.1 hxk.2 Dig.nil).append (dX_D R)
    have hVc : VX ([(c : Int)] ++ dX R) = ((c + 10 * R : Nat) : Int) := by
      have := VX_d R
      simp only [VX, List.singleton_append, val] at this ⊢
      rw [this]; omega
    have hlen : (dX (c + 10 * R)).length ≤ 10000001 := by
      have h1 := trimL_length ([(c : Int)] ++ dX R)
      rw [trimX hDc, hVc, Int.toNat_natCast] at h1
      simp at h1
      show (dX (c + 10 * R)).length ≤ _
      omega
    have hdiv : (c + 10 * R) / B < 10 := by
      rw [Nat.div_lt_iff_lt_mul hB]
      omega
    have hmod := Nat.mod_lt (c + 10 * R) hB
    have hdm := Nat.div_add_mod (c + 10 * R) B
    rw [torusref02_Quotient_L0_eq, e, cge_t (by omega), bIdx (by omega) (by omega), Int.toNat_natCast, hc, cApp (by omega) (by omega), rtrim_ok (by simp; omega), bS, trimX hDc, hVc, Int.toNat_natCast]
    have h1 := rQ_L1 (b := b) (p := p) (s := s) (x := x) hB hBl (i := k) (q := q) (by omega) (c + 10 * R) 0 hlen (by omega)
    simp only [Int.natCast_zero, Nat.zero_add] at h1
    rw [h1, i64_in _ (by omega)]
    refine ih _ _ (by omega) hmod (by simp; omega) (hq.append (Dig.cons (Int.natCast_nonneg _) (Int.ofNat_lt.2 hdiv) Dig.nil)) ?_
    rw [drop_eq (show k < x.length by omega), hc, List.reverse_append, List.reverse_singleton, List.singleton_append]
    simp only [VX, val] at hv ⊢
    rw [hv]
    have h2 : ((B * ((c + 10 * R) / B) + (c + 10 * R) % B : Nat) : Int) = ((c + 10 * R : Nat) : Int) := by rw [hdm]
    rw [Int.natCast_add, Int.natCast_mul] at h2
    have h3 : (B : Int) * (((c + 10 * R) / B : Nat) + 10 * val 10 q.reverse) = B * ((c + 10 * R) / B : Nat) + 10 * (B * val 10 q.reverse) := by rw [Int.mul_add, Int.mul_left_comm]
    rw [h3]
    omega

theorem rQ_rev {r : List Int} : ∀ (m : Nat) (M A C : List Int), M.length = m → A.length = C.length → (A ++ M ++ C).length ≤ 1000000000 →
    torusref02_Quotient_L2 b p s r A.length (A ++ M ++ C) = torusref02_Quotient_L2 b p s r (((A ++ M ++ C).length : Int) / 2) (A ++ M.reverse ++ C) := by
  intro m
  induction m using Nat.strongRecOn with
  | ind m ih =>
    intro M A C hm hac hl
    by_cases h : M.length ≤ 1
    · have hrev : M.reverse = M := by
        match M, h with
        | [], _ => rfl
        | [x], _ => rfl
        | _ :: _ :: _, h => simp at h
      have : ((A ++ M ++ C).length : Int) / 2 = A.length := by simp; omega
      rw [hrev, this]
    · obtain ⟨x, M1, rfl⟩ : ∃ x M1, M = x :: M1 := by
        cases M with
        | nil => simp at h
        | cons x M1 => exact ⟨x, M1, rfl⟩
      have hne : M1 ≠ [] := fun e => by rw [e] at h; simp at h
      obtain ⟨M2, y, rfl⟩ : ∃ M2 y, M1 = M2 ++ [y] := ⟨M1.dropLast, M1.getLast hne, (List.dropLast_concat_getLast hne).symm⟩
      have hlen : (A ++ x :: (M2 ++ [y]) ++ C).length = A.length + M2.length + 2 + C.length := by simp; omega
      rw [hlen] at hl
      have hL : A ++ x :: (M2 ++ [y]) ++ C = A ++ (x :: (M2 ++ (y :: C))) := by simp
      have hR : A ++ (x :: (M2 ++ [y])).reverse ++ C = (A ++ [y]) ++ M2.reverse ++ (x :: C) := by simp
      have hlen3 : ((A ++ [y]) ++ M2 ++ (x :: C)).length = A.length + M2.length + 2 + C.length := by simp; omega
      have hrec := ih M2.length (by simp at hm; omega) M2 (A ++ [y]) (x :: C) rfl (by simp; omega) (by omega)
      have e1 : ((A ++ [y]).length : Int) = (A.length : Int) + 1 := by simp
      rw [e1, hlen3] at hrec
      rw [hlen, hR, ← hrec, hL]
      rw [hL] at hlen
      have gx : (A ++ (x :: (M2 ++ (y :: C)))).getD A.length 0 = x := by simp [List.getD]
      have gy : (A ++ (x :: (M2 ++ (y :: C)))).getD (A.length + M2.length + 1) 0 = y := by
        rw [List.getD, List.getElem?_append_right (by omega)]
        have : A.length + M2.length + 1 - A.length = M2.length + 1 := by omega
        rw [this]
        simp
      have s1 : (A ++ (x :: (M2 ++ (y :: C)))).set A.length y = A ++ (y :: (M2 ++ (y :: C))) := by
        rw [List.set_append_right _ _ (by omega)]; simp
      have s2 : (A ++ (y :: (M2 ++ (y :: C)))).set (A.length + M2.length + 1) x = (A ++ [y]) ++ M2 ++ (x :: C) := by
        rw [List.set_append_right _ _ (by omega)]
        have : A.length + M2.length + 1 - A.length = M2.length + 1 := by omega
        rw [this, List.set_cons_succ, List.set_append_right _ _ (by omega)]
        simp
      have hlen2 : (A ++ (y :: (M2 ++ (y :: C)))).length = A.length + M2.length + 2 + C.length := by simp; omega
      have ej : (((A.length + M2.length + 2 + C.length : Nat) : Int) - 1 - A.length).toNat = A.length + M2.length + 1 := by omega
      rw [torusref02_Quotient_L2_eq]
      simp only [hlen]
      rw [tdiv_in (by omega)]
      simp (disch := omega) only [clt_t, i64_in, bIdx, bGet, ej, Int.toNat_natCast, gx, gy, s1, s2]

theorem rQ_rev' {r q : List Int} (hl : q.length ≤ 1000000000) : torusref02_Quotient_L2 b p s r 0 q = torusref02_Quotient_L2 b p s r ((q.length : Int) / 2) q.reverse := by
  have := rQ_rev (b := b) (p := p) (s := s) (r := r) q.length q [] [] rfl rfl (by simpa using hl)
  simpa using this
end

theorem nd_fdiv {x y : Int} (hy : y ≠ 0) : nd (x.fdiv y) ≤ nd x := nd_mono (fdiv_natAbs_le hy)
theorem nd_fmod {x y : Int} (hy : y ≠ 0) : nd (x.fmod y) ≤ nd y := nd_mono (Nat.le_of_lt (fmod_natAbs_lt hy))

theorem rQuotient_ok {x y : Int} (hx : Bd x) (hy : Bd y) (hy0 : y ≠ 0) : torusref02_Quotient (T10 x) (T10 y) = some (T10 (x.fdiv y), T10 (x.fmod y)) := by
  have hlx := nd_dX x
  have hly := nd_dX y
  obtain ⟨fq, fr⟩ := floor_of (x := x) (y := y) hy0 rfl rfl
  have hdm := Nat.div_add_mod x.natAbs y.natAbs
  have hlt := Nat.mod_lt x.natAbs (show y.natAbs > 0 by omega)
  have hbx := hx
  have hby := hy
  rw [torusref02_Quotient_eq, rshort_ok hx, bS, rshort_ok hy, bS]
  unfold Bd at hx hy
  -- the long way
  have long : ((torusref02_digits (T10 x)).bind fun r9 => (torusref02_digits (T10 y)).bind fun r10 =>
      let e11 : Int := (IntKind.wrap .i64 ((r10.2.length : Int) - (1 : Int)))
      let e12 : Int := (bif decide (e11 > (0 : Int)) then e11 else (0 : Int))
      let e13 : Int := (bif decide ((IntKind.wrap .i64 ((r9.2.length : Int) - e12)) > (0 : Int)) then (IntKind.wrap .i64 ((r9.2.length : Int) - e12)) else (0 : Int))
      bif (inCut r9.2.length e13 (r9.2.length : Int)) then
      bif (okApp 8 1 0 (cut r9.2 e13 (r9.2.length : Int)).length) then
      let e14 : List Int := (([] : List Int) ++ (cut r9.2 e13 (r9.2.length : Int)))
      (torusref02_trim e14).bind fun r15 =>
      torusref02_Quotient_L0 (T10 y) r9.1 r9.2 r10.1 r10.2 r15 (IntKind.wrap .i64 (e13 - (1 : Int))) ([] : List Int)
      else none
      else none) = some (T10 (x.fdiv y), T10 (x.fmod y)) := by
    rw [rdigits_ok hbx, bS, rdigits_ok hby, bS]
    simp only
    obtain ⟨LX, hLX⟩ : ∃ LX, LX = (dX x.natAbs).length := ⟨_, rfl⟩
    obtain ⟨LY, hLY⟩ : ∃ LY, LY = (dX y.natAbs).length := ⟨_, rfl⟩
    have hLY0 : 0 < LY := by
      have : (dX y.natAbs).length ≠ 0 := fun e => by
        have := (dig_eq_nil (B := 10) (n := y.natAbs) (by omega)).1 (List.length_eq_zero_iff.1 e)
        omega
      omega
    obtain ⟨st, hst⟩ : ∃ st : Nat, st = LX - (LY - 1) := ⟨_, rfl⟩
    rw [← hLX, ← hLY]
    have e11 : IntKind.wrap .i64 ((LY : Int) - 1) = ((LY - 1 : Nat) : Int) := by rw [i64_in _ (by omega)]; omega
    have e12 : (bif decide (((LY - 1 : Nat) : Int) > 0) then ((LY - 1 : Nat) : Int) else 0) = ((LY - 1 : Nat) : Int) := by
      by_cases h : ((LY - 1 : Nat) : Int) > 0
      · rw [cgt_t h]
      · rw [cgt_f h]; omega
    have e13 : (bif decide (IntKind.wrap .i64 ((LX : Int) - ((LY - 1 : Nat) : Int)) > 0) then IntKind.wrap .i64 ((LX : Int) - ((LY - 1 : Nat) : Int)) else 0) = (st : Int) := by
      rw [i64_in _ (by omega)]
      by_cases h : (LX : Int) - ((LY - 1 : Nat) : Int) > 0
      · rw [cgt_t h]; omega
      · rw [cgt_f h]; omega
    have hcut : cut (dX x.natAbs) (st : Int) (LX : Int) = (dX x.natAbs).drop st := by
      unfold cut
      rw [Int.toNat_natCast, Int.toNat_natCast, hLX, List.take_length]
    simp only [e11, e12, e13, hcut]
    have hdl : ((dX x.natAbs).drop st).length = LX - st := by rw [List.length_drop, hLX]
    have hDd := (dX_D x.natAbs).drop st
    obtain ⟨R0, hR0⟩ := Int.eq_ofNat_of_zero_le (VX_nonneg hDd)
    rw [cCut (by omega) (by omega) (by omega), cApp (by omega) (by omega), List.nil_append, rtrim_ok (by omega), bS, trimX hDd, hR0, Int.toNat_natCast, i64_in _ (by omega)]
    -- the first digits are less than the divisor
    have hR0B : R0 < y.natAbs := by
      have h1 : VX ((dX x.natAbs).drop st) < 10 ^ ((dX x.natAbs).drop st).length := val_lt (B := 10) (by omega) hDd
      have h2 := pow10_le (show ((dX x.natAbs).drop st).length ≤ LY - 1 by omega)
      have h3 := (dig_length_lt (B := 10) (by omega) (LY - 1) y.natAbs).1 (by show LY - 1 < (dX y.natAbs).length; omega)
      have h4 : ((10 ^ (LY - 1) : Nat) : Int) ≤ (y.natAbs : Int) := Int.ofNat_le.2 h3
      rw [pow10_cast] at h4
      omega
    obtain ⟨q', R', w1, w2, w3, w4, w5⟩ := rQ_L0 (b := T10 y) (p := decide (x < 0)) (s := decide (y < 0)) (dX_D x.natAbs) (B := y.natAbs) (by omega) (by omega) (by omega) st R0 [] (by omega) hR0B (by simp; omega) Dig.nil (by rw [hR0]; simp [VX, val])
    have hq0 := VX_nonneg (show DX q'.reverse from fun z hz => w3 z (List.mem_reverse.1 hz))
    obtain ⟨Q, hQ⟩ := Int.eq_ofNat_of_zero_le hq0
    rw [VX_d, hQ] at w4
    have hAN : x.natAbs = y.natAbs * Q + R' := by
      have : ((y.natAbs * Q + R' : Nat) : Int) = (y.natAbs : Int) * Q + R' := by rw [Int.natCast_add, Int.natCast_mul]
      omega
    have hq1 : x.natAbs / y.natAbs = Q := by rw [hAN, Nat.mul_add_div (by omega), Nat.div_eq_of_lt w2]; omega
    have hr1 : x.natAbs % y.natAbs = R' := by rw [hAN, Nat.mul_add_mod, Nat.mod_eq_of_lt w2]
    rw [hq1, hr1] at fq
    rw [hr1] at fr
    have hR'l := dX_le (show R' ≤ y.natAbs by omega)
    rw [w1, rQ_rev' (by omega), torusref02_Quotient_L2_eq]
    have hql : (q'.reverse).length = q'.length := by simp
    rw [hql, tdiv_in (by omega)]
    simp (disch := omega) only [i64_in, clt_f]
    have hD' : DX q'.reverse := fun z hz => w3 z (List.mem_reverse.1 hz)
    rw [rtext_ok hD' (by rw [hql]; omega), bS, rtext_ok (dX_D R') (by omega), bS, hQ, VX_d, bs_0]
    have hndQ : nd (Q : Int) ≤ 100000 := by
      have : Q ≤ x.natAbs := by rw [← hq1]; exact Nat.div_le_self _ _
      have := nd_mono (x := (Q : Int)) (y := x) (by omega)
      omega
    have hndR : nd (R' : Int) ≤ 100000 := by
      have := nd_mono (x := (R' : Int)) (y := y) (by omega)
      omega
    have b1 : Bd 1 := by unfold Bd; rw [nd_small (by decide)]; omega
    by_cases hs : (x < 0 ↔ y < 0)
    · have hd : (decide (x < 0) == decide (y < 0)) = true := beq_iff_eq.2 (decide_eq_decide.2 hs)
      rw [if_pos hs] at fq fr
      rw [hd, Bool.not_true, fq, fr]
      simp only [Bool.false_eq_true, if_false, cF, decide_eq_true_eq]
      cases ((T10 (if x < 0 then -(R' : Int) else (R' : Int))).toList == (T10 0).toList) <;> rfl
    · have hd : (decide (x < 0) == decide (y < 0)) = false := by
        cases hh : (decide (x < 0) == decide (y < 0)) with
        | false => rfl
        | true => exact absurd (decide_eq_decide.1 (beq_iff_eq.1 hh)) hs
      rw [if_neg hs] at fq fr
      rw [hd, Bool.not_false, fq, fr]
      simp only [if_true, cT, decide_eq_true_eq]
      by_cases hz : R' = 0
      · subst hz
        have : (if x < 0 then -((0 : Nat) : Int) else ((0 : Nat) : Int)) = 0 := by split <;> rfl
        rw [this, T10_beq_t rfl, Bool.not_true, cF, if_pos (by rfl), if_pos (by rfl)]
      · have h1 : ¬ (if x < 0 then -(R' : Int) else (R' : Int)) = 0 := by split <;> omega
        rw [T10_beq_f h1, Bool.not_false, cT, if_neg (show ¬ ((R' : Nat) : Int) = 0 by omega), if_neg (show ¬ ((R' : Nat) : Int) = 0 by omega), bs_1, rMinus_ok (by unfold Bd; rw [nd_neg]; exact hndQ) b1, bS, rPlus_ok (by
          unfold Bd
          split
          · rw [nd_neg]; exact hndR
          · exact hndR) hby, bS]
  by_cases h1 : nd x ≤ 9
  · rw [if_pos h1]
    simp only [cT]
    by_cases h2 : nd y ≤ 9
    · rw [if_pos h2]
      simp only [cT]
      have c1 := (nd_le_iff x 9 (by omega)).1 h1
      have c2 := (nd_le_iff y 9 (by omega)).1 h2
      have hqle := Nat.div_le_self x.natAbs y.natAbs
      -- truncated division by the absolute values
      have eq1 : x.tdiv y = if (x < 0 ↔ y < 0) then ((x.natAbs / y.natAbs : Nat) : Int) else -((x.natAbs / y.natAbs : Nat) : Int) := by
        by_cases a : x < 0 <;> by_cases b : y < 0
        · have hx' : x = -(x.natAbs : Int) := by omega
          have hy' : y = -(y.natAbs : Int) := by omega
          rw [if_pos (by simp [a, b])]
          conv => lhs; rw [hx', hy']
          rw [Int.neg_tdiv, Int.tdiv_neg, Int.neg_neg, tdiv_in (by omega), Int.natCast_ediv]
        · have hx' : x = -(x.natAbs : Int) := by omega
          have hy' : y = (y.natAbs : Int) := by omega
          rw [if_neg (by simp [a, b])]
          conv => lhs; rw [hx', hy']
          rw [Int.neg_tdiv, tdiv_in (by omega), Int.natCast_ediv]
        · have hx' : x = (x.natAbs : Int) := by omega
          have hy' : y = -(y.natAbs : Int) := by omega
          rw [if_neg (by simp [a, b])]
          conv => lhs; rw [hx', hy']
          rw [Int.tdiv_neg, tdiv_in (by omega), Int.natCast_ediv]
        · have hx' : x = (x.natAbs : Int) := by omega
          have hy' : y = (y.natAbs : Int) := by omega
          rw [if_pos (by simp [a, b])]
          conv => lhs; rw [hx', hy']
          rw [tdiv_in (by omega), Int.natCast_ediv]
      have eq2 : x.tmod y = if x < 0 then -((x.natAbs % y.natAbs : Nat) : Int) else ((x.natAbs % y.natAbs : Nat) : Int) := by
        have key : x.tmod y = x.tmod (y.natAbs : Int) := by
          by_cases b : y < 0
          · have hy' : y = -(y.natAbs : Int) := by omega
            conv => lhs; rw [hy']
            rw [Int.tmod_neg]
          · have hy' : y = (y.natAbs : Int) := by omega
            conv => lhs; rw [hy']
        rw [key]
        by_cases a : x < 0
        · have hx' : x = -(x.natAbs : Int) := by omega
          rw [if_pos a]
          conv => lhs; rw [hx']
          rw [Int.neg_tmod, tmod_in (by omega), Int.natCast_emod]
        · have hx' : x = (x.natAbs : Int) := by omega
          rw [if_neg a]
          conv => lhs; rw [hx']
          rw [tmod_in (by omega), Int.natCast_emod]
      obtain ⟨Q, hQ⟩ : ∃ Q, Q = x.natAbs / y.natAbs := ⟨_, rfl⟩
      obtain ⟨R, hR⟩ : ∃ R, R = x.natAbs % y.natAbs := ⟨_, rfl⟩
      rw [ceq_f hy0, ceq_f hy0, eq1, eq2, fq, fr]
      rw [← hQ, ← hR] at hdm
      rw [← hR] at hlt
      rw [← hQ] at hqle
      rw [← hQ, ← hR]
      clear hQ hR fq fr eq1 eq2
      by_cases hz : R = 0
      · subst hz
        have e0 : (if x < 0 then -((0 : Nat) : Int) else ((0 : Nat) : Int)) = 0 := by split <;> rfl
        rw [e0, cne_f rfl]
        by_cases hs : (x < 0 ↔ y < 0)
        · rw [if_pos hs, if_pos hs, if_pos hs, i64_in _ (by omega), rNumber_ok (by omega) (by omega), bS, rNumber_ok (by omega) (by omega), bS]
        · rw [if_neg hs, if_neg hs, if_neg hs, if_pos (by rfl), if_pos (by rfl), i64_in _ (by omega), rNumber_ok (by omega) (by omega), bS, rNumber_ok (by omega) (by omega), bS]
      · have hr0 : ¬ (if x < 0 then -(R : Int) else (R : Int)) = 0 := by split <;> omega
        rw [cne_t hr0]
        have hsg : (decide ((if x < 0 then -(R : Int) else (R : Int)) < 0)) = decide (x < 0) := decide_eq_decide.2 (by split <;> omega)
        rw [hsg]
        by_cases hs : (x < 0 ↔ y < 0)
        · have hd : (decide (x < 0) == decide (y < 0)) = true := beq_iff_eq.2 (decide_eq_decide.2 hs)
          rw [hd, Bool.not_true, cF, if_pos hs, if_pos hs, if_pos hs, i64_in _ (by omega), rNumber_ok (by omega) (by omega), bS, rNumber_ok (by split <;> omega) (by split <;> omega), bS]
        · have hd : (decide (x < 0) == decide (y < 0)) = false := by
            cases hh : (decide (x < 0) == decide (y < 0)) with
            | false => rfl
            | true => exact absurd (decide_eq_decide.1 (beq_iff_eq.1 hh)) hs
          rw [hd, Bool.not_false, cT, if_neg hs, if_neg hs, if_neg hs, if_neg (show ¬ ((R : Nat) : Int) = 0 by omega), if_neg (show ¬ ((R : Nat) : Int) = 0 by omega)]
          have w1 : IntKind.wrap .i64 (-(Q : Int)) = -(Q : Int) := i64_in _ (by omega)
          have w2 : IntKind.wrap .i64 (-(Q : Int) - 1) = -(Q : Int) - 1 := i64_in _ (by omega)
          have w3 : IntKind.wrap .i64 ((if x < 0 then -(R : Int) else (R : Int)) + y) = (if x < 0 then -(R : Int) else (R : Int)) + y := i64_in _ (by split <;> omega)
          simp only [w1, w2, w3]
          rw [rNumber_ok (by omega) (by omega), bS, rNumber_ok (by split <;> omega) (by split <;> omega), bS]
    · rw [if_neg h2]
      simp only [cF]
      exact long
  · rw [if_neg h1]
    simp only [cF]
    exact long
end Go.Proofs.Ytlpkaimkmfgpiaa.Ev

set_option linter.unusedVariables false
set_option linter.unusedSimpArgs false
set_option linter.unusedSectionVars false
set_option exponentiation.threshold 2000
namespace Go.Proofs.Ytlpkaimkmfgpiaa.Ev
open Go.Abs Go.IntWalk

theorem Sm.Bd {z : Int} (h : Sm z) : Bd z := by unfold Sm at h; unfold Go.Abs.Bd; omega
theorem Bd_T10_big {z : Int} (h : Bd z) : BigOk (T10 z) := by
  unfold BigOk; have := T10_size_le z; unfold Bd at h; omega
theorem Bd_of {z : Int} {k : Nat} (h : nd z ≤ k) (hk : k ≤ 100000) : Bd z := by unfold Bd; omega
theorem Bd_small {z : Int} (h : z.natAbs < 10) : Bd z := Bd_of (Nat.le_of_eq (nd_small h)) (by omega)

theorem rLong_T10 {z : Int} (h : Bd z) : torusref02_Long (T10 z) = some (longZ z) := by
  rw [rLong_ok (Bd_T10_big h), body_T10]
  rfl

theorem rlimited_ok {z : Int} (h : Bd z) : torusref02_limited (T10 z) = some (resZ z) := by
  rw [torusref02_limited_eq, rLong_T10 h, bS]
  unfold resZ
  by_cases hs : Sm z
  · rw [longZ_false hs, cF, if_pos hs]
  · rw [longZ_iff.2 hs, cT, if_neg hs]

/-! ### Divisor -/
theorem rDivisor_walk : ∀ (y x : Nat), Bd x → Bd y → torusref02_Divisor_L0 (T10 x) (T10 y) = some (T10 ((Nat.gcd x y : Nat) : Int)) := by
  intro y
  induction y using Nat.strongRecOn with
  | ind y ih =>
    intro x hx hy
    rw [torusref02_Divisor_L0_eq, bs_0]
    by_cases h : y = 0
    · subst h
      rw [T10_beq_t (by rfl), Bool.not_true, cF, Nat.gcd_zero_right]
    · have e : (x : Int).fmod y = ((x % y : Nat) : Int) := by rw [Int.fmod_eq_emod_of_nonneg _ (by omega), Int.natCast_emod]
      have hlt := Nat.mod_lt x (show y > 0 by omega)
      rw [T10_beq_f (by omega), Bool.not_false, cT, rQuotient_ok hx hy (by omega), bS, e, ih _ hlt y hy (Bd_of (nd_mono (x := ((x % y : Nat) : Int)) (y := (y : Int)) (by simp; omega)) hy), Nat.gcd_comm y, ← Nat.gcd_rec, Nat.gcd_comm]

theorem rDivisor_ok {x y : Int} (hx : Bd x) (hy : Bd y) : torusref02_Divisor (T10 x) (T10 y) = some (T10 ((Int.gcd x y : Nat) : Int)) := by
  rw [torusref02_Divisor_eq, rPositive_ok hx, bS, rPositive_ok hy, bS, rDivisor_walk y.natAbs x.natAbs (Bd_of (nd_mono (y := x) (by simp)) hx) (Bd_of (nd_mono (y := y) (by simp)) hy)]
  rfl

/-! ### The functions that look at their arguments first -/
section
variable {x y : Int} (hx : Sm x) (hy : Sm y)
include hx hy
theorem rAdd_ok : torusref02_Add (T10 x) (T10 y) = some (resZ (x + y)) := by
  have h := nd_add x y
  unfold Sm at hx hy
  rw [torusref02_Add_eq, rIs_T10 hx, bS, Bool.not_true, cF, rIs_T10 hy, bS, Bool.not_true, cF, rPlus_ok (Sm.Bd hx) (Sm.Bd hy), bS, rlimited_ok (Bd_of h (by omega)), bS]
theorem rSub_ok : torusref02_Sub (T10 x) (T10 y) = some (resZ (x - y)) := by
  have h := nd_sub x y
  unfold Sm at hx hy
  rw [torusref02_Sub_eq, rIs_T10 hx, bS, Bool.not_true, cF, rIs_T10 hy, bS, Bool.not_true, cF, rMinus_ok (Sm.Bd hx) (Sm.Bd hy), bS, rlimited_ok (Bd_of h (by omega)), bS]
theorem rMul_ok : torusref02_Mul (T10 x) (T10 y) = some (resZ (x * y)) := by
  have h := nd_mul x y
  unfold Sm at hx hy
  rw [torusref02_Mul_eq, rIs_T10 hx, bS, Bool.not_true, cF, rIs_T10 hy, bS, Bool.not_true, cF, rTimes_ok (Sm.Bd hx) (Sm.Bd hy), bS, rlimited_ok (Bd_of h (by omega)), bS]
theorem rCmp_ok : torusref02_Cmp (T10 x) (T10 y) = some (cmpI x y) := by
  rw [torusref02_Cmp_eq, rIs_T10 hx, bS, Bool.not_true, cF, rIs_T10 hy, bS, Bool.not_true, cF, rCompare_ok hx.Bd hy.Bd, bS]
theorem rDivMod_zero (h : y = 0) : torusref02_DivMod (T10 x) (T10 y) = some (ByteArray.empty, ByteArray.empty, 9) := by
  rw [torusref02_DivMod_eq, rIs_T10 hx, bS, Bool.not_true, cF, rIs_T10 hy, bS, Bool.not_true, cF, bs_0, T10_beq_t h, cT]
theorem rDivMod_ok (h : y ≠ 0) : torusref02_DivMod (T10 x) (T10 y) = some (T10 (x.fdiv y), T10 (x.fmod y), 0) := by
  have h3 : Sm (x.fdiv y) := hx.mono (fdiv_natAbs_le h)
  rw [torusref02_DivMod_eq, rIs_T10 hx, bS, Bool.not_true, cF, rIs_T10 hy, bS, Bool.not_true, cF, bs_0, T10_beq_f h, cF, rQuotient_ok hx.Bd hy.Bd h, bS]
  simp only
  rw [rLong_T10 h3.Bd, bS, longZ_false h3, cF]
theorem rGcd_ok : torusref02_Gcd (T10 x) (T10 y) = some (T10 ((Int.gcd x y : Nat) : Int), 0) := by
  rw [torusref02_Gcd_eq, rIs_T10 hx, bS, Bool.not_true, cF, rIs_T10 hy, bS, Bool.not_true, cF, rDivisor_ok hx.Bd hy.Bd, bS]
end
section
variable {x : Int} (hx : Sm x)
include hx
theorem rNeg_ok : torusref02_Neg (T10 x) = some (T10 (-x)) := by rw [torusref02_Neg_eq, rIs_T10 hx, bS, Bool.not_true, cF, rOpposite_ok hx.Bd, bS]
theorem rAbs_ok : torusref02_Abs (T10 x) = some (T10 x.natAbs) := by rw [torusref02_Abs_eq, rIs_T10 hx, bS, Bool.not_true, cF, rPositive_ok hx.Bd, bS]
theorem rSign_ok : torusref02_Sign (T10 x) = some (sgnI x) := by
  rw [torusref02_Sign_eq, rIs_T10 hx, bS, Bool.not_true, cF, bs_0, rCompare_ok hx.Bd (Bd_small (by decide)), bS, cmp_sub, Int.sub_zero]
end

/-! ### Bezout -/
theorem rBez_walk {x y : Int} (hx : Sm x) (hy : Sm y) (hy0 : y ≠ 0) : ∀ (n : Nat) (r s k m : Int), s.natAbs = n → BI x y r s k m → nd r ≤ 1000 → nd s ≤ 1000 → 0 ≤ r → 0 ≤ s → k.natAbs ≤ y.natAbs →
    ∃ X Y, torusref02_Bezout_L0 (T10 x) (T10 y) (T10 ((Int.gcd x y : Nat) : Int)) (T10 ((y.natAbs : Int).fdiv (Int.gcd x y : Nat))) (T10 s) (T10 r) (T10 m) (T10 k) = some (T10 ((Int.gcd x y : Nat) : Int), T10 X, T10 Y, 0) ∧ IsBez x y X Y := by
  intro n
  induction n using Nat.strongRecOn with
  | ind n ih =>
    intro r s k m hn hI hr hs hr0 hs0 hkb
    have hgpos : 0 < Int.gcd x y := Int.gcd_pos_of_ne_zero_right _ hy0
    have hx' := hx
    have hy' := hy
    unfold Sm at hx' hy'
    have hkd := nd_mono hkb
    rw [torusref02_Bezout_L0_eq, bs_0]
    by_cases h : s = 0
    · subst h
      rw [T10_beq_t rfl, Bool.not_true, cF]
      have hg := hI.gcd
      have hgr : ((Int.gcd x y : Nat) : Int) = r := by omega
      have hd : y ∣ ((Int.gcd x y : Nat) : Int) - x * k := by rw [hgr]; exact hI.e1
      have hend := bez_end hy0 rfl hd
      have hp0 : (y.natAbs : Int).fdiv (Int.gcd x y : Nat) ≠ 0 := by
        obtain ⟨p, hp⟩ : ((Int.gcd x y : Nat) : Int) ∣ y.natAbs := Int.dvd_natAbs.2 (Int.gcd_dvd_right ..)
        rw [hp, Int.mul_fdiv_cancel_left _ (by omega)]
        intro e; subst e; simp at hp; exact hy0 (by omega)
      have hpd : nd ((y.natAbs : Int).fdiv (Int.gcd x y : Nat)) ≤ 1000 := by
        have h1 := nd_fdiv (x := (y.natAbs : Int)) (y := ((Int.gcd x y : Nat) : Int)) (by omega)
        have h2 := nd_mono (x := (y.natAbs : Int)) (y := y) (by simp)
        omega
      have hX := hend.Sm hx hy hy0
      have hXd := hX
      unfold Sm at hXd
      have hgd := gcd_Sm hx hy
      unfold Sm at hgd
      refine ⟨_, _, ?_, hend⟩
      rw [rQuotient_ok (Bd_of hkd (by omega)) (Bd_of hpd (by omega)) hp0, bS]
      simp only
      have hm := nd_mul x (k.fmod ((y.natAbs : Int).fdiv (Int.gcd x y : Nat)))
      have hsb := nd_sub ((Int.gcd x y : Nat) : Int) (x * k.fmod ((y.natAbs : Int).fdiv (Int.gcd x y : Nat)))
      rw [rTimes_ok hx.Bd hX.Bd, bS, rMinus_ok (gcd_Sm hx hy).Bd (Bd_of hm (by omega)), bS, rQuotient_ok (Bd_of hsb (by omega)) hy.Bd hy0, bS]
    · have hst := hI.step h
      have hq := nd_fdiv (x := r) h
      have hr1 := nd_fmod (x := r) h
      have hmb : m.natAbs ≤ y.natAbs := by
        have hf' := hI.f
        by_cases hr0 : r = 0
        · rw [hI.rz hr0]; simp
        · have h3 : m.natAbs * 1 ≤ m.natAbs * r.natAbs := Nat.mul_le_mul_left _ (by omega)
          omega
      have hmd := nd_mono hmb
      have hqm := nd_mul (r.fdiv s) m
      have hfm : 0 ≤ r.fmod s := by rw [Int.fmod_eq_emod_of_nonneg _ hs0]; exact Int.emod_nonneg _ h
      have hlt := fmod_natAbs_lt (x := r) h
      rw [T10_beq_f h, Bool.not_false, cT, rQuotient_ok (Bd_of hr (by omega)) (Bd_of hs (by omega)) h, bS]
      simp only
      rw [rTimes_ok (Bd_of hq (by omega)) (Bd_of hmd (by omega)), bS, rMinus_ok (Bd_of hkd (by omega)) (Bd_of hqm (by omega)), bS]
      exact ih _ (by omega) s (r.fmod s) m (k - r.fdiv s * m) rfl hst hs (by omega) hs0 hfm hmb

theorem rBezout_ok {x y : Int} (hx : Sm x) (hy : Sm y) (hy0 : y ≠ 0) : ∃ X Y, torusref02_Bezout (T10 x) (T10 y) = some (T10 ((Int.gcd x y : Nat) : Int), T10 X, T10 Y, 0) ∧ IsBez x y X Y := by
  have hgpos : 0 < Int.gcd x y := Int.gcd_pos_of_ne_zero_right _ hy0
  have hay : Bd (y.natAbs : Int) := Bd_of (nd_mono (y := y) (by simp)) hy.Bd
  have hyd := hy
  unfold Sm at hyd
  have hand : nd (y.natAbs : Int) ≤ 1000 := by have := nd_mono (x := (y.natAbs : Int)) (y := y) (by simp); omega
  rw [torusref02_Bezout_eq, rIs_T10 hx, bS, Bool.not_true, cF, rIs_T10 hy, bS, Bool.not_true, cF, rDivisor_ok hx.Bd hy.Bd, bS, bs_0, T10_beq_f hy0, cF, rPositive_ok hy.Bd, bS, rQuotient_ok hay (gcd_Sm hx hy).Bd (by omega), bS, bS, rQuotient_ok hx.Bd hay (by omega), bS, bS, bs_1]
  simp only
  have hfm : x.fmod (y.natAbs : Int) = x % y.natAbs := Int.fmod_eq_emod_of_nonneg _ (by omega)
  have h0 := Int.emod_nonneg x (show (y.natAbs : Int) ≠ 0 by omega)
  have hdm := Int.mul_ediv_add_emod x (y.natAbs : Int)
  have hrd := nd_fmod (x := x) (y := (y.natAbs : Int)) (by omega)
  refine rBez_walk hx hy hy0 _ (y.natAbs : Int) (x.fmod (y.natAbs : Int)) 0 1 rfl ?_ hand (by omega) (by omega) (by rw [hfm]; exact h0) (by simp)
  rw [hfm]
  refine ⟨fun e => ?_, ?_, ?_, by simp, ?_, by simp, fun e => by omega⟩
  · constructor
    · rintro ⟨a, b⟩
      refine ⟨?_, Int.dvd_natAbs.1 a⟩
      rw [← hdm]; exact Int.dvd_add (Int.dvd_mul_of_dvd_left a) b
    · rintro ⟨a, b⟩
      have b' := Int.dvd_natAbs.2 b
      refine ⟨b', ?_⟩
      have : x % (y.natAbs : Int) = x - y.natAbs * (x / y.natAbs) := by omega
      rw [this]; exact Int.dvd_sub a (Int.dvd_mul_of_dvd_left b')
  · rw [Int.mul_zero, Int.sub_zero]; exact Int.dvd_natAbs.2 (Int.dvd_refl _)
  · have : x % (y.natAbs : Int) - x * 1 = -(y.natAbs * (x / y.natAbs)) := by omega
    rw [this]; exact Int.dvd_neg.2 (Int.dvd_mul_of_dvd_left (Int.dvd_natAbs.2 (Int.dvd_refl _)))
  · left
    exact Int.mul_nonneg (by omega) h0

theorem rBezout_zero {x : Int} (hx : Sm x) : torusref02_Bezout (T10 x) (T10 0) = some (T10 x.natAbs, T10 (sgnI x), T10 0, 0) := by
  have h0 : Sm 0 := Sm_small (by decide)
  have hs := sgn_bound x
  rw [torusref02_Bezout_eq, rIs_T10 hx, bS, Bool.not_true, cF, rIs_T10 h0, bS, Bool.not_true, cF, rDivisor_ok hx.Bd h0.Bd, bS, bs_0, T10_beq_t rfl, cT, rCompare_ok hx.Bd h0.Bd, bS, cmp_sub, Int.sub_zero, rNumber_ok (by omega) (by omega), bS, Int.gcd_zero]

/-! ### Pow -/
theorem rPow_walk {x : Int} (hx : Sm x) (hx0 : x ≠ 0) {n : Nat} (hn : n ≤ 9223372036854775807) : ∀ (m k : Nat), m + k = n → Sm (x ^ k) →
    torusref02_Pow_L0 (T10 x) n (T10 (x ^ k)) k = some (resZ (x ^ n)) := by
  intro m
  induction m with
  | zero =>
    intro k hk hs
    have : k = n := by omega
    subst this
    rw [torusref02_Pow_L0_eq, clt_f (by omega)]
    unfold resZ
    rw [if_pos hs]
  | succ m ih =>
    intro k hk hs
    have hnd := nd_mul (x ^ k) x
    have hs' := hs
    have hx' := hx
    unfold Sm at hs' hx'
    rw [torusref02_Pow_L0_eq, clt_t (by omega), rTimes_ok hs.Bd hx.Bd, bS, rLong_T10 (Bd_of hnd (by omega)), bS, ← Int.pow_succ]
    by_cases hl : Sm (x ^ (k + 1))
    · rw [longZ_false hl, cF, i64_in _ (by omega)]
      have := ih (k + 1) (by omega) hl
      simp only [Int.natCast_add, Int.natCast_one] at this
      exact this
    · rw [longZ_iff.2 hl, cT]
      have : ¬ Sm (x ^ n) := fun h => hl (h.mono (pow_mono hx0 (by omega)))
      unfold resZ
      rw [if_neg this]

theorem rPow_neg {x n : Int} (hx : Sm x) (hn : n < 0) : torusref02_Pow (T10 x) n = some (ByteArray.empty, 1) := by
  rw [torusref02_Pow_eq, rIs_T10 hx, bS, Bool.not_true, cF, clt_t hn]

theorem resZ_t {z : Int} (h : Sm z) : resZ z = (T10 z, 0) := by unfold resZ; rw [if_pos h]

theorem rPow_ok {x : Int} (hx : Sm x) {n : Nat} (hn : n ≤ 9223372036854775807) : torusref02_Pow (T10 x) n = some (resZ (x ^ n)) := by
  have s1 : Sm 1 := Sm_small (by decide)
  rw [torusref02_Pow_eq, rIs_T10 hx, bS, Bool.not_true, cF, clt_f (by omega), bs_0, bs_1, bs_m1]
  by_cases h0 : n = 0
  · subst h0
    rw [ceq_t (by rfl), Int.pow_zero, resZ_t s1]
  · rw [ceq_f (by omega)]
    by_cases hx0 : x = 0
    · subst hx0
      rw [T10_beq_t rfl, cT, Int.zero_pow h0, resZ_t hx]
    · rw [T10_beq_f hx0, cF]
      by_cases hx1 : x = 1
      · subst hx1
        rw [T10_beq_t rfl, cT, Int.one_pow, resZ_t hx]
      · rw [T10_beq_f hx1, cF]
        by_cases hxm : x = -1
        · subst hxm
          rw [T10_beq_t rfl, cT, tmod_in (by omega)]
          by_cases he : n % 2 = 1
          · rw [ceq_t (by omega), neg_one_odd n he, resZ_t hx]
          · rw [ceq_f (by omega), cT, neg_one_even n (by omega), resZ_t s1]
        · rw [T10_beq_f hxm, cF, cF]
          have := rPow_walk hx hx0 hn n 0 (by omega) (by rw [Int.pow_zero]; exact s1)
          rw [Int.pow_zero] at this
          exact this

/-! ### Root -/
theorem dX_drop : ∀ (j n : Nat), (dX n).drop j = dX (n / 10 ^ j)
  | 0, n => by simp
  | j + 1, n => by
    by_cases h : n = 0
    · subst h; rw [show dX 0 = [] from dig_zero _]; simp [dX, dig_zero]
    · rw [show dX n = _ from dig_pos (B := 10) (by omega) (by omega), List.drop_succ_cons, dX_drop j (n / 10), Nat.pow_succ, Nat.mul_comm, ← Nat.div_div_eq_div_mul]

/-- The first digits of a number. -/
theorem T10_prefix {n j : Nat} (hj : j < nd (n : Int)) : (T10 (n : Int)).extract 0 (nd (n : Int) - j) = T10 ((n / 10 ^ j : Nat) : Int) := by
  apply bytesOf_inj
  rw [bytesOf_extract, bytesOf_T10, bytesOf_T10, List.drop_zero]
  unfold txtL
  rw [if_neg (Int.not_lt.2 (Int.natCast_nonneg n)), if_neg (Int.not_lt.2 (Int.natCast_nonneg (n / 10 ^ j))), List.nil_append, List.nil_append, Int.natAbs_natCast, Int.natAbs_natCast]
  have hnd : nd (n : Int) = (natT n).length := rfl
  rw [hnd] at hj ⊢
  by_cases h0 : n = 0
  · subst h0
    have : (natT 0).length = 1 := rfl
    rw [this] at hj ⊢
    have : j = 0 := by omega
    subst this
    rfl
  · have hlen : (natT n).length = (dX n).length := by
      rw [natT_length]
      have : (dX n).length ≠ 0 := fun e => h0 ((dig_eq_nil (B := 10) (by omega)).1 (List.length_eq_zero_iff.1 e))
      omega
    have hq : n / 10 ^ j ≠ 0 := by
      have h1 := (dig_length_lt (B := 10) (by omega) j n).1 (show j < (dX n).length by omega)
      have := Nat.div_pos h1 (Nat.pow_pos (by omega))
      omega
    unfold natT
    rw [if_neg h0, if_neg hq, List.take_reverse, ← dX_drop]
    simp only [List.length_reverse]
    rw [chr_length]
    have : (dX n).length - ((dX n).length - j) = j := by omega
    rw [this, chr, chr, List.map_drop]

theorem rRoot_L1 {a : ByteArray} {i h r : Int} (hh : nd h ≤ 1000) (hr : IsRoot r h) : ∀ (n : Nat) (x : Int), (r - x).toNat = n → 0 ≤ x → x * x ≤ h →
    torusref02_Root_L1 a (T10 x) i (T10 h) = torusref02_Root_L0 a (T10 r) (IntKind.wrap .i64 (i - 1)) := by
  intro n
  induction n using Nat.strongRecOn with
  | ind n ih =>
    intro x hn hx0 hxx
    have hxh : x ≤ h := by
      by_cases h0 : x = 0
      · subst h0; omega
      · have : x * 1 ≤ x * x := Int.mul_le_mul_of_nonneg_left (by omega) hx0
        omega
    have hxd := nd_mono (x := x) (y := h) (by omega)
    have h1 := nd_add x 1
    have n1 : nd 1 = 1 := nd_small (by decide)
    have h2 := nd_mul (x + 1) (x + 1)
    rw [torusref02_Root_L1_eq, bs_1, rPlus_ok (Bd_of hxd (by omega)) (Bd_small (by decide)), bS, bS, rTimes_ok (Bd_of h1 (by omega)) (Bd_of h1 (by omega)), bS, rCompare_ok (Bd_of h2 (by omega)) (Bd_of hh (by omega)), bS]
    by_cases hc : (x + 1) * (x + 1) ≤ h
    · have hcc : cmpI ((x + 1) * (x + 1)) h ≤ 0 := by
        by_cases e : cmpI ((x + 1) * (x + 1)) h ≤ 0
        · exact e
        · have := cmp_gt_iff.1 (show cmpI ((x + 1) * (x + 1)) h > 0 by omega); omega
      rw [cle_t hcc, bS]
      have hle : x + 1 ≤ r := by
        by_cases e : x + 1 ≤ r
        · exact e
        · have : (r + 1) * (r + 1) ≤ (x + 1) * (x + 1) := Int.mul_le_mul (by omega) (by omega) (by have := hr.1; omega) (by omega)
          have := hr.2.2
          omega
      exact ih _ (by omega) (x + 1) rfl (by omega) hc
    · have hcc : ¬ cmpI ((x + 1) * (x + 1)) h ≤ 0 := by rw [cmpI_gt (by omega)]; omega
      rw [cle_f hcc]
      have : x = r := root_unique ⟨hx0, hxx, by omega⟩ hr
      rw [this]

theorem rRoot_L0 {n : Nat} (hn : nd (n : Int) ≤ 1000) {r : Int} (hr : IsRoot r n) : ∀ (i : Nat) (x : Int), 2 * i ≤ nd (n : Int) + 1 → IsRoot x ((n / 10 ^ (2 * i) : Nat) : Int) →
    torusref02_Root_L0 (T10 n) (T10 x) i = some (T10 r, 0) := by
  intro i
  induction i with
  | zero =>
    intro x hi hx
    rw [torusref02_Root_L0_eq, cgt_f (by omega)]
    rw [Nat.mul_zero, Nat.pow_zero, Nat.div_one] at hx
    rw [root_unique hx hr]
  | succ i ih =>
    intro x hi hx
    have hsz : (T10 (n : Int)).size = nd (n : Int) := by rw [T10_size, if_neg (by omega)]; omega
    have hp := nd_pos (n : Int)
    obtain ⟨r', hr'⟩ := root_ex (n / 10 ^ (2 * i))
    have hxd : nd x ≤ 1000 := by
      have h1 : x ≤ ((n / 10 ^ (2 * (i + 1)) : Nat) : Int) := by
        have h3 := hx.2.1
        have h4 := Int.natCast_nonneg (n / 10 ^ (2 * (i + 1)))
        by_cases h0 : x = 0
        · rw [h0]; exact h4
        · have : x * 1 ≤ x * x := Int.mul_le_mul_of_nonneg_left (by have := hx.1; omega) hx.1
          omega
      have h2 := Nat.div_le_self n (10 ^ (2 * (i + 1)))
      have := nd_mono (x := x) (y := (n : Int)) (by have := hx.1; omega)
      omega
    have n10 : nd 10 ≤ 2 := (nd_le_iff 10 2 (by omega)).2 (by decide)
    have hm := nd_mul x 10
    have hhd : nd ((n / 10 ^ (2 * i) : Nat) : Int) ≤ 1000 := by
      have h2 := Nat.div_le_self n (10 ^ (2 * i))
      have := nd_mono (x := ((n / 10 ^ (2 * i) : Nat) : Int)) (y := (n : Int)) (by rw [Int.natAbs_natCast, Int.natAbs_natCast]; exact h2)
      omega
    have b10 : bs [49, 48] = T10 10 := bs_T10 rfl rfl
    rw [torusref02_Root_L0_eq, cgt_t (by omega), hsz]
    have e1 : IntKind.wrap .i64 (((i + 1 : Nat) : Int) - 1) = (i : Int) := by rw [i64_in _ (by omega)]; omega
    have e2 : IntKind.wrap .i64 (2 * (i : Int)) = ((2 * i : Nat) : Int) := by rw [i64_in _ (by omega)]; omega
    have e3 : IntKind.wrap .i64 ((nd (n : Int) : Int) - ((2 * i : Nat) : Int)) = ((nd (n : Int) - 2 * i : Nat) : Int) := by rw [i64_in _ (by omega)]; omega
    simp only [e1, e2, e3]
    have e0 : (0 : Int).toNat = 0 := rfl
    rw [cCut (by omega) (by omega) (by omega), b10, rTimes_ok (Bd_of hxd (by omega)) (Bd_of n10 (by omega)), bS, e0, Int.toNat_natCast, T10_prefix (by omega)]
    have hxx : x * 10 * (x * 10) ≤ ((n / 10 ^ (2 * i) : Nat) : Int) := by
      have h1 := hx.2.1
      have h2 : n / 10 ^ (2 * (i + 1)) = n / 10 ^ (2 * i) / 100 := by
        rw [Nat.div_div_eq_div_mul, show 2 * (i + 1) = 2 * i + 2 by omega, Nat.pow_add]
      rw [h2] at h1
      have h3 : x * 10 * (x * 10) = 100 * (x * x) := by
        have h10 : (10 : Int) * 10 = 100 := by decide
        rw [Int.mul_assoc, Int.mul_left_comm 10 x 10, ← Int.mul_assoc, h10, Int.mul_comm]
      rw [h3]
      omega
    rw [rRoot_L1 hhd hr' _ (x * 10) rfl (by have := hx.1; omega) hxx]
    have e4 : IntKind.wrap .i64 (((i + 1 : Nat) : Int) - 1) = (i : Int) := e1
    rw [e4]
    exact ih r' (by omega) hr'

theorem rRoot_ok {a r : Int} (ha : Sm a) (hr : IsRoot r a) : torusref02_Root (T10 a) = some (T10 r, 0) := by
  have ha0 : 0 ≤ a := by
    have := hr.2.1
    have := Int.mul_nonneg hr.1 hr.1
    omega
  obtain ⟨n, rfl⟩ := Int.eq_ofNat_of_zero_le ha0
  have hsz : (T10 (n : Int)).size = nd (n : Int) := by rw [T10_size, if_neg (by omega)]; omega
  have hp := nd_pos (n : Int)
  have hl := bytesOf_length (T10 (n : Int))
  have had := ha
  unfold Sm at had
  have e0 : (0 : Int).toNat = 0 := rfl
  have hm := T10_minus (n : Int)
  rw [decide_eq_false (by omega)] at hm
  rw [torusref02_Root_eq, rIs_T10 ha, bS, Bool.not_true, cF, sidx_eq, idx_in (by omega) (by omega), bS, e0, hm, cF, hsz, bs_0]
  have e1 : IntKind.wrap .i64 ((IntKind.wrap .i64 ((nd (n : Int) : Int) + 1)).tdiv 2) = (((nd (n : Int) + 1) / 2 : Nat) : Int) := by
    simp (disch := omega) only [i64_in, tdiv_in]; omega
  simp only [e1]
  refine rRoot_L0 had hr _ 0 (by omega) ?_
  have hpw := nd_pow (n : Int)
  have h1 : n < 10 ^ (2 * ((nd (n : Int) + 1) / 2)) := Nat.lt_of_lt_of_le (by simpa using hpw) (Nat.pow_le_pow_right (by omega) (by omega))
  rw [Nat.div_eq_of_lt h1]
  exact ⟨by omega, by omega, by omega⟩

theorem rRoot_neg {a : Int} (ha : Sm a) (h : a < 0) : torusref02_Root (T10 a) = some (ByteArray.empty, 1) := by
  have hl := bytesOf_length (T10 a)
  have hh := (T10_head a).1
  have e0 : (0 : Int).toNat = 0 := rfl
  have hm := T10_minus a
  rw [decide_eq_true h] at hm
  rw [torusref02_Root_eq, rIs_T10 ha, bS, Bool.not_true, cF, sidx_eq, idx_in (by omega) (by omega), bS, e0, hm, cT]
end Go.Proofs.Ytlpkaimkmfgpiaa.Ev

set_option linter.unusedVariables false
set_option linter.unusedSimpArgs false
set_option linter.unusedSectionVars false
set_option exponentiation.threshold 2000
namespace Go.Proofs.Ytlpkaimkmfgpiaa.Ev
open Go.Abs Go.IntWalk

/-! ### Int64 -/
theorem filter_T10 (z : Int) : (bytesOf (T10 z)).filter (fun c => c != 45) = natT z.natAbs := by
  rw [bytesOf_T10]
  unfold txtL
  rw [List.filter_append, filter_natT]
  split <;> rfl

theorem rInt64_walk {z : Int} (hz0 : -9223372036854775808 ≤ z) (hz1 : z ≤ 9223372036854775807) (hzd : nd z ≤ 1000) : ∀ (m k : Nat) (n : Int), m + k = (T10 z).size → n = -decv (((bytesOf (T10 z)).take k).filter (fun c => c != 45)) →
    torusref02_Int64_L0 (T10 z) n k = some (z, true) := by
  intro m
  have hsz := T10_size_le z
  have hl := bytesOf_length (T10 z)
  have hh := T10_head z
  have hmem : ∀ c ∈ (bytesOf (T10 z)).filter (fun c => c != 45), 48 ≤ c ∧ c ≤ 57 := by
    rw [filter_T10]; exact natT_range _
  induction m with
  | zero =>
    intro k n hk hn
    have hk' : k = (bytesOf (T10 z)).length := by omega
    rw [hk', List.take_length, filter_T10, decv_natT] at hn
    have e0 : (0 : Int).toNat = 0 := rfl
    have hm := T10_minus z
    rw [torusref02_Int64_L0_eq, clt_f (by omega), sidx_eq, idx_in (by omega) (by omega), bS, e0]
    by_cases h : z < 0
    · rw [decide_eq_true h] at hm
      rw [cne_f (by simpa using hm)]
      congr 2; omega
    · rw [decide_eq_false h] at hm
      rw [cne_t (by simpa using hm), i64_in _ (by omega)]
      congr 2; omega
  | succ m ih =>
    intro k n hk hn
    have hkl : k < (bytesOf (T10 z)).length := by omega
    have hb := (bytesOf_range (T10 z)).getD (by omega) k
    have ih' := fun n => ih (k + 1) n (by omega)
    simp only [Int.natCast_add, Int.natCast_one] at ih'
    rw [torusref02_Int64_L0_eq, clt_t (by omega), sidx_eq, idx_in (by omega) (by omega), bS, Int.toNat_natCast]
    have hts : (bytesOf (T10 z)).take (k + 1) = (bytesOf (T10 z)).take k ++ [(bytesOf (T10 z)).getD k 0] := take_succ' hkl
    by_cases h : (bytesOf (T10 z)).getD k 0 = 45
    · rw [cne_f h, i64_in _ (by omega), ih' n (by rw [hts, List.filter_append, h]; simpa using hn)]
    · have hc : 48 ≤ (bytesOf (T10 z)).getD k 0 ∧ (bytesOf (T10 z)).getD k 0 ≤ 57 := by
        apply hmem
        rw [List.mem_filter]
        refine ⟨?_, by simpa using h⟩
        simp only [List.getD, hkl, List.getElem?_eq_getElem, Option.getD_some]
        exact List.getElem_mem hkl
      -- the parts' values
      have hval : decv (((bytesOf (T10 z)).take (k + 1)).filter (fun c => c != 45)) = 10 * decv (((bytesOf (T10 z)).take k).filter (fun c => c != 45)) + ((bytesOf (T10 z)).getD k 0 - 48) := by
        rw [hts, List.filter_append, filt1 h, decv_append]
        simp only [decv, List.foldl_cons, List.foldl_nil, List.length_singleton, Int.mul_zero, Int.zero_add, Int.pow_one]
        omega
      have hall : decv ((bytesOf (T10 z)).filter (fun c => c != 45)) = z.natAbs := by rw [filter_T10, decv_natT]
      have hsplit : (bytesOf (T10 z)).filter (fun c => c != 45) = ((bytesOf (T10 z)).take (k + 1)).filter (fun c => c != 45) ++ ((bytesOf (T10 z)).drop (k + 1)).filter (fun c => c != 45) := by
        rw [← List.filter_append, List.take_append_drop]
      have hd1 := decv_bounds (((bytesOf (T10 z)).take (k + 1)).filter (fun c => c != 45)) (fun c hc => hmem c (by rw [hsplit]; exact List.mem_append_left _ hc))
      have hd2 := decv_bounds (((bytesOf (T10 z)).drop (k + 1)).filter (fun c => c != 45)) (fun c hc => hmem c (by rw [hsplit]; exact List.mem_append_right _ hc))
      have hd0 := decv_bounds (((bytesOf (T10 z)).take k).filter (fun c => c != 45)) (fun c hc => hmem c (((List.take_sublist k _).filter _).subset hc))
      have hle : decv (((bytesOf (T10 z)).take (k + 1)).filter (fun c => c != 45)) ≤ z.natAbs := by
        rw [hsplit, decv_append] at hall
        have h1 : decv (((bytesOf (T10 z)).take (k + 1)).filter (fun c => c != 45)) * 1 ≤ decv (((bytesOf (T10 z)).take (k + 1)).filter (fun c => c != 45)) * 10 ^ (((bytesOf (T10 z)).drop (k + 1)).filter (fun c => c != 45)).length :=
          Int.mul_le_mul_of_nonneg_left (by have := pow10_le (Nat.zero_le (((bytesOf (T10 z)).drop (k + 1)).filter (fun c => c != 45)).length); rw [Int.pow_zero] at this; exact this) hd1.1
        omega
      rw [cne_t h, bS]
      simp (disch := omega) only [i64_in, u8_in]
      rw [ih']
      rw [hval]; omega

theorem rInt64_ok {x : Int} (hx : Sm x) : torusref02_Int64 (T10 x) = some (smallZ x) := by
  have hxd := hx
  unfold Sm at hxd
  have b1 : Bd 9223372036854775807 := Bd_of ((nd_le_iff _ 19 (by omega)).2 (by decide)) (by omega)
  have b2 : Bd (-9223372036854775808) := Bd_of ((nd_le_iff _ 19 (by omega)).2 (by decide)) (by omega)
  rw [torusref02_Int64_eq, rIs_T10 hx, bS, Bool.not_true, cF, rNumber_ok (by omega) (by omega), bS, rCompare_ok hx.Bd b1, bS]
  unfold smallZ
  by_cases h1 : x > 9223372036854775807
  · rw [cgt_t (cmp_gt_iff.2 h1), if_neg (by omega)]
  · rw [cgt_f (fun e => h1 (cmp_gt_iff.1 e)), rNumber_ok (by omega) (by omega), bS, rCompare_ok hx.Bd b2, bS]
    by_cases h2 : x < -9223372036854775808
    · rw [clt_t (cmp_lt_iff.2 h2), if_neg (by omega)]
    · rw [clt_f (fun e => h2 (cmp_lt_iff.1 e)), if_pos (by omega)]
      have := rInt64_walk (z := x) (by omega) (by omega) hxd (T10 x).size 0 0 (by omega) (by simp [decv])
      simpa using this

/-! ### Sum, Copy, Same -/
theorem rSum_walk {l : List ByteArray} (hl : l.length ≤ 1000) (hb : ∀ s ∈ l, BigOk s) : ∀ (m k : Nat) (z : Int), m + k = l.length → nd z ≤ 1000 + k →
    torusref02_Sum_L0 l (T10 z) k = match sumL (l.drop k) with
      | some s => some (resZ (z + s))
      | none => some (ByteArray.empty, 1) := by
  intro m
  induction m with
  | zero =>
    intro k z hk hz
    rw [torusref02_Sum_L0_eq, clt_f (by omega), rlimited_ok (Bd_of hz (by omega)), bS, List.drop_eq_nil_of_le (by omega)]
    simp only [sumL, Int.add_zero]
  | succ m ih =>
    intro k z hk hz
    have hkl : k < l.length := by omega
    have hmem : l.getD k ByteArray.empty ∈ l := by
      rw [List.getD, List.getElem?_eq_getElem hkl]; exact List.getElem_mem hkl
    have hd : l.drop k = l.getD k ByteArray.empty :: l.drop (k + 1) := by
      rw [List.drop_eq_getElem_cons hkl]; simp [List.getD, hkl]
    have ih' := fun z => ih (k + 1) z (by omega)
    simp only [Int.natCast_add, Int.natCast_one] at ih'
    rw [torusref02_Sum_L0_eq, clt_t (by omega), idx_inD ByteArray.empty (by omega) (by omega), bS, Int.toNat_natCast, rIs_ok (hb _ hmem), bS, hd]
    simp only [sumL]
    cases hi : intOf (l.getD k ByteArray.empty) with
    | none => simp only [Option.isSome_none, Bool.not_false, cT]
    | some x =>
      obtain ⟨h1, h2⟩ := intOf_some hi
      have h2' := h2
      unfold Sm at h2'
      have hnd := nd_add z x
      simp only [Option.isSome_some, Bool.not_true, cF, bS]
      rw [h1, rPlus_ok (Bd_of hz (by omega)) h2.Bd, bS, i64_in _ (by omega), ih' (z + x) (by omega)]
      cases sumL (l.drop (k + 1)) with
      | none => rfl
      | some s => simp only [Int.add_assoc]

theorem rSum_ok {l : List ByteArray} (hl : l.length ≤ 1000) (hb : ∀ s ∈ l, BigOk s) : torusref02_Sum l = match sumL l with
      | some s => some (resZ s)
      | none => some (ByteArray.empty, 1) := by
  have := rSum_walk hl hb l.length 0 0 (by omega) (by rw [nd_small (by decide)]; omega)
  simp only [Int.natCast_zero, List.drop_zero, Int.zero_add] at this
  rw [torusref02_Sum_eq, bs_0, this]

theorem rCopy_ok {l : List ByteArray} (hl : l.length ≤ 1000) : torusref02_Copy l = some l := by
  rw [torusref02_Copy_eq, cApp (by omega) (by omega), List.nil_append]

theorem rSame_walk {l : List ByteArray} (hl : l.length ≤ 1000) : ∀ (m k : Nat), m + k = l.length → torusref02_Same_L0 l l k = some true := by
  intro m
  induction m with
  | zero => intro k hk; rw [torusref02_Same_L0_eq, clt_f (by omega)]
  | succ m ih =>
    intro k hk
    have := ih (k + 1) (by omega)
    simp only [Int.natCast_add, Int.natCast_one] at this
    rw [torusref02_Same_L0_eq, clt_t (by omega), idx_inD ByteArray.empty (by omega) (by omega), bS, bS, str_beq', decide_eq_true rfl, Bool.not_true, cF, i64_in _ (by omega), this]

theorem rSame_ok {l : List ByteArray} (hl : l.length ≤ 1000) : torusref02_Same l l = some true := by
  rw [torusref02_Same_eq, cne_f rfl]
  have := rSame_walk hl l.length 0 (by omega)
  simpa using this

/-! ### The two agree -/
section
variable {a b : ByteArray} (ha : BigOk a) (hb : BigOk b)
include ha

theorem ag_Int64 : ∃ v, whole_Int64 a = some v ∧ torusref02_Int64 a = some v := by
  cases h : intOf a with
  | none => exact ⟨_, whole_Int64_bad ha h, by rw [torusref02_Int64_eq, rIs_bad ha h, bS, Bool.not_false, cT]⟩
  | some x => obtain ⟨rfl, hx⟩ := intOf_some h; exact ⟨_, whole_Int64_ok hx, rInt64_ok hx⟩
theorem ag_Valid : ∃ v, whole_Valid a = some v ∧ torusref02_Is a = some v := by
  cases h : intOf a with
  | none => exact ⟨_, whole_Valid_bad ha h, rIs_bad ha h⟩
  | some x => obtain ⟨rfl, hx⟩ := intOf_some h; exact ⟨_, whole_Valid_ok hx, rIs_T10 hx⟩
theorem ag_Sign : ∃ v, whole_Sign a = some v ∧ torusref02_Sign a = some v := by
  cases h : intOf a with
  | none => exact ⟨_, whole_Sign_bad ha h, by rw [torusref02_Sign_eq, rIs_bad ha h, bS, Bool.not_false, cT]⟩
  | some x => obtain ⟨rfl, hx⟩ := intOf_some h; exact ⟨_, whole_Sign_ok hx, rSign_ok hx⟩
theorem ag_Neg : ∃ v, whole_Neg a = some v ∧ torusref02_Neg a = some v := by
  cases h : intOf a with
  | none => exact ⟨_, whole_Neg_bad ha h, by rw [torusref02_Neg_eq, rIs_bad ha h, bS, Bool.not_false, cT]⟩
  | some x => obtain ⟨rfl, hx⟩ := intOf_some h; exact ⟨_, whole_Neg_ok hx, rNeg_ok hx⟩
theorem ag_Abs : ∃ v, whole_Abs a = some v ∧ torusref02_Abs a = some v := by
  cases h : intOf a with
  | none => exact ⟨_, whole_Abs_bad ha h, by rw [torusref02_Abs_eq, rIs_bad ha h, bS, Bool.not_false, cT]⟩
  | some x => obtain ⟨rfl, hx⟩ := intOf_some h; exact ⟨_, whole_Abs_ok hx, rAbs_ok hx⟩
theorem ag_Root : ∃ v, whole_Root a = some v ∧ torusref02_Root a = some v := by
  cases h : intOf a with
  | none => exact ⟨_, whole_Root_bad ha h, by rw [torusref02_Root_eq, rIs_bad ha h, bS, Bool.not_false, cT]⟩
  | some x =>
    obtain ⟨rfl, hx⟩ := intOf_some h
    by_cases hn : x < 0
    · exact ⟨_, whole_Root_neg hx hn, rRoot_neg hx hn⟩
    · obtain ⟨r, hr⟩ := root_ex x.natAbs
      have e : (x.natAbs : Int) = x := by omega
      rw [e] at hr
      exact ⟨_, whole_Root_ok hx hr, rRoot_ok hx hr⟩
theorem ag_Pow {n : Int} (hn : n ≤ 9223372036854775807) : ∃ v, whole_Pow a n = some v ∧ torusref02_Pow a n = some v := by
  cases h : intOf a with
  | none => exact ⟨_, whole_Pow_bad ha h, by rw [torusref02_Pow_eq, rIs_bad ha h, bS, Bool.not_false, cT]⟩
  | some x =>
    obtain ⟨rfl, hx⟩ := intOf_some h
    by_cases h0 : n < 0
    · exact ⟨_, whole_Pow_neg hx h0, rPow_neg hx h0⟩
    · obtain ⟨k, rfl⟩ := Int.eq_ofNat_of_zero_le (show 0 ≤ n by omega)
      exact ⟨_, whole_Pow_ok hx (by omega), rPow_ok hx (by omega)⟩
include hb

theorem bad2 (h : intOf a = none ∨ intOf b = none) : torusref02_Is a = some false ∨ (torusref02_Is a = some true ∧ torusref02_Is b = some false) := by
  cases h1 : intOf a with
  | none => exact .inl (rIs_bad ha h1)
  | some x =>
    rcases h with h | h
    · rw [h] at h1; cases h1
    · exact .inr ⟨by rw [rIs_ok ha, h1]; rfl, rIs_bad hb h⟩

theorem two_cases : (∃ x y, a = T10 x ∧ b = T10 y ∧ Sm x ∧ Sm y) ∨ (intOf a = none ∨ intOf b = none) := by
  cases h1 : intOf a with
  | none => exact .inr (.inl rfl)
  | some x =>
    cases h2 : intOf b with
    | none => exact .inr (.inr rfl)
    | some y =>
      obtain ⟨e1, s1⟩ := intOf_some h1
      obtain ⟨e2, s2⟩ := intOf_some h2
      exact .inl ⟨x, y, e1, e2, s1, s2⟩

theorem ag_Cmp : ∃ v, whole_Cmp a b = some v ∧ torusref02_Cmp a b = some v := by
  rcases two_cases ha hb with ⟨x, y, rfl, rfl, hx, hy⟩ | h
  · exact ⟨_, whole_Cmp_ok hx hy, rCmp_ok hx hy⟩
  · refine ⟨_, whole_Cmp_bad ha hb h, ?_⟩
    rcases bad2 ha hb h with e | ⟨e, e'⟩
    · rw [torusref02_Cmp_eq, e, bS, Bool.not_false, cT]
    · rw [torusref02_Cmp_eq, e, bS, Bool.not_true, cF, e', bS, Bool.not_false, cT]
theorem ag_Add : ∃ v, whole_Add a b = some v ∧ torusref02_Add a b = some v := by
  rcases two_cases ha hb with ⟨x, y, rfl, rfl, hx, hy⟩ | h
  · exact ⟨_, whole_Add_ok hx hy, rAdd_ok hx hy⟩
  · refine ⟨_, whole_Add_bad ha hb h, ?_⟩
    rcases bad2 ha hb h with e | ⟨e, e'⟩
    · rw [torusref02_Add_eq, e, bS, Bool.not_false, cT]
    · rw [torusref02_Add_eq, e, bS, Bool.not_true, cF, e', bS, Bool.not_false, cT]
theorem ag_Sub : ∃ v, whole_Sub a b = some v ∧ torusref02_Sub a b = some v := by
  rcases two_cases ha hb with ⟨x, y, rfl, rfl, hx, hy⟩ | h
  · exact ⟨_, whole_Sub_ok hx hy, rSub_ok hx hy⟩
  · refine ⟨_, whole_Sub_bad ha hb h, ?_⟩
    rcases bad2 ha hb h with e | ⟨e, e'⟩
    · rw [torusref02_Sub_eq, e, bS, Bool.not_false, cT]
    · rw [torusref02_Sub_eq, e, bS, Bool.not_true, cF, e', bS, Bool.not_false, cT]
theorem ag_Mul : ∃ v, whole_Mul a b = some v ∧ torusref02_Mul a b = some v := by
  rcases two_cases ha hb with ⟨x, y, rfl, rfl, hx, hy⟩ | h
  · exact ⟨_, whole_Mul_ok hx hy, rMul_ok hx hy⟩
  · refine ⟨_, whole_Mul_bad ha hb h, ?_⟩
    rcases bad2 ha hb h with e | ⟨e, e'⟩
    · rw [torusref02_Mul_eq, e, bS, Bool.not_false, cT]
    · rw [torusref02_Mul_eq, e, bS, Bool.not_true, cF, e', bS, Bool.not_false, cT]
theorem ag_DivMod : ∃ v, whole_DivMod a b = some v ∧ torusref02_DivMod a b = some v := by
  rcases two_cases ha hb with ⟨x, y, rfl, rfl, hx, hy⟩ | h
  · by_cases h0 : y = 0
    · exact ⟨_, whole_DivMod_zero hx hy h0, rDivMod_zero hx hy h0⟩
    · exact ⟨_, whole_DivMod_ok hx hy h0, rDivMod_ok hx hy h0⟩
  · refine ⟨_, whole_DivMod_bad ha hb h, ?_⟩
    rcases bad2 ha hb h with e | ⟨e, e'⟩
    · rw [torusref02_DivMod_eq, e, bS, Bool.not_false, cT]
    · rw [torusref02_DivMod_eq, e, bS, Bool.not_true, cF, e', bS, Bool.not_false, cT]
theorem ag_Gcd : ∃ v, whole_Gcd a b = some v ∧ torusref02_Gcd a b = some v := by
  rcases two_cases ha hb with ⟨x, y, rfl, rfl, hx, hy⟩ | h
  · exact ⟨_, whole_Gcd_ok hx hy, rGcd_ok hx hy⟩
  · refine ⟨_, whole_Gcd_bad ha hb h, ?_⟩
    rcases bad2 ha hb h with e | ⟨e, e'⟩
    · rw [torusref02_Gcd_eq, e, bS, Bool.not_false, cT]
    · rw [torusref02_Gcd_eq, e, bS, Bool.not_true, cF, e', bS, Bool.not_false, cT]
theorem ag_Bezout : ∃ v, whole_Bezout a b = some v ∧ torusref02_Bezout a b = some v := by
  rcases two_cases ha hb with ⟨x, y, rfl, rfl, hx, hy⟩ | h
  · by_cases h0 : y = 0
    · subst h0
      exact ⟨_, whole_Bezout_zero hx, rBezout_zero hx⟩
    · obtain ⟨X, Y, e1, e2⟩ := whole_Bezout_ok hx hy h0
      obtain ⟨X', Y', e3, e4⟩ := rBezout_ok hx hy h0
      obtain ⟨rfl, rfl⟩ := bez_unique h0 e2 e4
      exact ⟨_, e1, e3⟩
  · refine ⟨_, whole_Bezout_bad ha hb h, ?_⟩
    rcases bad2 ha hb h with e | ⟨e, e'⟩
    · rw [torusref02_Bezout_eq, e, bS, Bool.not_false, cT]
    · rw [torusref02_Bezout_eq, e, bS, Bool.not_true, cF, e', bS, Bool.not_false, cT]
end

/-! ### The laws -/
theorem sb (s : ByteArray) : (s.toList == s.toList) = true := by rw [str_beq']; exact decide_eq_true rfl
theorem cneS {α : Type} {x y : α} (n : Int) : (bif n != n then x else y) = y := cne_f rfl
theorem ceqS (n : Int) : (n == n) = true := beq_t rfl

theorem divisors_ok {a b : ByteArray} (ha : BigOk a) (hb : BigOk b) : toruslaw02_divisors a b = some true := by
  obtain ⟨v1, g1, g2⟩ := ag_Gcd ha hb
  obtain ⟨v2, z1, z2⟩ := ag_Bezout ha hb
  obtain ⟨v3, r1, r2⟩ := ag_Root ha
  rw [toruslaw02_divisors_eq, rIs_ok ha, rIs_ok hb]
  simp only [bS, g1, g2, z1, z2, r1, r2, sb, Bool.not_true, cF, cneS, cT, ceqS]
  cases (intOf a).isSome <;> cases (intOf b).isSome <;> simp only [cT, cF] <;> cases (decide ((a.size : Int) > 100)) <;> simp only [cT, cF] <;> cases (decide ((b.size : Int) > 100)) <;> simp only [cT, cF]

theorem WholeMatches_ok {a b : ByteArray} {n : Int} (ha : BigOk a) (hb : BigOk b) (h0 : -9223372036854775808 ≤ n) (h1 : n ≤ 9223372036854775807) : toruslaw02_WholeMatches a b n = some true := by
  obtain ⟨v1, a1, b1⟩ := ag_Int64 ha
  obtain ⟨v2, a2, b2⟩ := ag_Valid ha
  obtain ⟨v3, a3, b3⟩ := ag_Sign ha
  obtain ⟨v4, a4, b4⟩ := ag_Cmp ha hb
  obtain ⟨v5, a5, b5⟩ := ag_Neg ha
  obtain ⟨v6, a6, b6⟩ := ag_Abs ha
  obtain ⟨v7, a7, b7⟩ := ag_Add ha hb
  obtain ⟨v8, a8, b8⟩ := ag_Sub ha hb
  obtain ⟨v9, a9, b9⟩ := ag_Mul ha hb
  obtain ⟨v10, a10, b10⟩ := ag_DivMod ha hb
  have bb : ∀ c : Bool, (c == c) = true := fun c => by cases c <;> rfl
  rw [toruslaw02_WholeMatches_eq]
  simp only [a1, b1, a2, b2, a3, b3, a4, b4, a5, b5, a6, b6, a7, b7, a8, b8, a9, b9, a10, b10, whole_Of_ok h0 h1, rNumber_ok h0 h1, divisors_ok ha hb, awake_ok, bS, bb, sb, Bool.not_true, cF, cneS, ceqS, cT]

theorem WholePowersMatch_ok {a : ByteArray} {n : Int} {l : List ByteArray} (ha : BigOk a) (h1 : n ≤ 9223372036854775807) (hl : ∀ s ∈ l, BigOk s) : toruslaw02_WholePowersMatch a n l = some true := by
  obtain ⟨v1, a1, b1⟩ := ag_Pow (n := n) ha h1
  rw [toruslaw02_WholePowersMatch_eq]
  simp only [a1, b1, bS, sb, Bool.not_true, cF, cneS, awake_ok]
  by_cases h : (l.length : Int) > 30
  · rw [cgt_t h]
  · have hs1 := whole_Sum_ok (l := l) (by omega) hl
    have hs2 := rSum_ok (l := l) (by omega) hl
    rw [cgt_f h, rCopy_ok (by omega), bS, hs1, hs2, rSame_ok (by omega)]
    cases sumL l <;> simp only [bS, sb, ceqS, cT]

theorem i64_wf {n : Int} (h : (Lit.int .i64 n).wf = true) : -9223372036854775808 ≤ n ∧ n ≤ 9223372036854775807 := by
  have := (Lit.wf_int_iff .i64 n).1 h
  have e1 : IntKind.min .i64 = -9223372036854775808 := by decide
  have e2 : IntKind.max .i64 = 9223372036854775807 := by decide
  rw [e1, e2] at this
  exact this
theorem WholeMatches_law (a b : ByteArray) (n : Int) (ha : a.size ≤ 140737488351232) (hb : b.size ≤ 140737488351232) (hn : (Lit.int .i64 n).wf = true) : toruslaw02_WholeMatches a b n = some true :=
  WholeMatches_ok (BigOk_of ha) (BigOk_of hb) (i64_wf hn).1 (i64_wf hn).2
end Go.Proofs.Ytlpkaimkmfgpiaa.Ev

