/- YtlpkaimkmfgpiaaYi: a part of the proof (YtlpkaimkmfgpiaaN6, YtlpkaimkmfgpiaaN7, YtlpkaimkmfgpiaaN8, YtlpkaimkmfgpiaaN9). No condition. -/
import Derived.Test.YtlpkaimkmfgpiaaYh
import Derived.Test.YtlpkaimkmfgpiaaYc
import Derived.Test.YtlpkaimkmfgpiaaYe
set_option linter.unusedVariables false
set_option linter.unusedSimpArgs false
namespace Go.Abs
theorem val_take1 (l : List Int) {m : Nat} (h : m < l.length) : val 1000000000 (l.take (m + 1)) = val 1000000000 (l.take m) + 1000000000 ^ m * l.getD m 0 := by
  rw [take_succ' h, val_append]
  have : (l.take m).length = m := by simp; omega
  rw [this]
  simp [val]

/-- The scaling factor makes the top digit great. -/
theorem scale_top {b k : Int} (hb : 1 ≤ b) (hb' : b < 1000000000) (hk : k = 1000000000 / (b + 1)) : 1 ≤ k ∧ k * (b + 1) ≤ 1000000000 ∧ 500000000 ≤ k * b ∧ k ≤ 500000000 := by
  have h1 := Int.mul_ediv_add_emod 1000000000 (b + 1)
  have h2 := Int.emod_nonneg 1000000000 (show b + 1 ≠ 0 by omega)
  have h3 := Int.emod_lt_of_pos 1000000000 (show 0 < b + 1 by omega)
  rw [← hk, Int.mul_comm] at h1
  have hk1 : 1 ≤ k := by
    by_cases hc : 1 ≤ k
    · exact hc
    · exfalso
      have : k * (b + 1) ≤ 0 * (b + 1) := Int.mul_le_mul_of_nonneg_right (by omega) (by omega)
      rw [Int.zero_mul] at this
      omega
  have e1 : k * (b + 1) = k * b + k := by rw [Int.mul_add, Int.mul_one]
  have e5 : k * 2 ≤ k * (b + 1) := Int.mul_le_mul_of_nonneg_left (by omega) (by omega)
  refine ⟨hk1, by omega, ?_, by omega⟩
  by_cases hk2 : k = 1
  · subst hk2; omega
  · have e2 : 0 ≤ (k - 2) * (b + 1 - 2) := Int.mul_nonneg (by omega) (by omega)
    have e3 : (k - 2) * (b + 1 - 2) = k * b - k - 2 * b + 2 := by
      rw [show b + 1 - 2 = b - 1 by omega, Int.sub_mul, Int.mul_sub, Int.mul_sub]
      omega
    omega
end Go.Abs
namespace Go.Proofs.Ytlpkaimkmfgpiaa.Ev
open Go.Abs Go.IntWalk

section
variable {k : Int} {v : List Int} {n : Nat}

theorem long_outer (hv : DU v) (hvn : v.length = n) (hn : 2 ≤ n) (hv1 : 500000000 ≤ v.getD (n - 1) 0) : ∀ (J : Nat) (q u : List Int), DU q → DU u → J ≤ q.length → J + n ≤ u.length → u.length ≤ 1000000000000 → q.length ≤ 1000000000000 → VU ((u.drop J).take n) < VU v →
    ∃ q' u', num_long_L0 k v n ((J : Int) - 1) q u = num_long_L0 k v n (-1) q' u' ∧ q'.length = q.length ∧ DU q' ∧ u'.length = u.length ∧ DU u' ∧ q'.drop J = q.drop J ∧
      VU (u.take J) + 1000000000 ^ J * VU ((u.drop J).take n) = VU v * VU (q'.take J) + VU (u'.take n) ∧ VU (u'.take n) < VU v := by
  intro J
  induction J with
  | zero =>
    intro q u hq hu h1 h2 h3 h4 hx
    refine ⟨q, u, rfl, rfl, hq, rfl, hu, rfl, ?_, by simpa using hx⟩
    simp [VU, val]
  | succ J ih =>
    intro q u hq hu h1 h2 h3 h4 hx
    have hw : (u.drop J).take (n + 1) = u.getD J 0 :: (u.drop (J + 1)).take n := by
      rw [drop_eq (show J < u.length by omega), List.take_succ_cons]
    have hd := hu.getD (by omega) J
    have hRv : VU ((u.drop J).take (n + 1)) = u.getD J 0 + 1000000000 * VU ((u.drop (J + 1)).take n) := by rw [hw]; rfl
    have hXn := VU_nonneg ((hu.drop (J + 1)).take n)
    have hRlt : VU ((u.drop J).take (n + 1)) < VU v * 1000000000 := by rw [hRv]; omega
    obtain ⟨u1, s1, s2, s3, s4, s5⟩ := long_step (k := k) hv hvn hn hv1 hu (show J + n < u.length by omega) h3 (show J < q.length by omega) h4 hRlt
    have hVpos : 0 < VU v := by omega
    have hRnn : 0 ≤ VU ((u.drop J).take (n + 1)) := by omega
    have q0 : 0 ≤ VU ((u.drop J).take (n + 1)) / VU v := Int.ediv_nonneg hRnn (by omega)
    have q1 : VU ((u.drop J).take (n + 1)) / VU v < 1000000000 := Int.ediv_lt_of_lt_mul hVpos (by rw [Int.mul_comm]; omega)
    obtain ⟨q', u', t1, t2, t3, t4, t5, t6, t7, t8⟩ := ih (q.set J (VU ((u.drop J).take (n + 1)) / VU v)) u1 (hq.set q0 q1 _) s3 (by simp; omega) (by omega) (by omega) (by simpa using h4) (by rw [s5]; exact Int.emod_lt_of_pos _ hVpos)
    have hJq : J < q'.length := by rw [t2]; simp; omega
    have hqJ : q'.getD J 0 = VU ((u.drop J).take (n + 1)) / VU v := by
      have e : (q'.drop J).getD 0 0 = ((q.set J (VU ((u.drop J).take (n + 1)) / VU v)).drop J).getD 0 0 := by rw [t6]
      rw [getD_drop, getD_drop, Nat.add_zero] at e
      rw [e]
      simp [List.getD, show J < q.length by omega]
    refine ⟨q', u', ?_, by rw [t2]; simp, t3, by rw [t4, s2], t5, ?_, ?_, t8⟩
    · rw [show ((J + 1 : Nat) : Int) - 1 = J by omega, s1, t1]
    · have e : (q'.drop J).drop 1 = ((q.set J (VU ((u.drop J).take (n + 1)) / VU v)).drop J).drop 1 := by rw [t6]
      rw [List.drop_drop, List.drop_drop, set_drop] at e
      exact e
    · have e1 := val_take1 u (show J < u.length by omega)
      have e2 := val_take1 q' hJq
      have e3 := Int.mul_ediv_add_emod (VU ((u.drop J).take (n + 1))) (VU v)
      rw [s4, s5] at t7
      rw [hqJ] at e2
      change VU (u.take (J + 1)) = VU (u.take J) + 1000000000 ^ J * u.getD J 0 at e1
      change VU (q'.take (J + 1)) = VU (q'.take J) + 1000000000 ^ J * (VU ((u.drop J).take (n + 1)) / VU v) at e2
      have e4 : (1000000000 : Int) ^ J * VU ((u.drop J).take (n + 1)) = 1000000000 ^ J * u.getD J 0 + 1000000000 ^ (J + 1) * VU ((u.drop (J + 1)).take n) := by
        rw [hRv, Int.mul_add, Int.pow_succ, Int.mul_assoc]
      have e5 : VU v * VU (q'.take (J + 1)) = VU v * VU (q'.take J) + 1000000000 ^ J * (VU v * (VU ((u.drop J).take (n + 1)) / VU v)) := by
        rw [e2, Int.mul_add, Int.mul_left_comm]
      have e6 : (1000000000 : Int) ^ J * VU ((u.drop J).take (n + 1)) = 1000000000 ^ J * (VU v * (VU ((u.drop J).take (n + 1)) / VU v)) + 1000000000 ^ J * (VU ((u.drop J).take (n + 1)) % VU v) := by
        rw [← Int.mul_add, e3]
      omega
end

/-- The top digit of a number. -/
theorem top_digit {N : Nat} {n : Nat} (hl : (dU N).length = n + 1) {x : Int} (h : x * 1000000000 ^ n ≤ N) : x ≤ (dU N).getD n 0 := by
  have h1 := val_take1 (dU N) (show n < (dU N).length by omega)
  rw [List.take_of_length_le (by omega)] at h1
  have h2 := val_lt (B := 1000000000) (by omega) ((dU_D N).take n)
  rw [show ((dU N).take n).length = n by rw [List.length_take]; omega] at h2
  have h3 := VU_d N
  rw [VU] at h3
  by_cases hc : x ≤ (dU N).getD n 0
  · exact hc
  · exfalso
    have h4 : (1000000000 : Int) ^ n * ((dU N).getD n 0 + 1) ≤ 1000000000 ^ n * x := Int.mul_le_mul_of_nonneg_left (by omega) (Int.pow_nonneg (by omega))
    rw [Int.mul_add, Int.mul_one, Int.mul_comm _ x] at h4
    omega

theorem ofNat_pow (n : Nat) : ((1000000000 ^ n : Nat) : Int) = (1000000000 : Int) ^ n := by
  rw [Int.natCast_pow]; rfl

theorem num_long_ok {A B : Nat} (hl : (dU A).length ≤ 100000000000) (hB : 2 ≤ (dU B).length) (hAB : B ≤ A) :
    ∃ q r, num_long (dU A) (dU B) = some (q, r) ∧ DU q ∧ DU r ∧ VU q = ((A / B : Nat) : Int) ∧ VU r = ((A % B : Nat) : Int) ∧ q.length ≤ (dU A).length ∧ r.length ≤ (dU A).length := by
  obtain ⟨n, hn⟩ : ∃ n, (dU B).length = n + 1 := ⟨(dU B).length - 1, by omega⟩
  have hBpos : 0 < B := by
    by_cases h : B = 0
    · subst h; rw [show dU 0 = [] from dig_zero _] at hB; simp at hB
    · omega
  have hlBA := dU_le hAB
  have hdA := dU_D A
  have hdB := dU_D B
  -- the top digit of the divisor
  have hBlow : (1000000000 ^ n : Nat) ≤ B := (dig_length_lt (B := 1000000000) (by omega) n B).1 (show n < (dU B).length by omega)
  have ht1 : 1 ≤ (dU B).getD n 0 := top_digit hn (by rw [Int.one_mul, ← ofNat_pow]; omega)
  have ht2 := hdB.getD (by omega) n
  obtain ⟨k, hk⟩ : ∃ k, k = (1000000000 : Int) / ((dU B).getD n 0 + 1) := ⟨_, rfl⟩
  obtain ⟨hk1, hk2, hk3, hk4⟩ := scale_top ht1 ht2.2 hk
  obtain ⟨K, rfl⟩ := Int.eq_ofNat_of_zero_le (show 0 ≤ k by omega)
  -- the scaled numbers
  obtain ⟨u1, u2, u3⟩ := scL_val (dU A) K 0 hdA ⟨by omega, by omega⟩ ⟨by omega, by omega⟩
  obtain ⟨w1, w2, w3⟩ := scL_val (dU B) K 0 hdB ⟨by omega, by omega⟩ ⟨by omega, by omega⟩
  rw [VU_d, Int.add_zero] at u1 w1
  have hv : trimL (scL (dU B) K 0) = dU (B * K) := by
    rw [trimU w2, w1, ← Int.natCast_mul, Int.toNat_natCast]
  -- its length
  have htop := val_take1 (dU B) (show n < (dU B).length by omega)
  rw [List.take_of_length_le (by omega)] at htop
  have hlow := val_lt (B := 1000000000) (by omega) (hdB.take n)
  have hlow0 := val_nonneg (B := 1000000000) (by omega) (hdB.take n)
  rw [show ((dU B).take n).length = n by rw [List.length_take]; omega] at hlow
  have hVB := VU_d B
  rw [VU] at hVB
  have hPn : (0 : Int) < 1000000000 ^ n := Int.pow_pos (by omega)
  have hBK : B * K < 1000000000 ^ (n + 1) := by
    have h1 : (B : Int) * K ≤ (1000000000 ^ n * ((dU B).getD n 0 + 1) - 1) * K := Int.mul_le_mul_of_nonneg_right (by rw [Int.mul_add, Int.mul_one]; omega) (by omega)
    have h2 : (1000000000 : Int) ^ n * (K * ((dU B).getD n 0 + 1)) ≤ 1000000000 ^ n * 1000000000 := Int.mul_le_mul_of_nonneg_left hk2 (by omega)
    rw [Int.sub_mul, Int.one_mul, Int.mul_assoc, Int.mul_comm ((dU B).getD n 0 + 1) (K : Int)] at h1
    have h3 := ofNat_pow (n + 1)
    rw [Int.pow_succ] at h3
    have h4 : ((B * K : Nat) : Int) = (B : Int) * K := Int.natCast_mul _ _
    omega
  have hBK2 : 1000000000 ^ n ≤ B * K := Nat.le_trans hBlow (Nat.le_mul_of_pos_right _ (by omega))
  have hvl : (dU (B * K)).length = n + 1 := by
    have h1 := (dig_length_le (B := 1000000000) (by omega) (n + 1) (B * K)).2 hBK
    have h2 := (dig_length_lt (B := 1000000000) (by omega) n (B * K)).2 hBK2
    show (dig 1000000000 (B * K)).length = n + 1
    omega
  have hv1 : 500000000 ≤ (dU (B * K)).getD (n + 1 - 1) 0 := by
    refine top_digit (N := B * K) hvl ?_
    have h1 : (K * (dU B).getD n 0) * 1000000000 ^ n ≤ (B : Int) * K := by
      have h2 : 1000000000 ^ n * (dU B).getD n 0 * K ≤ (B : Int) * K := Int.mul_le_mul_of_nonneg_right (by omega) (by omega)
      rw [Int.mul_comm (K * _), Int.mul_comm (K : Int), ← Int.mul_assoc]
      exact h2
    have h3 : 500000000 * (1000000000 : Int) ^ n ≤ (K * (dU B).getD n 0) * 1000000000 ^ n := Int.mul_le_mul_of_nonneg_right hk3 (by omega)
    rw [Int.natCast_mul]
    omega
  have hvD := dU_D (B * K)
  have hVv : VU (dU (B * K)) = (B : Int) * K := by rw [VU_d, Int.natCast_mul]
  -- the loop
  have hul : (scL (dU A) K 0).length = (dU A).length + 1 := u3
  obtain ⟨J, hJ⟩ : ∃ J, (dU A).length + 1 = J + (n + 1) := ⟨(dU A).length - n, by omega⟩
  have hstart : VU (((scL (dU A) K 0).drop J).take (n + 1)) < VU (dU (B * K)) := by
    rw [List.take_of_length_le (by rw [List.length_drop]; omega), hVv]
    have h1 := val_append 1000000000 ((scL (dU A) K 0).take J) ((scL (dU A) K 0).drop J)
    rw [List.take_append_drop, show ((scL (dU A) K 0).take J).length = J by rw [List.length_take]; omega] at h1
    have h2 := VU_nonneg (u2.take J)
    have h3 := u1
    rw [VU] at h3 h2
    -- a < U ^ la
    have h4 : A < 1000000000 ^ (dU A).length := (dig_length_le (B := 1000000000) (by omega) _ A).1 (Nat.le_refl _)
    rw [show (dU A).length = J + n by omega, Nat.pow_add] at h4
    have h5 : ((1000000000 ^ J * 1000000000 ^ n : Nat) : Int) = (1000000000 : Int) ^ J * 1000000000 ^ n := by rw [Int.natCast_mul, ofNat_pow, ofNat_pow]
    have hPJ : (0 : Int) < 1000000000 ^ J := Int.pow_pos (by omega)
    have h6 : (A : Int) * K < (1000000000 ^ J * 1000000000 ^ n) * K := Int.mul_lt_mul_of_pos_right (by omega) (by omega)
    have h7 : (1000000000 : Int) ^ n * K ≤ (B : Int) * K := Int.mul_le_mul_of_nonneg_right (by rw [← ofNat_pow]; omega) (by omega)
    have h8 : (1000000000 : Int) ^ J * val 1000000000 ((scL (dU A) K 0).drop J) < 1000000000 ^ J * (1000000000 ^ n * K) := by
      rw [← Int.mul_assoc]; omega
    have h9 := Int.lt_of_mul_lt_mul_left h8 (by omega)
    show val 1000000000 ((scL (dU A) K 0).drop J) < _
    omega
  obtain ⟨q', u', t1, t2, t3, t4, t5, t6, t7, t8⟩ := long_outer (k := K) hvD hvl (by omega) hv1 J (List.replicate J 0) (scL (dU A) K 0) (Dig.replicate (by omega) _) u2 (by simp) (by omega) (by omega) (by simp; omega) hstart
  rw [List.length_replicate] at t2
  have htq : q'.take J = q' := List.take_of_length_le (by omega)
  rw [htq, hVv] at t7
  have hU0 : VU ((scL (dU A) K 0).take J) + 1000000000 ^ J * VU (((scL (dU A) K 0).drop J).take (n + 1)) = (A : Int) * K := by
    rw [List.take_of_length_le (l := (scL (dU A) K 0).drop J) (by rw [List.length_drop]; omega), ← u1]
    have h1 := val_append 1000000000 ((scL (dU A) K 0).take J) ((scL (dU A) K 0).drop J)
    rw [List.take_append_drop, show ((scL (dU A) K 0).take J).length = J by rw [List.length_take]; omega] at h1
    exact h1.symm
  rw [hU0] at t7
  -- the rest is unscaled
  have hsu := t5.take (n + 1)
  have hshort := num_short_ok (b := (K : Int)) hsu ⟨by omega, by omega⟩ (by rw [List.length_take]; omega)
  obtain ⟨s1, s2, s3, s4, s5⟩ := shL_val (b := (K : Int)) ⟨by omega, by omega⟩ _ hsu
  have hQ0 := VU_nonneg t3
  have hr0 := VU_nonneg s4
  have hKpos : (0 : Int) < K := by omega
  -- A = B q + r
  have hAq : (A : Int) = B * VU q' + VU (shL K (u'.take (n + 1))).1 := by
    have h1 : ((A : Int) - B * VU q' - VU (shL K (u'.take (n + 1))).1) * K = (shL K (u'.take (n + 1))).2 := by
      rw [Int.sub_mul, Int.sub_mul]
      have : (B : Int) * VU q' * K = B * K * VU q' := by rw [Int.mul_assoc, Int.mul_comm (VU q'), ← Int.mul_assoc]
      rw [this]
      omega
    have h2 : (A : Int) - B * VU q' - VU (shL K (u'.take (n + 1))).1 = 0 := by
      by_cases hp : (A : Int) - B * VU q' - VU (shL K (u'.take (n + 1))).1 ≥ 1
      · exfalso
        have := Int.mul_le_mul_of_nonneg_right hp (show (0 : Int) ≤ K by omega)
        rw [Int.one_mul] at this
        omega
      · by_cases hm : (A : Int) - B * VU q' - VU (shL K (u'.take (n + 1))).1 ≤ -1
        · exfalso
          have := Int.mul_le_mul_of_nonneg_right hm (show (0 : Int) ≤ K by omega)
          rw [Int.neg_mul, Int.one_mul] at this
          omega
        · omega
    omega
  have hrB : VU (shL K (u'.take (n + 1))).1 < B := by
    have h1 : VU (shL K (u'.take (n + 1))).1 * K < (B : Int) * K := by rw [hVv] at t8; omega
    exact Int.lt_of_mul_lt_mul_right h1 (by omega)
  obtain ⟨Q, hQ⟩ := Int.eq_ofNat_of_zero_le hQ0
  obtain ⟨r, hr⟩ := Int.eq_ofNat_of_zero_le hr0
  rw [hQ, hr] at hAq
  rw [hr] at hrB
  have hAN : A = B * Q + r := by
    have : ((B * Q + r : Nat) : Int) = (B : Int) * Q + r := by rw [Int.natCast_add, Int.natCast_mul]
    omega
  have hq1 : A / B = Q := by rw [hAN, Nat.mul_add_div hBpos, Nat.div_eq_of_lt (by omega)]; omega
  have hr1 : A % B = r := by rw [hAN, Nat.mul_add_mod, Nat.mod_eq_of_lt (by omega)]
  refine ⟨q', (shL K (u'.take (n + 1))).1, ?_, t3, s4, by rw [hQ, hq1], by rw [hr, hr1], by omega, by rw [s5, List.length_take]; omega⟩
  -- the walk
  rw [num_long_eq]
  have e1 : (((dU B).length : Int) - 1).toNat = n := by omega
  simp (disch := omega) only [i64_in, bIdx, e1, u64_in, ceq_f, tdiv_in]
  rw [← hk]
  simp (disch := omega) only [u64_in, u32_in]
  rw [num_scaled_ok hdA ⟨by omega, by omega⟩ (by omega), bS, num_scaled_ok hdB ⟨by omega, by omega⟩ (by omega), bS, num_trim_ok (by omega), bS, hv]
  simp (disch := omega) only [i64_in, cMake, hul, hvl]
  have e2 : ((((dU A).length + 1 : Nat) : Int) - ((n + 1 : Nat) : Int)).toNat = J := by omega
  have e3 : (((dU A).length + 1 : Nat) : Int) - ((n + 1 : Nat) : Int) - 1 = (J : Int) - 1 := by omega
  rw [e2, e3, t1, num_long_L0_eq]
  simp (disch := omega) only [cge_f, cCut, Int.toNat_natCast]
  rw [hshort, bS]
end Go.Proofs.Ytlpkaimkmfgpiaa.Ev
set_option linter.unusedVariables false
set_option linter.unusedSimpArgs false
namespace Go.Proofs.Ytlpkaimkmfgpiaa.Ev
open Go.Abs Go.IntWalk

/-! ### parts, DivMod -/
theorem num_parts_ok {A B : Nat} (hl : (dU A).length ≤ 100000000000) (hl' : (dU B).length ≤ 100000000000) (hB : 0 < B) :
    ∃ q r, num_parts (dU A) (dU B) = some (q, r) ∧ DU q ∧ DU r ∧ VU q = ((A / B : Nat) : Int) ∧ VU r = ((A % B : Nat) : Int) ∧ q.length ≤ 1000000000000 ∧ r.length ≤ 1000000000000 := by
  rw [num_parts_eq, num_size_ok (by omega) (by omega), bS]
  by_cases h : A < B
  · rw [cmpI_lt (by omega), clt_t (by omega)]
    refine ⟨[], dU A, rfl, Dig.nil, dU_D A, ?_, ?_, by simp, by omega⟩
    · rw [Nat.div_eq_of_lt h]; rfl
    · rw [Nat.mod_eq_of_lt h, VU_d]
  · have hc : ¬ cmpI (A : Int) B < 0 := by unfold cmpI; rw [if_neg (by omega)]; split <;> omega
    rw [clt_f hc]
    by_cases h1 : (dU B).length = 1
    · rw [ceq_t (by omega)]
      have hd := (dU_D B).getD (by omega) 0
      have hBv : (dU B).getD 0 0 = B := by
        have h2 := VU_d B
        cases hb : dU B with
        | nil => rw [hb] at h1; simp at h1
        | cons x xs =>
          rw [hb] at h1 h2
          have : xs = [] := by simpa using h1
          subst this
          simpa [VU, val] using h2
      rw [hBv] at hd
      obtain ⟨s1, s2, s3, s4, s5⟩ := shL_val (b := (B : Int)) ⟨by omega, hd.2⟩ (dU A) (dU_D A)
      have ht : trimL [(shL (B : Int) (dU A)).2] = dU (shL (B : Int) (dU A)).2.toNat := by
        have : DU [(shL (B : Int) (dU A)).2] := Dig.cons s2 (by omega) Dig.nil
        rw [trimU this]
        simp [VU, val]
      simp (disch := omega) only [bIdx, Int.toNat_zero, hBv]
      rw [num_short_ok (dU_D A) ⟨by omega, hd.2⟩ (by omega), bS, num_trim_ok (by simp), bS, ht]
      obtain ⟨r, hr⟩ := Int.eq_ofNat_of_zero_le s2
      obtain ⟨Q, hQ⟩ := Int.eq_ofNat_of_zero_le (VU_nonneg s4)
      rw [VU_d, hQ, hr] at s1
      rw [hr] at s3
      have hAN : A = B * Q + r := by
        have : ((B * Q + r : Nat) : Int) = (B : Int) * Q + r := by rw [Int.natCast_add, Int.natCast_mul]
        rw [Int.mul_comm] at s1
        omega
      have hq1 : A / B = Q := by rw [hAN, Nat.mul_add_div hB, Nat.div_eq_of_lt (by omega)]; omega
      have hr1 : A % B = r := by rw [hAN, Nat.mul_add_mod, Nat.mod_eq_of_lt (by omega)]
      refine ⟨_, _, rfl, s4, dU_D _, by rw [hQ, hq1], by rw [VU_d, hr, hr1]; rfl, by omega, ?_⟩
      rw [hr, Int.toNat_natCast]
      have := (dig_length_le (B := 1000000000) (by omega) 1 r).2 (by omega)
      show (dig 1000000000 r).length ≤ _
      omega
    · rw [ceq_f (by omega)]
      have hne : (dU B).length ≠ 0 := fun e => by
        have := (dig_eq_nil (B := 1000000000) (n := B) (by omega)).1 (List.length_eq_zero_iff.1 e)
        omega
      obtain ⟨q, r, e1, e2, e3, e4, e5, e6, e7⟩ := num_long_ok (A := A) (B := B) hl (by omega) (by omega)
      rw [e1, bS]
      exact ⟨q, r, rfl, e2, e3, e4, e5, by omega, by omega⟩

theorem Ln_one : Ln 1 = 1 := by
  have h1 := Ln_small (x := 1) (by decide)
  have h2 := Ln_zero_iff 1
  omega

theorem num_Whole_DivMod_ok {x y : Int} (hx : Ln x ≤ 10000000000) (hy : Ln y ≤ 10000000000) (hy0 : y ≠ 0) : num_Whole_DivMod (W x) (W y) = some (W (x.fdiv y), W (x.fmod y)) := by
  rw [num_Whole_DivMod_eq]
  simp only [W_1, W_2]
  obtain ⟨q, r, e1, e2, e3, e4, e5, e6, e7⟩ := num_parts_ok (A := x.natAbs) (B := y.natAbs) (by rw [Ln_def]; omega) (by rw [Ln_def]; omega) (by omega)
  rw [e1, bS, num_signed_ok e2 (by omega), bS, num_signed_ok e3 (by omega), bS, e4, e5]
  obtain ⟨A, hA⟩ : ∃ A, A = x.natAbs := ⟨_, rfl⟩
  obtain ⟨B, hB⟩ : ∃ B, B = y.natAbs := ⟨_, rfl⟩
  rw [← hA, ← hB]
  have hdm := Nat.div_add_mod A B
  have hlt := Nat.mod_lt A (show B > 0 by omega)
  have hq : A / B ≤ A := Nat.div_le_self _ _
  have hr : A % B ≤ A := Nat.mod_le _ _
  have hdmI : (B : Int) * ((A / B : Nat) : Int) + ((A % B : Nat) : Int) = A := by rw [← Int.natCast_mul, ← Int.natCast_add, hdm]
  obtain ⟨Q, hQ⟩ : ∃ Q, Q = ((A / B : Nat) : Int) := ⟨_, rfl⟩
  obtain ⟨M, hM⟩ : ∃ M, M = ((A % B : Nat) : Int) := ⟨_, rfl⟩
  rw [← hQ, ← hM] at hdmI ⊢
  have hM0 : 0 ≤ M := by omega
  have hMB : M < B := by omega
  have hMA : M ≤ A := by rw [hM]; exact Int.ofNat_le.2 hr
  have hQA : Q ≤ A := by rw [hQ]; exact Int.ofNat_le.2 hq
  have hQ0 : 0 ≤ Q := by rw [hQ]; exact Int.natCast_nonneg _
  have hLnQ : ∀ z : Int, z.natAbs = Q.natAbs → Ln z ≤ 10000000000 := fun z hz => by
    have := Ln_mono (x := z) (y := x) (by omega)
    omega
  have hLnM : ∀ z : Int, z.natAbs = M.natAbs → Ln z ≤ 10000000000 := fun z hz => by
    have := Ln_mono (x := z) (y := x) (by omega)
    omega
  -- the four cases of signs
  by_cases h1 : x < 0 <;> by_cases h2 : y < 0
  · -- both negative
    have hx' : x = -(A : Int) := by omega
    have hy' : y = -(B : Int) := by omega
    rw [dlt_t h1, dlt_t h2]
    simp only [beq_self_eq_true, Bool.not_true, cF, cT]
    rw [W_eta (-M), num_Whole_Sign_ok, bS]
    have hu := (Int.fdiv_fmod_unique' (a := x) (b := y) (r := -M) (q := Q) h2).2 ⟨by rw [hx', hy', Int.neg_mul]; omega, by omega, by omega⟩
    rw [hu.1, hu.2]
    by_cases hz : M = 0
    · rw [cne_f (by rw [hz] <;> rfl)] <;> rfl
    · rw [cne_t (by unfold sgnI; rw [if_pos (by omega)]; omega)] <;> rfl
  · -- x negative
    have hx' : x = -(A : Int) := by omega
    have hy' : y = (B : Int) := by omega
    rw [dlt_t h1, dlt_f h2]
    simp only [show (true == false) = false from rfl, Bool.not_false, cF, cT]
    rw [W_eta (-M), num_Whole_Sign_ok, bS]
    by_cases hz : M = 0
    · have hu := (Int.fdiv_fmod_unique (a := x) (b := y) (r := -M) (q := -Q) (by omega)).2 ⟨by rw [hx', hy', Int.mul_neg]; omega, by omega, by omega⟩
      rw [hu.1, hu.2, cne_f (by rw [hz] <;> rfl)] <;> rfl
    · have hu := (Int.fdiv_fmod_unique (a := x) (b := y) (r := -M + y) (q := -Q - 1) (by omega)).2 ⟨by rw [hx', hy', Int.mul_sub, Int.mul_neg]; omega, by omega, by omega⟩
      rw [hu.1, hu.2, cne_t (by unfold sgnI; rw [if_pos (by omega)]; omega), num_Of_ok (by omega) (by omega), bS]
      show (num_Whole_Sub (W (-Q)) (W 1)).bind _ = _
      rw [num_Whole_Sub_ok (by have := hLnQ (-Q) (by omega); omega) (by rw [Ln_one]; omega), bS]
      have hWy : (false, dU B, ()) = W y := by
        show _ = (decide (y < 0), dU y.natAbs, ())
        rw [dlt_f h2, ← hB]
      rw [hWy]
      show (num_Whole_Add (W (-M)) (W y)).bind _ = _
      rw [num_Whole_Add_ok (by have := hLnM (-M) (by omega); omega) (by omega), bS]
  · -- y negative
    have hx' : x = (A : Int) := by omega
    have hy' : y = -(B : Int) := by omega
    rw [dlt_f h1, dlt_t h2]
    simp only [show (false == true) = false from rfl, Bool.not_false, cF, cT]
    rw [W_eta M, num_Whole_Sign_ok, bS]
    by_cases hz : M = 0
    · have hu := (Int.fdiv_fmod_unique' (a := x) (b := y) (r := M) (q := -Q) (by omega)).2 ⟨by rw [hx', hy', Int.neg_mul_neg]; omega, by omega, by omega⟩
      rw [hu.1, hu.2, cne_f (by rw [hz] <;> rfl)] <;> rfl
    · have hu := (Int.fdiv_fmod_unique' (a := x) (b := y) (r := M + y) (q := -Q - 1) (by omega)).2 ⟨by rw [hx', hy', Int.mul_sub, Int.neg_mul_neg]; omega, by omega, by omega⟩
      rw [hu.1, hu.2, cne_t (by unfold sgnI; rw [if_neg (by omega), if_pos (by omega)]; omega), num_Of_ok (by omega) (by omega), bS]
      show (num_Whole_Sub (W (-Q)) (W 1)).bind _ = _
      rw [num_Whole_Sub_ok (by have := hLnQ (-Q) (by omega); omega) (by rw [Ln_one]; omega), bS]
      have hWy : (true, dU B, ()) = W y := by
        show _ = (decide (y < 0), dU y.natAbs, ())
        rw [dlt_t h2, ← hB]
      rw [hWy]
      show (num_Whole_Add (W M) (W y)).bind _ = _
      rw [num_Whole_Add_ok (by have := hLnM M (by omega); omega) (by omega), bS]
  · -- none negative
    have hx' : x = (A : Int) := by omega
    have hy' : y = (B : Int) := by omega
    rw [dlt_f h1, dlt_f h2]
    simp only [beq_self_eq_true, Bool.not_true, cF, cT]
    rw [W_eta M, num_Whole_Sign_ok, bS]
    have hu := (Int.fdiv_fmod_unique (a := x) (b := y) (r := M) (q := Q) (by omega)).2 ⟨by rw [hx', hy']; omega, by omega, by omega⟩
    rw [hu.1, hu.2]
    by_cases hz : M = 0
    · rw [cne_f (by rw [hz] <;> rfl)] <;> rfl
    · rw [cne_t (by unfold sgnI; rw [if_neg (by omega), if_pos (by omega)]; omega)] <;> rfl

/-! ### Gcd -/
theorem small_walk : ∀ (y x : Nat), num_small_L0 x y = some ((Nat.gcd x y : Nat) : Int) := by
  intro y
  induction y using Nat.strongRecOn with
  | ind y ih =>
    intro x
    rw [num_small_L0_eq]
    by_cases h : y = 0
    · subst h; rw [cgt_f (by omega), Nat.gcd_zero_right]
    · have e : (x : Int).tmod y = ((x % y : Nat) : Int) := by rw [tmod_in (by omega), Int.natCast_emod]
      rw [cgt_t (by omega), ceq_f (by omega), e, ih _ (Nat.mod_lt _ (by omega)), Nat.gcd_comm y, ← Nat.gcd_rec, Nat.gcd_comm]

theorem word_walk {d : List Int} (hd : DU d) (hl : d.length ≤ 2) : num_word d = some (VU d) := by
  rw [num_word_eq]
  match d, hd, hl with
  | [], hd, hl =>
    simp (disch := omega) only [List.length_nil, i64_in]
    rw [num_word_L0_eq, cge_f (by omega)]; rfl
  | [x], hd, hl =>
    have hx := hd.head
    simp only [List.length_singleton]
    rw [i64_in _ (by omega), num_word_L0_eq, cge_t (by omega), bIdx (by omega) (by simp)]
    have e : ([x] : List Int).getD (((1 : Nat) : Int) - 1).toNat 0 = x := rfl
    rw [e]
    simp (disch := omega) only [i64_in]
    rw [num_word_L0_eq, cge_f (by omega)]
    simp [VU, val]
  | [x, y], hd, hl =>
    have hx := hd.head
    have hy := hd.tail.head
    simp only [List.length_cons, List.length_nil]
    rw [i64_in _ (by omega), num_word_L0_eq, cge_t (by omega), bIdx (by omega) (by simp)]
    have e : ([x, y] : List Int).getD (((0 + 1 + 1 : Nat) : Int) - 1).toNat 0 = y := rfl
    rw [e]
    simp (disch := omega) only [i64_in]
    rw [num_word_L0_eq, cge_t (by omega), bIdx (by omega) (by simp)]
    have e : ([x, y] : List Int).getD (((0 + 1 + 1 : Nat) : Int) - 1 - 1).toNat 0 = x := rfl
    rw [e]
    simp (disch := omega) only [i64_in]
    rw [num_word_L0_eq, cge_f (by omega)]
    simp [VU, val]
    omega
  | _ :: _ :: _ :: _, hd, hl => simp at hl

theorem Gcd_walk {t : Bool} {t2 : List Int} : ∀ (B A : Nat), (dU A).length ≤ 10000000000 → (dU B).length ≤ 10000000000 → num_Whole_Gcd_L0 (dU A) (dU B) t t2 = some (W ((Nat.gcd A B : Nat) : Int)) := by
  intro B
  induction B using Nat.strongRecOn with
  | ind B ih =>
    intro A hA hB
    rw [num_Whole_Gcd_L0_eq]
    by_cases h : B = 0
    · subst h
      rw [show dU 0 = [] from dig_zero _, cgt_f (by simp), Nat.gcd_zero_right]
      simp [W]
    · have hne : (dU B).length ≠ 0 := fun e => by
        have := (dig_eq_nil (B := 1000000000) (n := B) (by omega)).1 (List.length_eq_zero_iff.1 e)
        omega
      rw [cgt_t (by omega)]
      -- the step by a remainder
      have hstep : (num_parts (dU A) (dU B)).bind (fun r6 => (num_trim r6.2).bind fun r7 => num_Whole_Gcd_L0 (dU B) r7 t t2) = some (W ((Nat.gcd A B : Nat) : Int)) := by
        obtain ⟨q, r, e1, e2, e3, e4, e5, e6, e7⟩ := num_parts_ok (A := A) (B := B) (by omega) (by omega) (by omega)
        have hmod := Nat.mod_lt A (show B > 0 by omega)
        have hm := dU_le (show A % B ≤ B by omega)
        rw [e1, bS, num_trim_ok (show r.length ≤ _ by omega), bS, trimU e3, e5, Int.toNat_natCast, ih _ hmod B hB (by omega)]
        rw [Nat.gcd_comm B, ← Nat.gcd_rec, Nat.gcd_comm]
      by_cases ha : (dU A).length ≤ 2
      · rw [cle_t (by omega)]
        by_cases hb : (dU B).length ≤ 2
        · rw [cle_t (by omega), word_walk (dU_D A) ha, bS, word_walk (dU_D B) hb, bS, VU_d, VU_d, num_small_eq, small_walk, bS]
          have h1 := (dig_length_le (B := 1000000000) (by omega) 2 B).1 hb
          have h2 := Nat.gcd_le_right A (show 0 < B by omega)
          rw [num_Of_ok (by omega) (by omega), bS, W_eta]
        · rw [cle_f (by omega)]; exact hstep
      · rw [cle_f (by omega)]; exact hstep

theorem num_Whole_Gcd_ok {x y : Int} (hx : Ln x ≤ 10000000000) (hy : Ln y ≤ 10000000000) : num_Whole_Gcd (W x) (W y) = some (W ((Int.gcd x y : Nat) : Int)) := by
  rw [num_Whole_Gcd_eq, W_2, W_2, Gcd_walk _ _ hx hy]
  rfl
end Go.Proofs.Ytlpkaimkmfgpiaa.Ev
set_option linter.unusedVariables false
set_option linter.unusedSimpArgs false
namespace Go.Proofs.Ytlpkaimkmfgpiaa.Ev
open Go.Abs Go.IntWalk

/-! ### CutPrefix -/
theorem take_one {l : List Int} : l.take 1 = [45] ↔ l.head? = some 45 := by
  cases l <;> simp

theorem CutPrefix_ok (s : ByteArray) : strings_CutPrefix s (bs [45]) = some (strOf (bodyOf (bytesOf s)), minusOf (bytesOf s)) := by
  have h45 : bytesOf (bs [45]) = [45] := rfl
  have hsz : (bs [45]).size = 1 := rfl
  have hlen := bytesOf_length s
  rw [strings_CutPrefix_eq, stringslite_CutPrefix_eq, stringslite_HasPrefix_eq, hsz]
  by_cases h0 : 1 ≤ s.size
  · rw [cge_t (by omega), cCut (by omega) (by omega) (by omega), bS, str_beq, h45, bytesOf_extract]
    have e1 : ((0 : Int)).toNat = 0 := rfl
    have e2 : (((1 : Nat) : Int)).toNat = 1 := rfl
    rw [e1, e2, List.drop_zero]
    by_cases hm : (bytesOf s).head? = some 45
    · have hd : decide ((bytesOf s).take 1 = [45]) = true := decide_eq_true (take_one.2 hm)
      rw [hd]
      simp only [Bool.not_true, cF]
      rw [cCut (by omega) (by omega) (by omega), bS]
      have hb : bodyOf (bytesOf s) = (bytesOf s).tail := by unfold bodyOf; rw [if_pos hm]
      have hm' : minusOf (bytesOf s) = true := by simpa [minusOf] using hm
      have hx : s.extract 1 ((s.size : Nat) : Int).toNat = strOf (bodyOf (bytesOf s)) := by
        apply bytesOf_inj
        rw [bytesOf_extract, hb, bytesOf_strOf (fun x hx => bytesOf_range s x (List.mem_of_mem_tail hx)), Int.toNat_natCast, ← hlen, List.take_length]
        simp
      rw [hm', hx]
    · have hd : decide ((bytesOf s).take 1 = [45]) = false := decide_eq_false (fun e => hm (take_one.1 e))
      rw [hd]
      simp only [Bool.not_false, cT]
      rw [bS]
      have hb : bodyOf (bytesOf s) = bytesOf s := by unfold bodyOf; rw [if_neg hm]
      have hm' : minusOf (bytesOf s) = false := by simpa [minusOf] using hm
      rw [hb, hm', strOf_bytesOf]
  · have he : bytesOf s = [] := List.length_eq_zero_iff.1 (by omega)
    rw [cge_f (by omega), bS]
    simp only [Bool.not_false, cT]
    rw [bS]
    have : s = strOf (bodyOf (bytesOf s)) := by
      apply bytesOf_inj
      rw [he, bytesOf_strOf]
      · rfl
      · rw [show bodyOf ([] : List Int) = [] from rfl]; exact Dig.nil
    rw [← this, he]; rfl

/-! ### Read -/
theorem Read_inner {s : ByteArray} {neg : Bool} {e : Int} {t4 : Bool} {t5 : List Int} {c : List Int} (hc : Dig 256 c) (hl : c.length ≤ 9) : ∀ (m k : Nat) (x : Int) (d : List Int), m + k = c.length → x = decv (c.take k) → (∀ b ∈ c.take k, 48 ≤ b ∧ b ≤ 57) → d.length ≤ 100000000000000 / 5 →
    num_Read_L1 s neg e x c c.length k d t4 t5 = bif c.all isD then num_Read_L0 s neg (IntKind.wrap .i64 (e - 9)) (d ++ [decv c]) t4 t5 else some ((false, [], ()), false) := by
  intro m
  induction m with
  | zero =>
    intro k x d hk hx hd hdl
    have hk' : k = c.length := by omega
    subst hk'
    rw [List.take_length] at hx hd
    have ha : c.all isD = true := List.all_eq_true.2 fun b hb => (isD_iff b).2 (hd b hb)
    rw [num_Read_L1_eq, clt_f (by omega), cApp (by omega) (by omega), ha, cT, hx]
  | succ m ih =>
    intro k x d hk hx hd hdl
    have hkl : k < c.length := by omega
    have hb := hc.getD (by omega) k
    have hxb := decv_bounds (c.take k) hd
    rw [show (c.take k).length = k by rw [List.length_take]; omega] at hxb
    have hpow : (10 : Int) ^ k ≤ 10 ^ 8 := pow10_le (by omega)
    rw [num_Read_L1_eq, clt_t (by omega), bIdx (by omega) (by omega), Int.toNat_natCast]
    by_cases h1 : c.getD k 0 < 48
    · have ha : c.all isD = false := by
        rw [List.all_eq_false]
        refine ⟨c.getD k 0, ?_, by rw [isD_iff]; omega⟩
        simp only [List.getD, hkl, List.getElem?_eq_getElem, Option.getD_some]
        exact List.getElem_mem hkl
      rw [clt_t h1, ha, cF]
    · by_cases h2 : c.getD k 0 > 57
      · have ha : c.all isD = false := by
          rw [List.all_eq_false]
          refine ⟨c.getD k 0, ?_, by rw [isD_iff]; omega⟩
          simp only [List.getD, hkl, List.getElem?_eq_getElem, Option.getD_some]
          exact List.getElem_mem hkl
        rw [clt_f h1, cgt_t h2, ha, cF]
      · rw [clt_f h1, cgt_f h2]
        simp (disch := omega) only [u8_in, u32_in, i64_in]
        have ih' := fun x d => ih (k + 1) x d (by omega)
        simp only [Int.natCast_add, Int.natCast_one] at ih'
        rw [ih']
        · rw [take_succ' hkl, decv_append, ← hx]
          simp [decv]; omega
        · rw [take_succ' hkl]
          intro b hb'
          rcases List.mem_append.1 hb' with h | h
          · exact hd b h
          · simp only [List.mem_singleton] at h; subst h; omega
        · exact hdl

theorem Read_outer {s : ByteArray} {neg : Bool} {t4 : Bool} {t5 : List Int} (hs : s.size ≤ 140737488355328) : ∀ (m e : Nat) (d : List Int), e ≤ m → e ≤ s.size → DU d → d.length * 9 + e ≤ 140737488355328 + 9 →
    num_Read_L0 s neg e d t4 t5 = bif ((bytesOf s).take e).all isD then some (W (bif neg then -(VU d + 1000000000 ^ d.length * decv ((bytesOf s).take e)) else (VU d + 1000000000 ^ d.length * decv ((bytesOf s).take e))), true) else some ((false, [], ()), false) := by
  intro m
  induction m using Nat.strongRecOn with
  | ind m ih =>
    intro e d hm he hd hdl
    have hbl := bytesOf_length s
    rw [num_Read_L0_eq]
    by_cases h0 : e = 0
    · subst h0
      rw [cgt_f (by omega), num_signed_ok hd (by omega), bS]
      simp only [List.take_zero, List.all_nil, cT, decv, List.foldl_nil, Int.mul_zero, Int.add_zero]
      try rfl
    · rw [cgt_t (by omega)]
      -- the chunk's begin
      obtain ⟨b, hb⟩ : ∃ b : Nat, b = e - 9 := ⟨_, rfl⟩
      have e0 : (bif decide (IntKind.wrap .i64 ((e : Int) - 9) > 0) then IntKind.wrap .i64 ((e : Int) - 9) else 0) = (b : Int) := by
        rw [i64_in _ (by omega)]
        by_cases h : (e : Int) - 9 > 0
        · rw [cgt_t h]; omega
        · rw [cgt_f h]; omega
      rw [e0]
      have hx : bytesOf (s.extract b e) = ((bytesOf s).take e).drop b := bytesOf_extract s b e
      have hxl : (bytesOf (s.extract b e)).length = e - b := by rw [hx]; simp; omega
      have hxs : (s.extract b e).size ≤ 140737488355328 := by rw [← bytesOf_length, hxl]; omega
      simp only [Int.toNat_natCast]
      rw [cCut (by omega) (by omega) (by omega), cBle hxs]
      have hI := Read_inner (s := s) (neg := neg) (e := (e : Int)) (t4 := t4) (t5 := t5) (c := bytesOf (s.extract b e)) (bytesOf_range _) (by omega) (e - b) 0 0 d (by omega) (by simp [decv]) (by simp) (by omega)
      simp only [Int.natCast_zero] at hI
      rw [hI, hx, i64_in _ (by omega)]
      have hsplit : (bytesOf s).take e = (bytesOf s).take b ++ ((bytesOf s).take e).drop b := by
        conv => lhs; rw [list_cut ((bytesOf s).take e) b]
        rw [List.take_take, Nat.min_eq_left (by omega)]
      cases hca : (((bytesOf s).take e).drop b).all isD with
      | false =>
        have : ((bytesOf s).take e).all isD = false := by rw [hsplit, List.all_append, hca, Bool.and_false]
        rw [this, cF, cF]
      | true =>
        rw [cT]
        have hcd : ∀ x ∈ ((bytesOf s).take e).drop b, 48 ≤ x ∧ x ≤ 57 := fun x hx => (isD_iff x).1 (List.all_eq_true.1 hca x hx)
        have hcb := decv_bounds _ hcd
        have hcl : (((bytesOf s).take e).drop b).length = e - b := by rw [← hx, hxl]
        rw [hcl] at hcb
        have hpw : (10 : Int) ^ (e - b) ≤ 10 ^ 9 := pow10_le (by omega)
        have hd' : DU (d ++ [decv (((bytesOf s).take e).drop b)]) := hd.append (Dig.cons hcb.1 (by omega) Dig.nil)
        have hVd : VU (d ++ [decv (((bytesOf s).take e).drop b)]) = VU d + 1000000000 ^ d.length * decv (((bytesOf s).take e).drop b) := by
          rw [VU, val_append]; simp [val]
        by_cases h9 : 9 ≤ e
        · have e1 : (e : Int) - 9 = (b : Int) := by omega
          rw [e1, ih b (by omega) b _ (Nat.le_refl _) (by omega) hd' (by simp; omega), hVd]
          have h4 : ((bytesOf s).take e).all isD = ((bytesOf s).take b).all isD := by
            conv => lhs; rw [hsplit]
            rw [List.all_append, hca, Bool.and_true]
          have h5 : decv ((bytesOf s).take e) = decv ((bytesOf s).take b) * 1000000000 + decv (((bytesOf s).take e).drop b) := by
            conv => lhs; rw [hsplit]
            rw [decv_append, hcl, show e - b = 9 by omega]
            rfl
          have h6 : VU d + 1000000000 ^ d.length * decv (((bytesOf s).take e).drop b) + 1000000000 ^ (d ++ [decv (((bytesOf s).take e).drop b)]).length * decv ((bytesOf s).take b)
              = VU d + 1000000000 ^ d.length * decv ((bytesOf s).take e) := by
            rw [h5, List.length_append, List.length_singleton, Int.pow_succ, Int.mul_add, Int.mul_assoc, Int.mul_comm (1000000000 : Int) (decv _)]
            omega
          rw [h4, h6]
        · -- the last chunk
          have hb0 : b = 0 := by omega
          subst hb0
          rw [num_Read_L0_eq, cgt_f (by omega), num_signed_ok hd' (by simp; omega), bS, hVd]
          rw [List.drop_zero] at hca ⊢
          rw [hca, cT]
          try rfl

theorem num_Read_ok {s : ByteArray} (hs : s.size ≤ 140737488355328) : num_Read s = bif okText (bytesOf s) then some (W (numOf (bytesOf s)), true) else some ((false, [], ()), false) := by
  rw [num_Read_eq, CutPrefix_ok, bS]
  have hbody : bytesOf (strOf (bodyOf (bytesOf s))) = bodyOf (bytesOf s) := bytesOf_strOf (fun x hx => bytesOf_range s x (by
    unfold bodyOf at hx
    split at hx
    · exact List.mem_of_mem_tail hx
    · exact hx))
  have hbl : (bodyOf (bytesOf s)).length ≤ s.size := by
    rw [← bytesOf_length]
    unfold bodyOf
    split
    · simp
    · exact Nat.le_refl _
  have hsz : (strOf (bodyOf (bytesOf s))).size = (bodyOf (bytesOf s)).length := by rw [← bytesOf_length, hbody]
  generalize hB : bodyOf (bytesOf s) = B at *
  generalize hM : minusOf (bytesOf s) = M at *
  simp only
  rw [str_beq, hbody, bytesOf_empty]
  cases B with
  | nil =>
    have : okText (bytesOf s) = false := by unfold okText; rw [hB]; simp
    rw [this]; rfl
  | cons c r =>
    have h1 : decide ((c :: r : List Int) = []) = false := by simp
    rw [h1, cF, sidx_eq, hbody]
    have h2 : idx (c :: r) (0 : Int) = some c := rfl
    rw [h2, bS]
    have hout := Read_outer (s := strOf (c :: r)) (neg := M) (t4 := false) (t5 := []) (by rw [hsz]; omega) (c :: r).length (c :: r).length [] (Nat.le_refl _) (by rw [hsz]; exact Nat.le_refl _) Dig.nil (by simp at hbl ⊢; omega)
    rw [hbody, List.take_length] at hout
    have hfin : num_Read_L0 (strOf (c :: r)) M ((c :: r).length : Int) [] false [] = bif (c :: r).all isD then some (W (numOf (bytesOf s)), true) else some ((false, [], ()), false) := by
      rw [hout]
      have : (bif M then -(VU [] + 1000000000 ^ ([] : List Int).length * decv (c :: r)) else (VU [] + 1000000000 ^ ([] : List Int).length * decv (c :: r))) = numOf (bytesOf s) := by
        unfold numOf
        rw [hB, hM]
        cases M <;> simp [VU, val]
      rw [this]
    have hok : okText (bytesOf s) = ((c :: r).all isD && (!(c == 48) || ((c :: r).length == 1 && !M))) := by
      unfold okText
      rw [hB, hM]
      simp
    by_cases hc : c = 48
    · subst hc
      rw [ceq_t rfl]
      rw [hok]
      by_cases hl : r = []
      · subst hl
        rw [hsz, cgt_f (by simp)]
        cases M with
        | true => rfl
        | false =>
          rw [cF, hfin]; rfl
      · have hr : 0 < r.length := List.length_pos_iff.2 hl
        rw [hsz, cgt_t (by simp; omega)]
        have h5 : ((48 :: r : List Int).length == 1) = false := by simp; exact hl
        rw [h5]
        simp
    · rw [ceq_f hc, hsz, hfin, hok]
      have : (c == 48) = false := beq_f hc
      rw [this]
      simp
end Go.Proofs.Ytlpkaimkmfgpiaa.Ev
set_option linter.unusedVariables false
set_option linter.unusedSimpArgs false
namespace Go.Abs
theorem dX_step {n : Nat} (h : 0 < n) : (dX n).length = (dX (n / 10)).length + 1 := by
  rw [dX, dig_pos (by omega) h, List.length_cons]
theorem pow_split (n c : Nat) : (10 : Nat) ^ (9 * n + c) = 1000000000 ^ n * 10 ^ c := by
  rw [Nat.pow_add, Nat.pow_mul]
/-- k digits from the lowest one on. -/
def g9 : Nat → Int → List Int
  | 0, _ => []
  | k + 1, x => x % 10 :: g9 k (x / 10)
theorem g9_length : ∀ k x, (g9 k x).length = k
  | 0, _ => rfl
  | k + 1, x => by simp [g9, g9_length k]
theorem g9_D : ∀ k x, DX (g9 k x)
  | 0, _ => Dig.nil
  | k + 1, x => Dig.cons (by omega) (by omega) (g9_D k _)
theorem g9_val : ∀ k (x : Int), 0 ≤ x → x < 10 ^ k → VX (g9 k x) = x
  | 0, x, h0, h1 => by simp at h1; simp [g9, VX, val]; omega
  | k + 1, x, h0, h1 => by
    rw [Int.pow_succ] at h1
    have ih := g9_val k (x / 10) (by omega) (by omega)
    simp only [g9, VX, val] at ih ⊢
    rw [ih]; omega
def flatG (d : List Int) : List Int := d.flatMap (g9 9)
theorem flatG_length : ∀ d : List Int, (flatG d).length = 9 * d.length
  | [] => rfl
  | x :: d => by
    have := flatG_length d
    simp only [flatG, List.flatMap_cons, List.length_append, g9_length, List.length_cons] at this ⊢
    omega
theorem flatG_D : ∀ d : List Int, DX (flatG d)
  | [] => Dig.nil
  | x :: d => by simp only [flatG, List.flatMap_cons]; exact (g9_D 9 x).append (flatG_D d)
theorem flatG_val : ∀ d : List Int, Dig 1000000000 d → VX (flatG d) = val 1000000000 d
  | [], _ => rfl
  | x :: d, h => by
    have ih := flatG_val d h.tail
    have hx := h.head
    simp only [flatG, List.flatMap_cons] at ih ⊢
    rw [VX, val_append, g9_length]
    have := g9_val 9 x hx.1 (by simpa using hx.2)
    rw [VX] at this ih
    rw [this, ih, val]
    rfl
theorem chr_append (d e : List Int) : chr (d ++ e) = chr d ++ chr e := by simp [chr]
theorem chr_length (d : List Int) : (chr d).length = d.length := by simp [chr]
end Go.Abs
namespace Go.Proofs.Ytlpkaimkmfgpiaa.Ev
open Go.Abs Go.IntWalk

/-! ### digits, Long -/
theorem digits_walk : ∀ (x n : Nat), x < 1000000000 → n + x ≤ 1000000000000000 → num_Whole_digits_L0 n x = some (((n + (dX x).length : Nat)) : Int) := by
  intro x
  induction x using Nat.strongRecOn with
  | ind x ih =>
    intro n hx hn
    rw [num_Whole_digits_L0_eq]
    by_cases h : x = 0
    · subst h; rw [cgt_f (by omega), show dX 0 = [] from dig_zero _]; rfl
    · have e : IntKind.wrap .u32 ((x : Int).tdiv 10) = ((x / 10 : Nat) : Int) := by rw [u32_quo _ _ (by omega)]; omega
      have e2 : IntKind.wrap .i64 ((n : Int) + 1) = ((n + 1 : Nat) : Int) := by rw [i64_in _ (by omega)]; omega
      rw [cgt_t (by omega), e, e2, ih (x / 10) (Nat.div_lt_self (by omega) (by omega)) (n + 1) (by omega) (by omega), dX_step (n := x) (by omega)]
      congr 2; omega

theorem num_Whole_digits_ok {z : Int} (hz : Ln z ≤ 20000000000000) : num_Whole_digits (W z) = some ((dX z.natAbs).length : Int) := by
  rw [num_Whole_digits_eq, W_len]
  by_cases h : z = 0
  · subst h
    have : Ln 0 = 0 := (Ln_zero_iff 0).2 rfl
    rw [this, ceq_t (by omega), show dX (Int.natAbs 0) = [] from dig_zero _]; rfl
  · have hpos : Ln z ≠ 0 := fun e => h ((Ln_zero_iff z).1 e)
    obtain ⟨n, hn⟩ : ∃ n, Ln z = n + 1 := ⟨Ln z - 1, by omega⟩
    have hd := dU_D z.natAbs
    have hl : (dU z.natAbs).length = n + 1 := hn
    have htop := hd.getD (by omega) n
    rw [ceq_f (by omega)]
    simp only [W_2, Ln_def]
    have e1 : ((Ln z : Int) - 1).toNat = n := by omega
    simp (disch := omega) only [i64_in, bIdx, e1, Ln_def]
    obtain ⟨t, ht⟩ := Int.eq_ofNat_of_zero_le htop.1
    rw [ht] at htop ⊢
    have e2 : (9 : Int) * ((Ln z : Int) - 1) = ((9 * n : Nat) : Int) := by omega
    rw [e2, digits_walk t (9 * n) (by omega) (by omega)]
    congr 2
    -- the number lies between two powers
    have h1 := val_take1 (dU z.natAbs) (show n < (dU z.natAbs).length by omega)
    rw [List.take_of_length_le (by omega), ht] at h1
    have h2 := val_lt (B := 1000000000) (by omega) (hd.take n)
    have h3 := val_nonneg (B := 1000000000) (by omega) (hd.take n)
    rw [show ((dU z.natAbs).take n).length = n by rw [List.length_take]; omega] at h2
    have h4 := VU_d z.natAbs
    rw [VU] at h4
    have ht0 : 0 < t := by
      have hne : dU z.natAbs = (dU z.natAbs).take n ++ [(t : Int)] := by
        conv => lhs; rw [← List.take_of_length_le (l := dU z.natAbs) (i := n + 1) (by omega)]
        rw [take_succ' (by omega), ht]
      have := getLast_dig (B := 1000000000) (by omega) hne
      omega
    have hc : (dX t).length ≠ 0 := fun e => by
      have := (dig_eq_nil (B := 10) (n := t) (by omega)).1 (List.length_eq_zero_iff.1 e)
      omega
    obtain ⟨c, hcc⟩ : ∃ c, (dX t).length = c + 1 := ⟨(dX t).length - 1, by omega⟩
    have h5 := (dig_length_le (B := 10) (by omega) (c + 1) t).1 (by rw [← hcc]; exact Nat.le_refl _)
    have h6 := (dig_length_lt (B := 10) (by omega) c t).1 (by show c < (dX t).length; omega)
    have h7 : z.natAbs < 10 ^ (9 * n + (c + 1)) := by
      rw [pow_split]
      have : ((1000000000 : Nat) ^ n) * (t + 1) ≤ 1000000000 ^ n * 10 ^ (c + 1) := Nat.mul_le_mul_left _ h5
      rw [Nat.mul_add, Nat.mul_one] at this
      have e := ofNat_pow n
      have e' : ((1000000000 ^ n * t : Nat) : Int) = 1000000000 ^ n * (t : Int) := by rw [Int.natCast_mul, e]
      omega
    have h8 : 10 ^ (9 * n + c) ≤ z.natAbs := by
      rw [pow_split]
      have : ((1000000000 : Nat) ^ n) * 10 ^ c ≤ 1000000000 ^ n * t := Nat.mul_le_mul_left _ h6
      have e := ofNat_pow n
      have e' : ((1000000000 ^ n * t : Nat) : Int) = 1000000000 ^ n * (t : Int) := by rw [Int.natCast_mul, e]
      omega
    have h9 := (dig_length_le (B := 10) (by omega) (9 * n + (c + 1)) z.natAbs).2 h7
    have h10 := (dig_length_lt (B := 10) (by omega) (9 * n + c) z.natAbs).2 h8
    show 9 * n + (dX t).length = (dig 10 z.natAbs).length
    omega

def longZ (z : Int) : Bool := decide (1000 < nd z)

theorem num_Whole_Long_ok {z : Int} (hz : Ln z ≤ 20000000000000) : num_Whole_Long (W z) = some (longZ z) := by
  rw [num_Whole_Long_eq]
  show (num_Whole_digits (W z)).bind _ = _
  rw [num_Whole_digits_ok hz, bS]
  congr 1
  unfold longZ nd
  rw [natT_length]
  exact decide_eq_decide.2 (by omega)

/-! ### Text -/
theorem Text_inner {t : List Int} {t2 t3 : Int} {a : Bool} {a2 : List Int} : ∀ (m k : Nat) (x : Int) (out : List Int), m + k = 9 → 0 ≤ x → x < 1000000000 → out.length + m ≤ 10000000000000 →
    num_Whole_Text_L1 x t t2 t3 k out a a2 = num_Whole_Text_L0 t t2 (IntKind.wrap .i64 (t3 + 1)) (out ++ chr (g9 m x)) a a2 := by
  intro m
  induction m with
  | zero =>
    intro k x out hk h0 h1 ho
    rw [num_Whole_Text_L1_eq, clt_f (by omega)]
    simp [g9, chr]
  | succ m ih =>
    intro k x out hk h0 h1 ho
    rw [num_Whole_Text_L1_eq, clt_t (by omega)]
    simp (disch := omega) only [tmod_in, u32_in, u8_in, u32_quo, cApp, i64_in]
    have ih' := fun x out => ih (k + 1) x out (by omega)
    simp only [Int.natCast_add, Int.natCast_one] at ih'
    rw [ih' _ _ (by omega) (by omega) (by simp; omega)]
    simp only [g9, chr, List.map_cons, List.append_assoc, List.singleton_append, Int.add_comm (48 : Int)]

theorem Text_outer {d : List Int} {a : Bool} {a2 : List Int} (hd : DU d) (hl : d.length ≤ 1000000000000) : ∀ (m i : Nat) (out : List Int), m + i = d.length → out.length = 9 * i →
    num_Whole_Text_L0 d d.length i out a a2 = num_Whole_Text_L2 (out ++ chr (flatG (d.drop i))) a a2 := by
  intro m
  induction m with
  | zero =>
    intro i out hi ho
    rw [num_Whole_Text_L0_eq, clt_f (by omega), drop_nil (by omega)]
    simp [flatG, chr]
  | succ m ih =>
    intro i out hi ho
    have hx := hd.getD (by omega) i
    rw [num_Whole_Text_L0_eq, clt_t (by omega), bIdx (by omega) (by omega), Int.toNat_natCast]
    have hI := Text_inner (t := d) (t2 := d.length) (t3 := i) (a := a) (a2 := a2) 9 0 (d.getD i 0) out rfl hx.1 hx.2 (by omega)
    simp only [Int.natCast_zero] at hI
    have ih' := fun out => ih (i + 1) out (by omega)
    simp only [Int.natCast_add, Int.natCast_one] at ih'
    rw [hI, i64_in _ (by omega), ih' _ (by rw [List.length_append, chr_length, g9_length]; omega), drop_eq (show i < d.length by omega)]
    simp only [flatG, List.flatMap_cons, chr_append, List.append_assoc]

theorem Text_rev : ∀ (m : Nat) (M A C : List Int), M.length = m → A.length = C.length → (A ++ M ++ C).length ≤ 1000000000000000 →
    num_Whole_Text_L3 A.length ((A.length : Int) + M.length - 1) (A ++ M ++ C) = some (strOf (A ++ M.reverse ++ C)) := by
  intro m
  induction m using Nat.strongRecOn with
  | ind m ih =>
    intro M A C hm hac hl
    rw [num_Whole_Text_L3_eq]
    by_cases h : M.length ≤ 1
    · rw [clt_f (by omega)]
      have : M.reverse = M := by
        match M, h with
        | [], _ => rfl
        | [x], _ => rfl
        | _ :: _ :: _, h => simp at h
      rw [this]
    · obtain ⟨x, M1, rfl⟩ : ∃ x M1, M = x :: M1 := by
        cases M with
        | nil => simp at h
        | cons x M1 => exact ⟨x, M1, rfl⟩
      have hne : M1 ≠ [] := fun e => by rw [e] at h; simp at h
      obtain ⟨M2, y, rfl⟩ : ∃ M2 y, M1 = M2 ++ [y] := ⟨M1.dropLast, M1.getLast hne, (List.dropLast_concat_getLast hne).symm⟩
      have hlen : (A ++ x :: (M2 ++ [y]) ++ C).length = A.length + M2.length + 2 + C.length := by simp; omega
      have hM : (x :: (M2 ++ [y])).length = M2.length + 2 := by simp
      rw [hM]
      rw [hlen] at hl
      have ej : ((A.length : Int) + ((M2.length + 2 : Nat) : Int) - 1).toNat = A.length + M2.length + 1 := by omega
      have hL : A ++ x :: (M2 ++ [y]) ++ C = A ++ (x :: (M2 ++ (y :: C))) := by simp
      rw [hL] at hlen ⊢
      have gx : (A ++ (x :: (M2 ++ (y :: C)))).getD A.length 0 = x := by simp [List.getD]
      have gy : (A ++ (x :: (M2 ++ (y :: C)))).getD (A.length + M2.length + 1) 0 = y := by
        rw [List.getD, List.getElem?_append_right (by omega)]
        have : A.length + M2.length + 1 - A.length = M2.length + 1 := by omega
        rw [this]
        simp
      have s1 : (A ++ (x :: (M2 ++ (y :: C)))).set A.length y = A ++ (y :: (M2 ++ (y :: C))) := by
        rw [List.set_append_right _ _ (by omega)]; simp
      have s2 : (A ++ (y :: (M2 ++ (y :: C)))).set (A.length + M2.length + 1) x = (A ++ [y]) ++ M2 ++ (x :: C) := by
        rw [List.set_append_right _ _ (by omega)]
        have : A.length + M2.length + 1 - A.length = M2.length + 1 := by omega
        rw [this, List.set_cons_succ, List.set_append_right _ _ (by omega)]
        simp
      have hlen2 : (A ++ (y :: (M2 ++ (y :: C)))).length = A.length + M2.length + 2 + C.length := by simp; omega
      rw [clt_t (by omega)]
      simp (disch := omega) only [bIdx, bGet, ej, Int.toNat_natCast, gx, gy, s1, s2, i64_in]
      have := ih M2.length (by simp at hm; omega) M2 (A ++ [y]) (x :: C) rfl (by simp; omega) (by simp; omega)
      have e1 : ((A ++ [y]).length : Int) = (A.length : Int) + 1 := by simp
      rw [e1] at this
      have e2 : (A.length : Int) + 1 + M2.length - 1 = (A.length : Int) + ((M2.length + 2 : Nat) : Int) - 1 - 1 := by omega
      rw [e2] at this
      rw [this]
      simp

theorem Text_rev' (o : List Int) (hl : o.length ≤ 1000000000000000) : num_Whole_Text_L3 0 ((o.length : Int) - 1) o = some (strOf o.reverse) := by
  have := Text_rev o.length o [] [] rfl rfl (by simpa using hl)
  simpa using this

theorem Text_strip {a : Bool} {a2 : List Int} : ∀ (n : Nat) (ds : List Int), ds.length = n → n ≤ 100000000000000 → DX ds → VX ds ≠ 0 →
    num_Whole_Text_L2 (chr ds) a a2 = some (strOf ((if a then [45] else []) ++ (chr (trimL ds)).reverse)) := by
  intro n
  induction n with
  | zero =>
    intro ds hn _ _ hv
    have : ds = [] := List.length_eq_zero_iff.1 hn
    subst this
    exact absurd rfl hv
  | succ n ih =>
    intro ds hn hl hd hv
    have hne : ds ≠ [] := fun e => by rw [e] at hn; cases hn
    obtain ⟨d', y, rfl⟩ : ∃ d' y, ds = d' ++ [y] := ⟨ds.dropLast, ds.getLast hne, (List.dropLast_concat_getLast hne).symm⟩
    have hn' : d'.length = n := by simpa using hn
    have hy := hd.right.head
    rw [chr_append, num_Whole_Text_L2_eq]
    have hcl : (chr d' ++ chr [y]).length = d'.length + 1 := by simp [chr_length]
    have e1 : (((d'.length + 1 : Nat) : Int) - 1).toNat = d'.length := by omega
    have g1 : (chr d' ++ chr [y]).getD d'.length 0 = y + 48 := by
      rw [List.getD, List.getElem?_append_right (by rw [chr_length]; omega), chr_length]
      simp [chr]
    simp (disch := omega) only [hcl, i64_in, bIdx, bGet, e1, g1]
    by_cases h0 : y = 0
    · subst h0
      have hv' : VX d' ≠ 0 := fun e => hv (by rw [VX, val_append, show val 10 d' = 0 from e]; simp [val])
      have ht : (chr d' ++ chr [0]).take d'.length = chr d' := List.take_left' (chr_length _)
      rw [ceq_t (by omega), cCut (by omega) (by omega) (by omega), ht, ih d' hn' (by omega) hd.left hv', trimL_snoc0]
    · rw [ceq_f (by omega), trimL_snoc h0, ← chr_append]
      have hcl2 : (chr (d' ++ [y])).length = d'.length + 1 := by simp [chr_length]
      cases a with
      | true =>
        rw [cT, cApp (by omega) (by omega)]
        have e5 : IntKind.wrap .i64 (((chr (d' ++ [y]) ++ [45]).length : Int) - 1) = ((chr (d' ++ [y]) ++ [45]).length : Int) - 1 := i64_in _ (by simp [chr_length]; omega)
        rw [e5, Text_rev' _ (by simp [chr_length]; omega)]
        simp
      | false =>
        rw [cF]
        have := Text_rev' (chr (d' ++ [y])) (by omega)
        rw [hcl2] at this
        rw [this]
        simp

theorem num_Whole_Text_ok {z : Int} (hz : Ln z ≤ 10000000000) : num_Whole_Text (W z) = some (T10 z) := by
  rw [num_Whole_Text_eq, W_len, W_1, W_2]
  by_cases h : z = 0
  · subst h
    have : Ln 0 = 0 := (Ln_zero_iff 0).2 rfl
    rw [this, ceq_t (by omega)]
    rfl
  · have hpos : Ln z ≠ 0 := fun e => h ((Ln_zero_iff z).1 e)
    rw [ceq_f (by omega)]
    simp (disch := omega) only [i64_in, cMake]
    have hd := dU_D z.natAbs
    have h1 := Text_outer (a := decide (z < 0)) (a2 := dU z.natAbs) hd (by rw [Ln_def]; omega) (dU z.natAbs).length 0 [] (by omega) rfl
    simp only [Int.natCast_zero, List.drop_zero, List.nil_append, Ln_def] at h1
    have hv : VX (flatG (dU z.natAbs)) = z.natAbs := by rw [flatG_val _ hd]; exact VU_d _
    rw [h1, Text_strip _ _ rfl (by rw [flatG_length, Ln_def]; omega) (flatG_D _) (by rw [hv]; omega), trimX (flatG_D _), hv, Int.toNat_natCast]
    unfold T10 txtL natT
    rw [if_neg (show ¬ z.natAbs = 0 by omega)]
    congr 3
    by_cases h2 : z < 0 <;> simp [h2]

/-! ### Small -/
def smallZ (z : Int) : Int × Bool := if -9223372036854775808 ≤ z ∧ z ≤ 9223372036854775807 then (z, true) else (0, false)

theorem Small_walk {z : Int} (hl : Ln z ≤ 3) : ∀ (k : Nat), k ≤ Ln z → VU ((dU z.natAbs).drop k) < 18446744073709551616 →
    num_Whole_Small_L0 (VU ((dU z.natAbs).drop k)) ((k : Int) - 1) (decide (z < 0)) (dU z.natAbs) = some (smallZ z) := by
  intro k
  have hd := dU_D z.natAbs
  induction k with
  | zero =>
    intro hk hv
    rw [num_Whole_Small_L0_eq, cge_f (by omega)]
    rw [List.drop_zero, VU_d] at hv ⊢
    unfold smallZ
    by_cases h : z < 0
    · rw [dlt_t h, cT]
      by_cases h2 : (z.natAbs : Int) ≤ 9223372036854775808
      · rw [cle_t h2, if_pos (by omega)]
        have e : IntKind.wrap .i64 (0 - IntKind.wrap .i64 (z.natAbs : Int)) = z := by
          rw [IntKind.wrap_i64, IntKind.wrap_i64]; omega
        rw [e]
      · rw [cle_f h2, if_neg (by omega)]; rfl
    · rw [dlt_f h, cF, Bool.not_false, cT]
      by_cases h2 : (z.natAbs : Int) < 9223372036854775808
      · rw [clt_t h2, if_pos (by omega), i64_in _ (by omega)]
        congr 2; omega
      · rw [clt_f h2, if_neg (by omega)]
  | succ k ih =>
    intro hk hv
    have hkl : k < (dU z.natAbs).length := by rw [Ln_def]; omega
    have hx := hd.getD (by omega) k
    have hnn := VU_nonneg (hd.drop (k + 1))
    rw [num_Whole_Small_L0_eq, cge_t (by omega)]
    by_cases h : VU ((dU z.natAbs).drop (k + 1)) > 9223372036
    · rw [cgt_t h]
      -- too great
      have h1 := val_append 1000000000 ((dU z.natAbs).take (k + 1)) ((dU z.natAbs).drop (k + 1))
      rw [List.take_append_drop, show ((dU z.natAbs).take (k + 1)).length = k + 1 by rw [List.length_take]; omega] at h1
      have h2 := VU_nonneg (hd.take (k + 1))
      have h3 := VU_d z.natAbs
      rw [VU] at h2 h3
      have h4 : (1000000000 : Int) ^ (k + 1) * 9223372037 ≤ 1000000000 ^ (k + 1) * val 1000000000 ((dU z.natAbs).drop (k + 1)) := Int.mul_le_mul_of_nonneg_left (by have : VU ((dU z.natAbs).drop (k + 1)) = val 1000000000 ((dU z.natAbs).drop (k + 1)) := rfl; omega) (Int.pow_nonneg (by omega))
      have h5 : (1000000000 : Int) ^ 1 ≤ 1000000000 ^ (k + 1) := by
        rw [Int.pow_succ, Int.pow_succ, Int.pow_zero]
        have : (0 : Int) < 1000000000 ^ k := Int.pow_pos (by omega)
        omega
      have : smallZ z = (0, false) := by unfold smallZ; rw [if_neg (by omega)]
      rw [this]
    · rw [cgt_f h]
      have e : ((k + 1 : Nat) : Int) - 1 = k := by omega
      rw [e, bIdx (by omega) (by omega), Int.toNat_natCast]
      have h1 : VU ((dU z.natAbs).drop k) = (dU z.natAbs).getD k 0 + 1000000000 * VU ((dU z.natAbs).drop (k + 1)) := by rw [drop_eq hkl]; rfl
      simp (disch := omega) only [u64_in, i64_in]
      rw [← ih (by omega) (by omega), h1]
      congr 1
      omega

theorem num_Whole_Small_ok {z : Int} (hz : Ln z ≤ 10000000000) : num_Whole_Small (W z) = some (smallZ z) := by
  rw [num_Whole_Small_eq, W_len, W_1, W_2]
  by_cases h : Ln z ≤ 3
  · rw [cgt_f (by omega)]
    simp (disch := omega) only [i64_in]
    have := Small_walk h (Ln z) (Nat.le_refl _) (by rw [drop_nil (by rw [Ln_def]; exact Nat.le_refl _)]; simp [VU, val])
    rw [drop_nil (by rw [Ln_def]; exact Nat.le_refl _)] at this
    exact this
  · rw [cgt_t (by omega)]
    have h1 := Ln_le_iff z 3
    have : smallZ z = (0, false) := by unfold smallZ; rw [if_neg (by omega)]
    rw [this]
end Go.Proofs.Ytlpkaimkmfgpiaa.Ev
