/- YtlpkaimkmfgpiaaYc: a part of the proof (PA, PS, PT). No condition. -/
import Derived.Test.YtlpkaimkmfgpiaaYb
import Derived.IntWalk
set_option linter.unusedVariables false
set_option linter.unusedSimpArgs false
namespace Go.Abs

/-! ### Small laws for the walks -/
theorem dlt_t {a b : Int} (h : a < b) : decide (a < b) = true := decide_eq_true h
theorem dlt_f {a b : Int} (h : ¬ a < b) : decide (a < b) = false := decide_eq_false h
theorem dle_t {a b : Int} (h : a ≤ b) : decide (a ≤ b) = true := decide_eq_true h
theorem dle_f {a b : Int} (h : ¬ a ≤ b) : decide (a ≤ b) = false := decide_eq_false h
theorem dgt_t {a b : Int} (h : a > b) : decide (a > b) = true := decide_eq_true h
theorem dgt_f {a b : Int} (h : ¬ a > b) : decide (a > b) = false := decide_eq_false h
theorem dge_t {a b : Int} (h : a ≥ b) : decide (a ≥ b) = true := decide_eq_true h
theorem dge_f {a b : Int} (h : ¬ a ≥ b) : decide (a ≥ b) = false := decide_eq_false h
theorem beq_t {a b : Int} (h : a = b) : (a == b) = true := beq_iff_eq.2 h
theorem beq_f {a b : Int} (h : ¬ a = b) : (a == b) = false := by simpa using h
theorem bne_t {a b : Int} (h : ¬ a = b) : (a != b) = true := by simpa [bne] using h
theorem bne_f {a b : Int} (h : a = b) : (a != b) = false := by simp [bne, h]

theorem idx_in {xs : List Int} {i : Int} (h0 : 0 ≤ i) (h : i < xs.length) : idx xs i = some (xs.getD i.toNat 0) := by
  obtain ⟨n, rfl⟩ := Int.eq_ofNat_of_zero_le h0
  show xs[n]? = _
  have : n < xs.length := by omega
  simp [List.getD, this]
theorem get_in {xs : List Int} {k : Nat} (h : k < xs.length) : xs[k]? = some (xs.getD k 0) := by simp [List.getD, h]

theorem idx_inD {α : Type} (d : α) {xs : List α} {i : Int} (h0 : 0 ≤ i) (h : i < xs.length) : idx xs i = some (xs.getD i.toNat d) := by
  obtain ⟨n, rfl⟩ := Int.eq_ofNat_of_zero_le h0
  show xs[n]? = _
  have : n < xs.length := by omega
  simp [List.getD, this]

theorem okApp_t {b s n m : Nat} (h0 : 0 < s) (h : (n + m) * b ≤ 140737488355328) : okApp b s n m = true := by
  unfold okApp
  rw [Bool.and_eq_true]
  exact ⟨Nat.ble_eq_true_of_le h0, Nat.ble_eq_true_of_le h⟩
theorem okMake_t {b : Nat} {l c : Int} (h0 : 0 ≤ l) (h1 : l ≤ c) (h2 : (b : Int) * c ≤ 140737488355328) : okMake b l c = true := by
  unfold okMake
  simp [h0, h1, h2]
theorem inCut_t {n : Nat} {l h : Int} (h0 : 0 ≤ l) (h1 : l ≤ h) (h2 : h ≤ n) : inCut n l h = true := by
  unfold inCut
  simp [h0, h1, h2]
theorem ble_t {a b : Nat} (h : a ≤ b) : Nat.ble a b = true := Nat.ble_eq_true_of_le h

/-! ### Digits -/
def val (B : Int) : List Int → Int
  | [] => 0
  | x :: xs => x + B * val B xs

def Dig (B : Int) (d : List Int) : Prop := ∀ x ∈ d, 0 ≤ x ∧ x < B

theorem Dig.nil {B : Int} : Dig B [] := fun x h => by cases h
theorem Dig.cons {B x : Int} {d : List Int} (h0 : 0 ≤ x) (h1 : x < B) (h : Dig B d) : Dig B (x :: d) := fun y hy => by
  rcases List.mem_cons.1 hy with rfl | hy
  · exact ⟨h0, h1⟩
  · exact h y hy
theorem Dig.head {B x : Int} {d : List Int} (h : Dig B (x :: d)) : 0 ≤ x ∧ x < B := h x (by simp)
theorem Dig.tail {B x : Int} {d : List Int} (h : Dig B (x :: d)) : Dig B d := fun y hy => h y (by simp [hy])
theorem Dig.append {B : Int} {d e : List Int} (h1 : Dig B d) (h2 : Dig B e) : Dig B (d ++ e) := fun y hy => by
  rcases List.mem_append.1 hy with hy | hy
  · exact h1 y hy
  · exact h2 y hy
theorem Dig.left {B : Int} {d e : List Int} (h : Dig B (d ++ e)) : Dig B d := fun y hy => h y (by simp [hy])
theorem Dig.right {B : Int} {d e : List Int} (h : Dig B (d ++ e)) : Dig B e := fun y hy => h y (by simp [hy])
theorem Dig.drop {B : Int} {d : List Int} (h : Dig B d) (k : Nat) : Dig B (d.drop k) := fun y hy => h y (List.mem_of_mem_drop hy)
theorem Dig.take {B : Int} {d : List Int} (h : Dig B d) (k : Nat) : Dig B (d.take k) := fun y hy => h y (List.mem_of_mem_take hy)
theorem Dig.getD {B : Int} {d : List Int} (h : Dig B d) (hB : 0 < B) (k : Nat) : 0 ≤ d.getD k 0 ∧ d.getD k 0 < B := by
  by_cases hk : k < d.length
  · have : d.getD k 0 = d[k] := by simp [List.getD, hk]
    rw [this]; exact h _ (List.getElem_mem hk)
  · have : d.getD k 0 = 0 := by
      have h' : d[k]? = none := List.getElem?_eq_none (by omega)
      simp [List.getD, h']
    rw [this]; exact ⟨by omega, hB⟩
theorem Dig.replicate {B : Int} (hB : 0 < B) (n : Nat) : Dig B (List.replicate n 0) := fun y hy => by
  obtain ⟨_, rfl⟩ := List.mem_replicate.1 hy
  exact ⟨by omega, hB⟩
theorem Dig.set {B x : Int} {d : List Int} (h : Dig B d) (h0 : 0 ≤ x) (h1 : x < B) (k : Nat) : Dig B (d.set k x) := fun y hy => by
  rcases List.mem_or_eq_of_mem_set hy with hy | rfl
  · exact h y hy
  · exact ⟨h0, h1⟩

theorem val_nonneg {B : Int} (hB : 0 ≤ B) : ∀ {d : List Int}, Dig B d → 0 ≤ val B d
  | [], _ => by simp [val]
  | x :: d, h => by
    have h1 := h.head.1
    have h2 := val_nonneg hB h.tail
    have := Int.mul_nonneg hB h2
    simp only [val]; omega

theorem val_append (B : Int) : ∀ (d e : List Int), val B (d ++ e) = val B d + B ^ d.length * val B e
  | [], e => by simp [val]
  | x :: d, e => by
    simp only [List.cons_append, val, val_append B d e, List.length_cons, Int.pow_succ, Int.mul_add]
    rw [← Int.mul_assoc, Int.mul_comm B (B ^ d.length)]
    omega

theorem val_replicate (B : Int) (n : Nat) : val B (List.replicate n 0) = 0 := by
  induction n with
  | zero => rfl
  | succ n ih => rw [List.replicate_succ, val, ih]; simp

theorem val_lt {B : Int} (hB : 0 < B) : ∀ {d : List Int}, Dig B d → val B d < B ^ d.length
  | [], _ => by simp [val]
  | x :: d, h => by
    have h1 := h.head.2
    have h2 := val_lt hB h.tail
    have h3 : B * (val B d + 1) ≤ B * B ^ d.length := Int.mul_le_mul_of_nonneg_left (by omega) (by omega)
    simp only [val, List.length_cons, Int.pow_succ]
    rw [Int.mul_comm (B ^ d.length) B]
    rw [Int.mul_add] at h3
    omega

/-- Without zeros at the end. -/
def trimL : List Int → List Int
  | [] => []
  | x :: xs => match trimL xs with
    | [] => if x = 0 then [] else [x]
    | y :: ys => x :: y :: ys

theorem trimL_snoc0 : ∀ d : List Int, trimL (d ++ [0]) = trimL d
  | [] => rfl
  | x :: d => by simp only [List.cons_append, trimL, trimL_snoc0 d]

theorem trimL_snoc {y : Int} (hy : y ≠ 0) : ∀ d : List Int, trimL (d ++ [y]) = d ++ [y]
  | [] => by simp [trimL, hy]
  | x :: d => by
    simp only [List.cons_append, trimL, trimL_snoc hy d]
    cases d <;> rfl

theorem trimL_length : ∀ d : List Int, (trimL d).length ≤ d.length
  | [] => Nat.le_refl _
  | x :: d => by
    have := trimL_length d
    simp only [trimL]
    split
    · split <;> simp
    · rename_i y ys h
      rw [h] at this
      simp at this ⊢; omega

theorem val_trimL (B : Int) : ∀ d : List Int, val B (trimL d) = val B d
  | [] => rfl
  | x :: d => by
    have ih := val_trimL B d
    simp only [trimL]
    split
    · rename_i h
      rw [h] at ih
      simp only [val] at ih
      split
      · rename_i hx; simp [val, ← ih, hx]
      · simp [val, ← ih]
    · rename_i y ys h
      rw [h] at ih
      rw [val, ih, val]

/-- The digits of a number from the lowest one on, none for 0. -/
def dig (B : Nat) (n : Nat) : List Int := if h : n = 0 ∨ B ≤ 1 then [] else ((n % B : Nat) : Int) :: dig B (n / B)
termination_by n
decreasing_by exact Nat.div_lt_self (by omega) (by omega)

theorem dig_zero (B : Nat) : dig B 0 = [] := by rw [dig]; simp
theorem dig_pos {B n : Nat} (hB : 1 < B) (hn : 0 < n) : dig B n = ((n % B : Nat) : Int) :: dig B (n / B) := by
  rw [dig, dif_neg (by omega)]

theorem dig_eq_nil {B n : Nat} (hB : 1 < B) : dig B n = [] ↔ n = 0 := by
  constructor
  · intro h
    by_cases hn : n = 0
    · exact hn
    · rw [dig_pos hB (by omega)] at h; cases h
  · rintro rfl; exact dig_zero B

theorem dig_Dig {B : Nat} (hB : 1 < B) : ∀ n, Dig B (dig B n) := by
  intro n
  induction n using Nat.strongRecOn with
  | ind n ih =>
    by_cases hn : n = 0
    · subst hn; rw [dig_zero]; exact Dig.nil
    · rw [dig_pos hB (by omega)]
      have := Nat.mod_lt n (show B > 0 by omega)
      exact Dig.cons (by omega) (by omega) (ih _ (Nat.div_lt_self (by omega) hB))

theorem val_dig {B : Nat} (hB : 1 < B) : ∀ n, val B (dig B n) = n := by
  intro n
  induction n using Nat.strongRecOn with
  | ind n ih =>
    by_cases hn : n = 0
    · subst hn; rw [dig_zero]; rfl
    · rw [dig_pos hB (by omega), val, ih _ (Nat.div_lt_self (by omega) hB)]
      have := Nat.mod_add_div n B
      omega

theorem trimL_dig {B : Nat} (hB : 1 < B) : ∀ d : List Int, Dig B d → trimL d = dig B (val B d).toNat
  | [], _ => by simp [trimL, val, dig_zero]
  | x :: d, h => by
    have ih := trimL_dig hB d h.tail
    have hx := h.head
    have hv := val_nonneg (B := B) (by omega) h.tail
    obtain ⟨v, hv'⟩ := Int.eq_ofNat_of_zero_le hv
    obtain ⟨a, rfl⟩ := Int.eq_ofNat_of_zero_le hx.1
    have hab : a < B := by omega
    simp only [trimL, val, hv']
    rw [hv'] at ih
    have e : ((a : Int) + (B : Int) * (v : Int)).toNat = a + B * v := by
      rw [← Int.natCast_mul, ← Int.natCast_add]; exact Int.toNat_natCast _
    rw [e]
    simp only [Int.toNat_natCast] at ih
    by_cases hv0 : v = 0
    · subst hv0
      rw [dig_zero] at ih
      rw [ih]
      simp only
      by_cases ha : a = 0
      · subst ha; simp [dig_zero]
      · rw [dig_pos hB (by omega)]
        have h1 : (a + B * 0) % B = a := by simp [Nat.mod_eq_of_lt hab]
        have h2 : (a + B * 0) / B = 0 := by simp [Nat.div_eq_of_lt hab]
        rw [h1, h2, dig_zero, if_neg (by omega)]
    · have hpos : 0 < a + B * v := by
        have : 0 < B * v := Nat.mul_pos (by omega) (by omega)
        omega
      rw [dig_pos hB hpos]
      have h1 : (a + B * v) % B = a := by rw [Nat.add_mul_mod_self_left, Nat.mod_eq_of_lt hab]
      have h2 : (a + B * v) / B = v := by rw [Nat.add_mul_div_left _ _ (by omega : 0 < B), Nat.div_eq_of_lt hab]; omega
      rw [h1, h2, ih]
      have hne : dig B v ≠ [] := fun e => hv0 ((dig_eq_nil hB).1 e)
      split
      · rename_i e; exact absurd e hne
      · rename_i y ys e; rw [e]

/-- A list without zeros at the end is the digits of its value. -/
theorem dig_unique {B : Nat} (hB : 1 < B) {d : List Int} (h : Dig B d) (ht : trimL d = d) : d = dig B (val B d).toNat := by
  rw [← trimL_dig hB d h, ht]

theorem trimL_of_dig {B : Nat} (hB : 1 < B) (n : Nat) : trimL (dig B n) = dig B n := by
  rw [trimL_dig hB _ (dig_Dig hB n), val_dig hB]; rfl

/-- The number of digits. -/
theorem dig_length_le {B : Nat} (hB : 1 < B) : ∀ (k n : Nat), (dig B n).length ≤ k ↔ n < B ^ k
  | 0, n => by
    rw [Nat.pow_zero]
    constructor
    · intro h
      have := (dig_eq_nil (n := n) hB).1 (List.length_eq_zero_iff.1 (Nat.le_zero.1 h))
      omega
    · intro h
      have : n = 0 := by omega
      subst this; simp [dig_zero]
  | k + 1, n => by
    by_cases hn : n = 0
    · subst hn
      simp only [dig_zero, List.length_nil]
      exact ⟨fun _ => Nat.pow_pos (by omega), fun _ => by omega⟩
    · rw [dig_pos hB (by omega), List.length_cons]
      have := dig_length_le hB k (n / B)
      rw [Nat.pow_succ, ← Nat.div_lt_iff_lt_mul (by omega)]
      omega

theorem dig_length_lt {B : Nat} (hB : 1 < B) (k n : Nat) : k < (dig B n).length ↔ B ^ k ≤ n := by
  have := dig_length_le hB k n
  omega

theorem getLast_dig {B : Nat} (hB : 1 < B) {n : Nat} : ∀ {d : List Int} {y : Int}, dig B n = d ++ [y] → y ≠ 0 := by
  intro d y h hy
  subst hy
  have h1 := trimL_of_dig hB n
  rw [h, trimL_snoc0] at h1
  have h2 := trimL_length d
  rw [h1] at h2
  simp at h2
  omega

/-! ### Lists -/
theorem getD_drop (l : List Int) (k j : Nat) : (l.drop k).getD j 0 = l.getD (k + j) 0 := by simp [List.getD, List.getElem?_drop]
theorem drop_eq {l : List Int} {k : Nat} (h : k < l.length) : l.drop k = l.getD k 0 :: l.drop (k + 1) := by
  rw [List.drop_eq_getElem_cons h]
  simp [List.getD, h]
theorem drop_nil {l : List Int} {k : Nat} (h : l.length ≤ k) : l.drop k = [] := List.drop_eq_nil_of_le h
theorem getD_none {l : List Int} {k : Nat} (h : l.length ≤ k) : l.getD k 0 = 0 := by
  have h' : l[k]? = none := List.getElem?_eq_none (by omega)
  simp [List.getD, h']
theorem cut0 {α : Type} (d : List α) (h : Int) : cut d 0 h = d.take h.toNat := by simp [cut]

end Go.Abs
namespace Go.Abs

theorem tmod_in {a b : Int} (h : 0 ≤ a) : a.tmod b = a % b := Int.tmod_eq_emod_of_nonneg h
theorem tdiv_in {a b : Int} (h : 0 ≤ a) : a.tdiv b = a / b := Int.tdiv_eq_ediv_of_nonneg h

theorem take_succ' {l : List Int} {k : Nat} (h : k < l.length) : l.take (k + 1) = l.take k ++ [l.getD k 0] := by
  rw [List.take_add_one]
  simp [List.getD, h]

/-- The order of two numbers: -1, 0 or 1. -/
def cmpI (x y : Int) : Int := if x < y then -1 else if y < x then 1 else 0

theorem cmpI_lt {x y : Int} (h : x < y) : cmpI x y = -1 := by unfold cmpI; rw [if_pos h]
theorem cmpI_gt {x y : Int} (h : y < x) : cmpI x y = 1 := by unfold cmpI; rw [if_neg (by omega), if_pos h]
theorem cmpI_eq {x y : Int} (h : x = y) : cmpI x y = 0 := by unfold cmpI; rw [if_neg (by omega), if_neg (by omega)]

/-- The top digits decide. -/
theorem top_lt {B : Int} (hB : 0 < B) {d e : List Int} {x y : Int} (hd : Dig B d) (he : Dig B e) (hl : d.length = e.length) (h : x < y) : val B (d ++ [x]) < val B (e ++ [y]) := by
  rw [val_append, val_append]
  have h1 := val_lt hB hd
  have h2 := val_nonneg (by omega) he
  rw [hl] at h1 ⊢
  have h3 : B ^ e.length * (x + 1) ≤ B ^ e.length * y := Int.mul_le_mul_of_nonneg_left (by omega) (Int.pow_nonneg (by omega))
  rw [Int.mul_add] at h3
  simp only [val]
  simp only [Int.mul_zero, Int.add_zero] at *
  omega
end Go.Abs
namespace Go.Abs
/-! ### Branches, taken by a fact (no proof by computation: the kernel would run the program) -/
section
variable {α β : Type} {x y : α} {a b : Int}
theorem cT (x y : α) : (bif true then x else y) = x := (cond_true x y).trans (Eq.refl x)
theorem cF (x y : α) : (bif false then x else y) = y := (cond_false x y).trans (Eq.refl y)
theorem bS (z : α) (f : α → Option β) : (some z).bind f = f z := (Option.bind_some z f).trans (Eq.refl _)
theorem c_t {c : Bool} (h : c = true) : (bif c then x else y) = x := by rw [h]; exact cT _ _
theorem c_f {c : Bool} (h : c = false) : (bif c then x else y) = y := by rw [h]; exact cF _ _
theorem clt_t (h : a < b) : (bif decide (a < b) then x else y) = x := c_t (dlt_t h)
theorem clt_f (h : ¬ a < b) : (bif decide (a < b) then x else y) = y := c_f (dlt_f h)
theorem cle_t (h : a ≤ b) : (bif decide (a ≤ b) then x else y) = x := c_t (dle_t h)
theorem cle_f (h : ¬ a ≤ b) : (bif decide (a ≤ b) then x else y) = y := c_f (dle_f h)
theorem cgt_t (h : a > b) : (bif decide (a > b) then x else y) = x := c_t (dgt_t h)
theorem cgt_f (h : ¬ a > b) : (bif decide (a > b) then x else y) = y := c_f (dgt_f h)
theorem cge_t (h : a ≥ b) : (bif decide (a ≥ b) then x else y) = x := c_t (dge_t h)
theorem cge_f (h : ¬ a ≥ b) : (bif decide (a ≥ b) then x else y) = y := c_f (dge_f h)
theorem ceq_t (h : a = b) : (bif a == b then x else y) = x := c_t (beq_t h)
theorem ceq_f (h : ¬ a = b) : (bif a == b then x else y) = y := c_f (beq_f h)
theorem cne_t (h : ¬ a = b) : (bif a != b then x else y) = x := c_t (bne_t h)
theorem cne_f (h : a = b) : (bif a != b then x else y) = y := c_f (bne_f h)
theorem cApp {p s n m : Nat} (h0 : 0 < s) (h : (n + m) * p ≤ 140737488355328) : (bif okApp p s n m then x else y) = x := c_t (okApp_t h0 h)
theorem cMake {p : Nat} {l c : Int} (h0 : 0 ≤ l) (h1 : l ≤ c) (h2 : (p : Int) * c ≤ 140737488355328) : (bif okMake p l c then x else y) = x := c_t (okMake_t h0 h1 h2)
theorem cCut {n : Nat} {l h : Int} (h0 : 0 ≤ l) (h1 : l ≤ h) (h2 : h ≤ n) : (bif inCut n l h then x else y) = x := c_t (inCut_t h0 h1 h2)
theorem cBle {m n : Nat} (h : m ≤ n) : (bif Nat.ble m n then x else y) = x := c_t (ble_t h)
theorem bIdx {xs : List Int} {i : Int} {f : Int → Option β} (h0 : 0 ≤ i) (h : i < xs.length) : (idx xs i).bind f = f (xs.getD i.toNat 0) := by rw [idx_in h0 h]; exact bS _ _
theorem bGet {xs : List Int} {k : Nat} {f : Int → Option β} (h : k < xs.length) : (xs[k]?).bind f = f (xs.getD k 0) := by rw [get_in h]; exact bS _ _
end
end Go.Abs
set_option linter.unusedVariables false
set_option linter.unusedSimpArgs false
namespace Go.Abs

theorem bytesOf_length (s : ByteArray) : (bytesOf s).length = s.size := by
  rw [bytesOf, List.length_map, Array.length_toList]; rfl
theorem bytesOf_range (s : ByteArray) : Dig 256 (bytesOf s) := fun x hx => by
  simp only [bytesOf, List.mem_map] at hx
  obtain ⟨b, _, rfl⟩ := hx
  have := b.toNat_lt
  omega
theorem sidx_eq (s : ByteArray) (i : Int) : sidx s i = idx (bytesOf s) i := by
  cases i with
  | ofNat n =>
    show (s[n]?).map _ = (bytesOf s)[n]?
    simp only [bytesOf, List.getElem?_map, Array.getElem?_toList]
    rfl
  | negSucc n => rfl
theorem bytesOf_extract (s : ByteArray) (l h : Nat) : bytesOf (s.extract l h) = ((bytesOf s).take h).drop l := by
  simp only [bytesOf, ByteArray.data_extract, Array.toList_extract, List.extract_eq_take_drop]
  rw [← List.map_take, ← List.map_drop, List.drop_take]
theorem bytesOf_inj {s t : ByteArray} (h : bytesOf s = bytesOf t) : s = t := by
  apply ByteArray.ext
  apply Array.ext'
  refine (List.map_inj_right fun a b hab => ?_).1 h
  have h2 : a.toNat = b.toNat := Int.ofNat.inj hab
  exact UInt8.toNat_inj.1 h2
theorem bytesOf_strOf {xs : List Int} (h : Dig 256 xs) : bytesOf (strOf xs) = xs := by
  simp only [bytesOf, strOf, List.map_map]
  conv => rhs; rw [← List.map_id xs]
  apply List.map_congr_left
  intro x hx
  have := h x hx
  simp only [Function.comp, id, UInt8.toNat_ofNat']
  omega
theorem strOf_bytesOf (s : ByteArray) : strOf (bytesOf s) = s := bytesOf_inj (bytesOf_strOf (bytesOf_range s))

theorem toList_loop (s : ByteArray) : ∀ (n i : Nat) (r : List UInt8), s.size - i = n → ByteArray.toList.loop s i r = r.reverse ++ s.data.toList.drop i := by
  intro n
  induction n with
  | zero =>
    intro i r h
    rw [ByteArray.toList.loop, if_neg (by omega)]
    rw [List.drop_eq_nil_of_le (by simp; exact (show s.data.size ≤ i by have := @ByteArray.size_data s; omega))]; simp
  | succ n ih =>
    intro i r h
    have hi : i < s.size := by omega
    have hi' : i < s.data.toList.length := by simp; exact (show i < s.data.size by have := @ByteArray.size_data s; omega)
    rw [ByteArray.toList.loop, if_pos hi, ih (i + 1) _ (by omega)]
    rw [List.drop_eq_getElem_cons hi']
    simp
    have : s.get! i = s.data[i]'(by simpa using hi') := by
      simp only [ByteArray.get!]
      exact getElem!_pos _ _ _
    exact this

theorem toList_eq (s : ByteArray) : s.toList = s.data.toList := by
  rw [ByteArray.toList, toList_loop s _ 0 [] rfl]; simp

theorem str_beq (s t : ByteArray) : (s.toList == t.toList) = decide (bytesOf s = bytesOf t) := by
  rw [toList_eq, toList_eq]
  by_cases h : s = t
  · subst h; simp
  · have h1 : ¬ bytesOf s = bytesOf t := fun e => h (bytesOf_inj e)
    have h2 : ¬ s.data.toList = t.data.toList := fun e => h (ByteArray.ext (Array.ext' e))
    rw [decide_eq_false h1]
    simpa using h2

theorem str_beq' (s t : ByteArray) : (s.toList == t.toList) = decide (s = t) := by
  rw [str_beq]
  exact decide_eq_decide.2 ⟨bytesOf_inj, fun h => by rw [h]⟩

theorem bytesOf_empty : bytesOf ByteArray.empty = [] := rfl
theorem bytesOf_append (s t : ByteArray) : bytesOf (s ++ t) = bytesOf s ++ bytesOf t := by
  simp only [bytesOf]
  rw [← List.map_append]
  congr 1

theorem bytesOf_bs (l : List Nat) : bytesOf (bs l) = l.map fun n => ((n % 256 : Nat) : Int) := by
  simp [bytesOf, bs, Function.comp, UInt8.toNat_ofNat']

end Go.Abs
set_option linter.unusedVariables false
set_option linter.unusedSimpArgs false
namespace Go.Abs

/-! ### Decimal texts, as lists of bytes -/
abbrev dX (n : Nat) : List Int := dig 10 n
abbrev VX (d : List Int) : Int := val 10 d
abbrev DX (d : List Int) : Prop := Dig 10 d
theorem dX_D (n : Nat) : DX (dX n) := dig_Dig (B := 10) (by omega) n
theorem VX_d (n : Nat) : VX (dX n) = n := val_dig (B := 10) (by omega) n
theorem trimX {d : List Int} (h : DX d) : trimL d = dX (VX d).toNat := trimL_dig (B := 10) (by omega) d h
theorem VX_nonneg {d : List Int} (h : DX d) : 0 ≤ VX d := val_nonneg (by omega) h

theorem pow10_cast (n : Nat) : ((10 ^ n : Nat) : Int) = (10 : Int) ^ n := by
  rw [Int.natCast_pow]; rfl
theorem pow10_le {k n : Nat} (h : k ≤ n) : (10 : Int) ^ k ≤ 10 ^ n := by
  have h1 := Nat.pow_le_pow_right (show 10 > 0 by omega) h
  rw [← pow10_cast, ← pow10_cast]
  exact Int.ofNat_le.2 h1

def chr (d : List Int) : List Int := d.map (· + 48)
/-- The text of a natural number. -/
def natT (n : Nat) : List Int := if n = 0 then [48] else (chr (dX n)).reverse
/-- The text of an integer, as bytes. -/
def txtL (z : Int) : List Int := (if z < 0 then [45] else []) ++ natT z.natAbs
/-- The text of an integer. -/
def T10 (z : Int) : ByteArray := strOf (txtL z)

theorem chr_range {d : List Int} (h : DX d) : Dig 256 (chr d) := fun x hx => by
  obtain ⟨y, hy, rfl⟩ := List.mem_map.1 hx
  have := h y hy
  omega
theorem natT_range (n : Nat) : ∀ c ∈ natT n, 48 ≤ c ∧ c ≤ 57 := by
  intro c hc
  unfold natT at hc
  split at hc
  · simp at hc; omega
  · rw [List.mem_reverse] at hc
    obtain ⟨y, hy, rfl⟩ := List.mem_map.1 hc
    have := dX_D n y hy
    omega
theorem txtL_range (z : Int) : Dig 256 (txtL z) := fun c hc => by
  unfold txtL at hc
  rcases List.mem_append.1 hc with h | h
  · split at h
    · simp at h; omega
    · cases h
  · have := natT_range _ c h
    omega
theorem bytesOf_T10 (z : Int) : bytesOf (T10 z) = txtL z := bytesOf_strOf (txtL_range z)

theorem natT_ne (n : Nat) : natT n ≠ [] := by
  unfold natT
  split
  · simp
  · rename_i h
    intro e
    have h1 : chr (dX n) = [] := by simpa using e
    have h2 : dX n = [] := by simpa [chr] using h1
    exact h ((dig_eq_nil (B := 10) (by omega)).1 h2)

theorem natT_length (n : Nat) : (natT n).length = max 1 (dX n).length := by
  unfold natT
  split
  · rename_i h; subst h; rw [dX, dig_zero]; rfl
  · rename_i h
    have : (dX n).length ≠ 0 := fun e => h ((dig_eq_nil (B := 10) (by omega)).1 (List.length_eq_zero_iff.1 e))
    simp [chr]; omega

/-- The head of a text of digits. -/
theorem natT_head (n : Nat) : (natT n).head? = some 48 ↔ n = 0 := by
  unfold natT
  split
  · rename_i h; simp [h]
  · rename_i h
    have hne : dX n ≠ [] := fun e => h ((dig_eq_nil (B := 10) (by omega)).1 e)
    constructor
    · intro e
      exfalso
      rw [List.head?_reverse] at e
      have h1 : dX n = (dX n).dropLast ++ [(dX n).getLast hne] := (List.dropLast_concat_getLast hne).symm
      have h2 := getLast_dig (B := 10) (by omega) h1
      rw [chr, List.getLast?_map, List.getLast?_eq_some_getLast hne] at e
      simp at e
      omega
    · intro e; exact absurd e h

/-- The value of a text of digits. -/
def decv (l : List Int) : Int := l.foldl (fun x c => 10 * x + (c - 48)) 0

theorem decv_fold : ∀ (l : List Int) (x : Int), l.foldl (fun x c => 10 * x + (c - 48)) x = x * 10 ^ l.length + decv l
  | [], x => by simp [decv]
  | c :: l, x => by
    simp only [List.foldl_cons, decv]
    rw [decv_fold l (10 * x + (c - 48)), decv_fold l (10 * 0 + (c - 48)), List.length_cons, Int.pow_succ, Int.add_mul]
    have e1 : 10 * x * 10 ^ l.length = x * (10 ^ l.length * 10) := by rw [Int.mul_comm 10 x, Int.mul_assoc, Int.mul_comm 10]
    rw [e1]; simp only [Int.mul_zero, Int.zero_add]; omega

theorem decv_append (l m : List Int) : decv (l ++ m) = decv l * 10 ^ m.length + decv m := by
  rw [decv, List.foldl_append, decv_fold]
  rfl

theorem decv_reverse_chr : ∀ (d : List Int), decv (chr d).reverse = VX d
  | [] => rfl
  | x :: d => by
    simp only [chr, List.map_cons, List.reverse_cons]
    rw [decv_append]
    have := decv_reverse_chr d
    rw [chr] at this
    rw [this]
    simp [decv, VX, val]; omega

theorem decv_natT (n : Nat) : decv (natT n) = n := by
  unfold natT
  split
  · rename_i h; subst h; rfl
  · rw [decv_reverse_chr, VX_d]

theorem decv_bounds : ∀ (l : List Int), (∀ c ∈ l, 48 ≤ c ∧ c ≤ 57) → 0 ≤ decv l ∧ decv l < 10 ^ l.length
  | [], _ => by simp [decv]
  | c :: l, h => by
    have h1 := h c (by simp)
    have h2 := decv_bounds l (fun x hx => h x (by simp [hx]))
    have h3 : decv (c :: l) = (c - 48) * 10 ^ l.length + decv l := by
      have := decv_fold l (10 * 0 + (c - 48))
      simpa [decv] using this
    rw [h3, List.length_cons, Int.pow_succ]
    have hp : (0 : Int) < 10 ^ l.length := Int.pow_pos (by omega)
    have h4 : 0 ≤ (c - 48) * 10 ^ l.length := Int.mul_nonneg (by omega) (by omega)
    have h5 : (c - 48) * 10 ^ l.length ≤ 9 * 10 ^ l.length := Int.mul_le_mul_of_nonneg_right (by omega) (by omega)
    omega

def isD (c : Int) : Bool := decide (48 ≤ c) && decide (c ≤ 57)
theorem isD_iff (c : Int) : isD c = true ↔ 48 ≤ c ∧ c ≤ 57 := by simp [isD]

/-- A text of digits without a zero ahead is the text of its value. -/
theorem natT_decv {l : List Int} (h : ∀ c ∈ l, 48 ≤ c ∧ c ≤ 57) (hne : l ≠ []) (h0 : l.head? = some 48 → l = [48]) : l = natT (decv l).toNat := by
  by_cases hz : l.head? = some 48
  · rw [h0 hz]; rfl
  · -- the digits from the lowest one on
    have hD : DX (l.map (· - 48)).reverse := fun x hx => by
      rw [List.mem_reverse] at hx
      obtain ⟨c, hc, rfl⟩ := List.mem_map.1 hx
      have := h c hc
      omega
    have hchr : chr (l.map (· - 48)).reverse = l.reverse := by
      simp only [chr, ← List.map_reverse, List.map_map]
      conv => rhs; rw [← List.map_id l.reverse]
      apply List.map_congr_left
      intro c _
      simp only [Function.comp, id]; omega
    have hv : VX (l.map (· - 48)).reverse = decv l := by rw [← decv_reverse_chr, hchr, List.reverse_reverse]
    have htrim : trimL (l.map (· - 48)).reverse = (l.map (· - 48)).reverse := by
      cases l with
      | nil => exact absurd rfl hne
      | cons c l =>
        simp only [List.map_cons, List.reverse_cons]
        exact trimL_snoc (fun e => hz (by simp; omega)) _
    have hu := dig_unique (B := 10) (by omega) hD htrim
    rw [show val ((10 : Nat) : Int) (l.map (· - 48)).reverse = decv l from hv] at hu
    have hnz : (decv l).toNat ≠ 0 := fun e => by
      rw [e, dig_zero] at hu
      exact hne (by simpa using hu)
    unfold natT
    rw [if_neg hnz, dX, ← hu, hchr, List.reverse_reverse]

theorem natT_inj {m n : Nat} (h : natT m = natT n) : m = n := by
  have h1 := decv_natT m
  rw [h, decv_natT n] at h1
  omega

theorem txtL_inj {x y : Int} (h : txtL x = txtL y) : x = y := by
  unfold txtL at h
  have key : ∀ (m n : Nat), ([45] : List Int) ++ natT m ≠ [] ++ natT n := fun m n e => by
    have : (45 : Int) ∈ natT n := by
      rw [List.nil_append] at e
      rw [← e]; simp
    have := natT_range n _ this
    omega
  split at h <;> split at h
  · have := natT_inj (List.append_cancel_left h); omega
  · exact absurd h (key _ _)
  · exact absurd h.symm (key _ _)
  · have := natT_inj (List.append_cancel_left h); omega

theorem T10_inj {x y : Int} (h : T10 x = T10 y) : x = y := txtL_inj (by rw [← bytesOf_T10, ← bytesOf_T10, h])
theorem T10_eq_iff {x y : Int} : T10 x = T10 y ↔ x = y := ⟨T10_inj, fun h => by rw [h]⟩

/-- The sign and the digits of a text. -/
def minusOf (l : List Int) : Bool := l.head? == some 45
def bodyOf (l : List Int) : List Int := if l.head? = some 45 then l.tail else l

def okText (l : List Int) : Bool :=
  (bodyOf l).all isD && !((bodyOf l).isEmpty) && (!((bodyOf l).head? == some 48) || ((bodyOf l).length == 1 && !(minusOf l)))

/-- The value of a text. -/
def numOf (l : List Int) : Int := if minusOf l then -decv (bodyOf l) else decv (bodyOf l)

theorem okText_txtL (z : Int) : okText (txtL z) = true ∧ numOf (txtL z) = z := by
  have hr := natT_range z.natAbs
  have hne := natT_ne z.natAbs
  have hh := natT_head z.natAbs
  by_cases h : z < 0
  · have hb : bodyOf (txtL z) = natT z.natAbs := by simp [bodyOf, txtL, h]
    have hm : minusOf (txtL z) = true := by simp [minusOf, txtL, h]
    have hz : ¬ (natT z.natAbs).head? = some 48 := fun e => by have := hh.1 e; omega
    refine ⟨?_, ?_⟩
    · unfold okText
      rw [hb, hm]
      have h1 : (natT z.natAbs).all isD = true := List.all_eq_true.2 fun c hc => (isD_iff c).2 (hr c hc)
      have h2 : (natT z.natAbs).isEmpty = false := by simpa using hne
      have h3 : ((natT z.natAbs).head? == some 48) = false := by simpa using hz
      rw [h1, h2, h3]; rfl
    · unfold numOf
      rw [hb, hm, decv_natT]; simp; omega
  · have hb' : (txtL z).head? ≠ some 45 := by
      simp only [txtL, h, if_false, List.nil_append]
      intro e
      have : (45 : Int) ∈ natT z.natAbs := List.mem_of_mem_head? (by rw [e]; rfl)
      have := hr _ this
      omega
    have hb : bodyOf (txtL z) = natT z.natAbs := by
      unfold bodyOf; rw [if_neg hb']; simp [txtL, h]
    have hm : minusOf (txtL z) = false := by simpa [minusOf] using hb'
    refine ⟨?_, ?_⟩
    · unfold okText
      rw [hb, hm]
      have h1 : (natT z.natAbs).all isD = true := List.all_eq_true.2 fun c hc => (isD_iff c).2 (hr c hc)
      have h2 : (natT z.natAbs).isEmpty = false := by simpa using hne
      rw [h1, h2]
      by_cases h3 : (natT z.natAbs).head? = some 48
      · have : z.natAbs = 0 := hh.1 h3
        rw [this]; rfl
      · have h4 : ((natT z.natAbs).head? == some 48) = false := by simpa using h3
        rw [h4]; rfl
    · unfold numOf
      rw [hb, hm, decv_natT]; simp; omega

theorem txtL_of_ok {l : List Int} (h : okText l = true) : l = txtL (numOf l) := by
  unfold okText at h
  simp only [Bool.and_eq_true, Bool.or_eq_true, Bool.not_eq_true', List.isEmpty_eq_false_iff] at h
  obtain ⟨⟨h1, h2⟩, h3⟩ := h
  have hr : ∀ c ∈ bodyOf l, 48 ≤ c ∧ c ≤ 57 := fun c hc => (isD_iff c).1 (List.all_eq_true.1 h1 c hc)
  have h0 : (bodyOf l).head? = some 48 → bodyOf l = [48] ∧ minusOf l = false := fun e => by
    rcases h3 with h3 | h3
    · rw [e] at h3; cases h3
    · refine ⟨?_, h3.2⟩
      cases hb : bodyOf l with
      | nil => exact absurd hb h2
      | cons c r =>
        rw [hb] at e h3
        simp at e h3
        rw [e, h3.1]
  have hn := natT_decv hr h2 (fun e => (h0 e).1)
  have hb := decv_bounds _ hr
  by_cases hm : l.head? = some 45
  · have hm' : minusOf l = true := by simpa [minusOf] using hm
    have hnz : decv (bodyOf l) ≠ 0 := fun e => by
      rw [e] at hn
      have : (bodyOf l).head? = some 48 := by rw [hn]; rfl
      have := (h0 this).2
      rw [hm'] at this; cases this
    have hl : l = 45 :: bodyOf l := by
      cases l with
      | nil => cases hm
      | cons c r => simp at hm; subst hm; simp [bodyOf]
    unfold numOf txtL
    rw [if_pos hm', if_pos (by omega)]
    conv => lhs; rw [hl, hn]
    have : (-decv (bodyOf l)).natAbs = (decv (bodyOf l)).toNat := by omega
    rw [this]; rfl
  · have hm' : minusOf l = false := by simpa [minusOf] using hm
    have hl : bodyOf l = l := by unfold bodyOf; rw [if_neg hm]
    unfold numOf txtL
    rw [hm', hl]
    rw [hl] at hn hb
    simp only [Bool.false_eq_true, if_false]
    rw [if_neg (by omega), List.nil_append]
    have : (decv l).natAbs = (decv l).toNat := by omega
    rw [this]; exact hn

/-- A text is the text of a number or of none. -/
theorem text_cases (s : ByteArray) : (∃ z, s = T10 z) ∨ okText (bytesOf s) = false := by
  cases h : okText (bytesOf s) with
  | true => exact .inl ⟨numOf (bytesOf s), bytesOf_inj (by rw [bytesOf_T10]; exact txtL_of_ok h)⟩
  | false => exact .inr rfl

/-- The number of decimal digits; 0 has one. -/
def nd (z : Int) : Nat := (natT z.natAbs).length
theorem nd_le_iff (z : Int) (k : Nat) (hk : 1 ≤ k) : nd z ≤ k ↔ z.natAbs < 10 ^ k := by
  unfold nd
  rw [natT_length]
  have := dig_length_le (B := 10) (by omega) k z.natAbs
  simp only [dX]
  rw [← this]
  omega
theorem nd_neg (z : Int) : nd (-z) = nd z := by unfold nd; rw [Int.natAbs_neg]
theorem T10_size (z : Int) : (T10 z).size = nd z + (if z < 0 then 1 else 0) := by
  rw [← bytesOf_length, bytesOf_T10]
  unfold txtL nd
  split <;> simp <;> omega
end Go.Abs
