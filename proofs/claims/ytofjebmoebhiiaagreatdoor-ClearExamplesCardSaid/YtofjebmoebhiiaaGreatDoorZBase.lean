/- A part of the proof (Base). No condition. -/
import Derived.Test.YtofjebmoebhiiaaGreatDoorXg
import Derived.Lib.Bytealg
import Derived.Laws.StandIn
import Derived.WalkKit
set_option linter.unusedVariables false
set_option maxRecDepth 100000
namespace Go.Proofs.YtofjebmoebhiiaaGreatDoor.Ev
open Go.Abs Go.RowKit Go.Lib

theorem run177 (s : ByteArray) (c : Int) (w : World) : (callFunc 177 #[.string s, .int .u8 c]).run Tryz.prog w = .ok (.value (.int .i64 (indexByte s.data.toList c.toNat.toUInt8))) w := by
  rw [run_callFunc_indexByte Tryz.func177 (by kernel_rfl) (by kernel_rfl) (by kernel_rfl) (by kernel_rfl), run_indexByteString]
  rfl

theorem walk165 (s : ByteArray) (c : Int) (W : World) : Calls Tryz.prog 165 #[.string s, .int .u8 c] W fun e w' => e = .returned (.int .i64 (indexByte s.data.toList c.toNat.toUInt8)) ∧ w' = W := by
  have hd := run177 s c W
  go_enter Tryz.func165, Tryz.ntmps165
  go_wp2
  go_ret
  exact ⟨rfl, rfl⟩

theorem indexByte_idxB (c : Int) (hc : 0 ≤ c) (hc2 : c < 256) : ∀ (l : List UInt8) (i : Nat), idxB c i l = bif Go.Lib.indexByte l c.toNat.toUInt8 == -1 then -1 else i + Go.Lib.indexByte l c.toNat.toUInt8
  | [], i => rfl
  | x :: r, i => by
    have ih := indexByte_idxB c hc hc2 r (i + 1)
    have hge := indexByte_ge r c.toNat.toUInt8
    have e : ((x.toNat : Int) == c) = (x == c.toNat.toUInt8) := by
      rw [Bool.eq_iff_iff, beq_iff_eq, beq_iff_eq]
      constructor
      · intro h; subst h; simp
      · intro h; subst h; simp; omega
    simp only [idxB, indexByte, e, ih]
    generalize c.toNat.toUInt8 = u at hge ⊢
    cases hx : (x == u) with
    | true => simp
    | false =>
      cases hi : (indexByte r u == -1) with
      | true => simp
      | false =>
        have h1 : (indexByte r u + 1 == -1) = false := by rw [beq_eq_false_iff_ne]; omega
        simp [h1]
        omega

theorem endAS_same {T : Tab} {v d : Nat} {xh : InT T v} {yh : OutT T v} (hh : (T.sig v).heaps = []) (hu : resU d (T.sig v) (fstH _ yh) = []) : endAS T v d xh yh = plainAS (startHs T v xh) := by
  unfold endAS
  rw [hu]
  have : ∀ {hs : List Nat} (h : hs = []) (x : HDen T hs) (l : List HRow), putH T hs hs x l = l := fun h x l => by subst h; rfl
  unfold endHs
  rw [this (by simp [Sig.hout, hh])]
  rfl

theorem base165 (x : ByteArray × Int) (y : Int) (h : (bif decide (0 ≤ x.2) && decide (x.2 < 256) then some (idxB x.2 0 x.1.data.toList) else none) = some y) : FnOkAt Tryz.prog T 165 x y := by
  refine ⟨⟨_, Tryz.func165, by kernel_rfl, by kernel_rfl⟩, fun E ν args d hE hG hC hst hargs => ?_⟩
  have hs : endAS T 165 d x y = plainAS (startHs T 165 x) := endAS_same rfl rfl
  obtain ⟨s, c⟩ := x
  obtain ⟨v1, r1, e1, h1, v2, e2, h2⟩ : ArgsRel _ [.v .str, .v (.int .u8)] (s, c) args.toList := hargs
  have h1' : [v1] = [.string s] := h1
  have h2' : [v2] = [.int .u8 c] := h2
  simp only [List.cons.injEq, and_true] at h1' h2'
  subst h1' h2' e2
  obtain rfl : args = #[.string s, .int .u8 c] := by cases args; simp_all
  cases hc : decide (0 ≤ c) && decide (c < 256) with
  | false => simp only [hc, cond_false] at h; cases h
  | true =>
    simp only [Bool.and_eq_true, decide_eq_true_eq] at hc
    refine (walk165 s c E.w0).mono fun e w' ⟨he, hw⟩ => ?_
    subst he hw
    refine ⟨_, ν, rfl, by rw [hs]; exact hst, ?_⟩
    rw [hs]
    have e3 : y = indexByte s.data.toList c.toNat.toUInt8 := by
      have h' : idxB c 0 s.data.toList = y := by simpa [hc.1, hc.2] using h
      rw [← h', indexByte_idxB c hc.1 hc.2]
      cases hi : (indexByte s.data.toList c.toNat.toUInt8 == -1) with
      | true => simpa using (beq_iff_eq.1 hi).symm
      | false => simp
    rw [e3]
    show [Value.int .i64 _] = [Value.int .i64 _]
    rfl

abbrev tTm : Ty := .st (.pair (.int .i64) (.pair (.int .i64) .unit))
abbrev PhiN : PhiT T := fun _ _ => none
theorem nofn : FnOk Tryz.prog T PhiN := fun v xh yh h => by cases h
theorem nogen : GenOk Tryz.prog T PhiN := fun v xh yh h => by cases h
theorem some84 : Tryz.f84.body.isSome = true := by kernel_rfl
noncomputable def body84 : Code := Tryz.f84.body.get some84
theorem has84 : Tryz.f84.body = some body84 := by kernel_rfl
theorem clone_none : evBody T Tryz.f84 body84 PhiN 0 100084 (none : Option (List tTm.den)) = some ([] : List tTm.den) := by kernel_rfl
theorem clone_some (x : List tTm.den) : evBody T Tryz.f84 body84 PhiN 0 100084 (some x : Option (List tTm.den)) = bif okApp 16 2 0 x.length then some x else none := by kernel_rfl
theorem callee84 {E : Env} {x : InT T 84} {z : InT T 100084} (h : Go.Abs.Callee T E 84 x) : Go.Abs.Callee T E 100084 z :=
  ⟨h.j, h.m, h.om, h.acc, fun i k hi => h.hx i k (fun hm : i ∈ ([] : List Nat) => by cases hm), fun i => by
    have := h.ro i
    exact this⟩

theorem clone_at (o : Option (List tTm.den)) (y : List tTm.den) (h : evBody T Tryz.f84 body84 PhiN 0 100084 o = some y) : FnOkAt Tryz.prog T 100084 o y :=
  body_plain (v := 100084) prog_ok nofn nogen Tryz.func84 has84 (by kernel_rfl) rfl h

theorem base84 (x y : List tTm.den) (h : (bif okApp 16 2 0 x.length then some x else none) = some y) : FnOkAt Tryz.prog T 84 x y := by
  refine ⟨⟨_, Tryz.func84, by kernel_rfl, by kernel_rfl⟩, fun E ν args d hE hG hC hst hargs => ?_⟩
  have hs0 : ∀ z : InT T 84, startHs T 84 z = emptyH T := fun z => start_empty rfl
  have hs1 : ∀ z : InT T 100084, startHs T 100084 z = emptyH T := fun z => start_empty rfl
  have go : ∀ o : Option (List tTm.den), evBody T Tryz.f84 body84 PhiN 0 100084 o = some y → ArgsRel (view E (plainAS (emptyH T)) ν (fun _ => False) E.w0) [.v (.nsl tTm)] o args.toList → Calls Tryz.prog 84 args E.w0 (Go.Abs.Left T E 84 x y d) := fun o ho ha => by
    refine ((clone_at o y ho).2 E ν args d hE hG (callee84 hC) (by rw [hs1 o]; rw [hs0 x] at hst; exact hst) (by rw [hs1 o]; exact ha)).mono ?_
    rintro e w' ⟨r, ν', rfl, h1, h2⟩
    have e1 : endAS T 100084 d o y = plainAS (emptyH T) := (endAS_same (T := T) (v := 100084) rfl rfl).trans (congrArg plainAS (hs1 o))
    have e2 : endAS T 84 d x y = plainAS (emptyH T) := (endAS_same (T := T) (v := 84) rfl rfl).trans (congrArg plainAS (hs0 x))
    rw [e1] at h1 h2
    refine ⟨r, ν', rfl, by rw [e2]; exact h1, ?_⟩
    rw [e2]
    exact h2
  rw [hs0 x] at hst hargs
  obtain ⟨v, e1, A, c, yss, h1, h2, h3, h4, h5⟩ : ArgsRel _ [.v (.slice tTm)] x args.toList := hargs
  simp only [List.cons.injEq, and_true] at h1
  subst h1
  cases A with
  | none =>
    have hx : x = [] := List.eq_nil_of_length_eq_zero (Nat.le_zero.1 (by have h6 := h4 rfl; subst h6; exact h2))
    have hc := h4 rfl
    subst hx hc
    have hy : y = [] := by
      have h' : (some [] : Option (List tTm.den)) = some y := h
      simpa using h'.symm
    subst hy
    exact go none clone_none ⟨_, e1, rfl⟩
  | some ad =>
    refine go (some x) ((clone_some x).trans h) ⟨_, e1, ad, c, yss, rfl, h2, h3, fun j u hj => ?_⟩
    obtain ⟨ad', e2, hv⟩ := h5 j u hj
    cases e2
    exact hv

theorem base_ok : BaseOk Tryz.prog T B := fun v g hg => by
  unfold B at hg
  split at hg
  · cases hg
    exact ⟨rfl, base84⟩
  · cases hg
    exact ⟨rfl, base165⟩
  · cases hg
end Go.Proofs.YtofjebmoebhiiaaGreatDoor.Ev
