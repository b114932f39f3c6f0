/- The law WholePowersMatch holds: for every input the function returns true and leaves its arguments as they were. No condition. -/
import Derived.Test.YtlpkaimkmfgpiaaRows
import Derived.SliceStrings
import Derived.Test.YtlpkaimkmfgpiaaXn
import Derived.WalkKit
import Derived.ProofKit
import Derived.OpenShut
import Derived.ShutString
import Derived.ChangeOld
import Derived.Below
import Derived.SizedLaws
namespace Go.Proofs.Ytlpkaimkmfgpiaa.wholePowersMatch
open Go.ChangeShapes Go.WideShapes Go.ChangeAt Go.RowKit
open Go.ChangeMaps (open_string shut_string)
set_option linter.unusedVariables false
theorem own : ownKnob Try.prog.godebug = none := by kernel_rfl
theorem laidOut : laidOutB Try.prog = true := by kernel_rfl
def IsStrs (W : World) (a : Option Addr) (len cap : Nat) (l : List ByteArray) : Prop :=
  (a = none ∧ len = 0 ∧ cap = 0 ∧ l = []) ∨ ∃ x, a = some x ∧ len ≤ cap ∧ l.length = len ∧ ∀ i, i < len → W.cell? (x.add i) = some (.string (l.getD i ByteArray.empty))
theorem walk (a0 : ByteArray) (a1 : Int) (p2 : Option Addr) (len2 cap2 : Nat) (a2 : List ByteArray) (W : World) (w0 : a0.size ≤ 140737488351232) (w1 : (Lit.int .i64 a1).wf = true) (w2 : IsStrs W p2 len2 cap2 a2) (y2 : ∀ s ∈ a2, s.size ≤ 140737488351232) : Calls Try.prog 3 #[.string a0, .int .i64 a1, .slice p2 len2 cap2] W fun e w' => e = .returned (.bool true) ∧ Below W.heap.size W w' :=
  Go.Abs.walk_of Ev.ev_ok (f := 3) rfl (x := (a0, a1, a2)) (y := true) (Ev.WholePowersMatch_law a0 a1 a2 w0 w1 y2) HEq.rfl (V0 := fun ad v => W.cell? ad = some v) (fun _ _ h => h) ⟨_, _, rfl, rfl, ⟨_, _, rfl, rfl, ⟨_, rfl, Go.Abs.argStrs w2⟩⟩⟩
set_option maxRecDepth 100000 in
theorem lifted (os : Os) (started : os.Started) (H : Type) (enc : TypeId × Value → H) :
    ReturnsInHanded {} Try.checked os 3 .any (Rows.wholePowersMatchSpec.pre6 enc Try.prog Try.f3 Rows.wholePowersMatchRow.domain false) (Rows.wholePowersMatchSpec.post enc Try.prog Try.f3 false true false false) := by
  refine returnsInHanded_of_change_sized (C := Try.checked) own started (by kernel_rfl) Try.func3
    (ChangeSpec.witness6 (enc := enc) (C := Try.checked) false ⟨#[], #[.string ByteArray.empty, .int .i64 0, .slice none 0 0], []⟩ 8 (by kernel_rfl) (by kernel_rfl) (by kernel_rfl) (by kernel_rfl)) ?_
  intro W base args ds gs before hval0 hW hcnd hsz0 _
  have hsz : (DataW.weightsEach Try.prog (Try.f3.params.toList ++ Rows.wholePowersMatchSpec.plain.varTypes Try.prog) (ds ++ gs)).all (· ≤ reachBytes) = true := hsz0
  have hval : ∀ (j : Nat) t v, Try.f3.params[j]? = some t → args[j]? = some v → Value.okWide Try.prog W .any base t v := hval0
  have hW' := hW
  obtain ⟨p, q, hA0, hV, rfl, hfz, hnd⟩ := hW
  have hA : DataW.TrodAll enc Try.prog W 0 (fun _ => true) true Try.f3.params.toList args.toList ds p := hA0
  rw [Try.params3] at hA hval hsz
  obtain ⟨v0, vs0, d0, ds0, q0_, q0, hargs, rfl, rfl, h0, r0⟩ := trodAll_cons hA
  obtain ⟨v1, vs1, d1, ds1, q1_, q1, rfl, rfl, rfl, h1, r1⟩ := trodAll_cons r0
  obtain ⟨v2, vs2, d2, ds2, q2_, q2, rfl, rfl, rfl, h2, r2⟩ := trodAll_cons r1
  obtain ⟨rfl, rfl, rfl⟩ := trodAll_nil r2
  obtain rfl : args = #[v0, v1, v2] := by cases args; simp_all
  obtain ⟨rfl, rfl⟩ := trodVars_none hV
  obtain ⟨a0, rfl, rfl, rfl, y0⟩ := open_string Try.underlying22 (hval 0 22 v0 rfl rfl) h0
  have w0 : a0.size ≤ 140737488351232 := by
    have z := sized_string hsz (j := 0) (t := 22) rfl rfl
    rw [Array.length_toList] at z
    exact z
  obtain ⟨a1, rfl, rfl, rfl, w1⟩ := open_int Try.underlying3 (hval 1 3 v1 rfl rfl) h1
  obtain ⟨p2, len2, cap2, rfl⟩ := okWide_slice Try.underlying23 (hval 2 23 v2 rfl rfl)
  have k2 := h2
  have lt2 : ∀ x ∈ q2_, x.block < W.heap.size := by obtain ⟨m, hm⟩ := k2; exact DataW.trod_lt m _ _ _ hm
  obtain ⟨a2, w2, y2⟩ : ∃ l, IsStrs W p2 len2 cap2 l ∧ ∀ s ∈ l, s.size ≤ 140737488351232 := by
    obtain ⟨fuel, hf⟩ := h2
    rcases open_strings Try.underlying23 Try.underlying22 (by kernel_rfl) hf with ⟨hcs, _⟩ | ⟨x, l, c, ss, hcs, _, hl, hm, hz, hx, hcell, _⟩
    · simp [Value.cells] at hcs
      obtain ⟨rfl, rfl, rfl⟩ := hcs
      exact ⟨[], .inl ⟨rfl, rfl, rfl, rfl⟩, fun s hs => by cases hs⟩
    · simp [Value.cells] at hcs
      obtain ⟨rfl, rfl, rfl⟩ := hcs
      have hz' : ss.length = cap2 := by simpa using hz
      have hdx := congrArg Prod.fst hx
      simp only at hdx
      subst hdx
      refine ⟨ss.take len2, .inr ⟨_, rfl, hl, by rw [List.length_take]; omega, fun j hj => ?_⟩, Go.Abs.sized_strs hsz (j := 2) (t := 23) rfl rfl Try.underlying23⟩
      rw [hcell j (by omega)]
      simp only [List.getD, List.getElem?_take, hj, if_true]
  clear hA0 hval0 hsz0 hsz
  refine (walk a0 a1 p2 len2 cap2 a2 W w0 w1 w2 y2).mono fun e W' ⟨he, bel⟩ => ?_
  subst he
  exact ⟨_, rfl, _, _, _, [], _, [], hW', trodAll_mk1 (shut_bool Try.underlying4 _), (trodAll_cons_mk (shut_string Try.underlying22 y0) (trodAll_cons_mk (shut_int Try.underlying3 w1) (trodAll_cons_mk (Below.trod laidOut (by kernel_rfl) (of_decide_eq_true (by kernel_rfl)) k2 bel lt2) trodAll_mk0))), rfl, bel.frame _, fun h => by cases h⟩
theorem over : Rows.wholePowersMatchRow.holds Try.pinned (OpenSpec.ofChange Rows.wholePowersMatchSpec) :=
  OpenClaim.holds_of_wide 3 Try.f3 rfl rfl rfl rfl rfl rfl rfl ⟨rfl, rfl, rfl, rfl, rfl⟩ rfl rfl rfl rfl rfl (by kernel_rfl) Try.func3 (by kernel_rfl)
    (of_decide_eq_true (by kernel_rfl)) (by unfold Func.isWrapper; first | (rw [if_pos (by decide +kernel)]; kernel_rfl) | (rw [if_neg (by decide +kernel)]; exact ⟨rfl, rfl⟩))
    (fun os started H enc _ => lifted os started H enc)
theorem proved : Rows.WholePowersMatchSaid := over
end Go.Proofs.Ytlpkaimkmfgpiaa.wholePowersMatch
namespace Go.Proofs.Ytlpkaimkmfgpiaa
theorem wholePowersMatch_holds : Rows.WholePowersMatchSaid := wholePowersMatch.proved
#print axioms wholePowersMatch_holds
end Go.Proofs.Ytlpkaimkmfgpiaa
