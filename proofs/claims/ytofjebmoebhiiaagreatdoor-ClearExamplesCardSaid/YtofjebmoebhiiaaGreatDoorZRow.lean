/- The law ClearExamples holds: with the engines' package variables as the program's text lays them, the call returns true and changes nothing that was there. No other condition. -/
import Derived.Test.YtofjebmoebhiiaaGreatDoorZLaid
import Derived.Test.YtofjebmoebhiiaaGreatDoorZBase
import Derived.Test.YtofjebmoebhiiaaGreatDoorXg
namespace Go.Proofs.YtofjebmoebhiiaaGreatDoor.clearExamples
open Go.ChangeShapes Go.WideShapes Go.ChangeAt Go.RowKit
set_option linter.unusedVariables false
set_option maxRecDepth 100000
theorem run : Ev.toruslaw22_ClearExamples = some true := Ev.toruslaw22_ClearExamples_P_ok 300 _ (by kernel_rfl)

theorem walk (W : World) (h : laidMetH Tryz.prog clearLaid.laid W) : Calls Tryz.prog 7 #[] W fun e w' => e = .returned (.bool true) ∧ Below W.heap.size W w' :=
  Go.Abs.walk3 (T := Ev.T) (V0 := fun key u => ∃ ad : Addr, key = .cell ad ∧ W.cell? ad = some u) (w := W) (v := 7) (xh := ()) (yh := true) ((Go.Abs.fnI_sound Ev.prog_ok Ev.base_ok Ev.fns_ok) 7 () true run rfl) rfl HEq.rfl
    (fun ad u ⟨ad', e, hc⟩ => by cases e; exact hc) (clearLaid.glob_ok h) rfl

theorem lifted (os : Os) (started : os.Started) (H : Type) (enc : TypeId × Value → H) :
    ReturnsInHanded {} Tryz.checked os 7 .any (fun w args => (Rows.clearExamplesSpec.pre enc Tryz.prog Tryz.f7 [] false w args ∧ laidMetH Tryz.prog clearLaid.laid w) ∧ sizedMet enc Tryz.prog Tryz.f7 (OpenSpec.ofChange Rows.clearExamplesSpec) false w args)
      (Rows.clearExamplesSpec.post enc Tryz.prog Tryz.f7 false true false false) := by
  refine returnsInHanded_of_change_and (C := Tryz.checked) (X := fun w _ => laidMetH Tryz.prog clearLaid.laid w) (fun _ _ _ hh h => h.of_heap hh) clearLaid.own started (by kernel_rfl) Tryz.func7
    (ChangeSpec.witness_shaped (enc := enc) (C := Tryz.checked) (os := os) (X := fun w _ => laidMetH Tryz.prog clearLaid.laid w) false (World.doorLaid Tryz.prog 19 os) #[] 8 rfl (World.shaped_of_RefB (by kernel_rfl) (by kernel_rfl)) (by kernel_rfl) (by kernel_rfl) (by kernel_rfl) (clearLaid.door_met os _)) ?_
  intro W base args ds gs before hval0 hW _ _ hL _
  have hW' := hW
  obtain ⟨p, q, hA0, hV, rfl, hfz, hnd⟩ := hW
  have hA : DataW.TrodAll enc Tryz.prog W 0 (fun _ => true) true Tryz.f7.params.toList args.toList ds p := hA0
  rw [Tryz.params7] at hA
  obtain ⟨rfl, rfl, rfl⟩ := trodAll_none hA
  obtain ⟨rfl, rfl⟩ := trodVars_none hV
  clear hA0 hval0
  refine (walk W hL).mono fun e W' ⟨he, bel⟩ => ?_
  subst he
  exact ⟨_, rfl, _, _, _, [], _, [], hW', trodAll_mk1 (shut_bool Tryz.underlying4 _), trodAll_mk0, rfl, bel.frame _, fun h => by cases h⟩

theorem over : Rows.clearExamplesRow.holds Tryz.pinned (OpenSpec.ofChange Rows.clearExamplesSpec) :=
  OpenClaim.holds_of_wide 7 Tryz.f7 rfl rfl rfl rfl rfl rfl rfl ⟨rfl, rfl, rfl, rfl, rfl⟩ rfl rfl rfl rfl rfl (by kernel_rfl) Tryz.func7 (by kernel_rfl)
    (of_decide_eq_true (by kernel_rfl)) (by unfold Func.isWrapper; first | (rw [if_pos (by decide +kernel)]; kernel_rfl) | (rw [if_neg (by decide +kernel)]; exact ⟨rfl, rfl⟩))
    (fun os started H enc _ => lifted os started H enc)

theorem card : Rows.ClearExamplesCardSaid :=
  Claim7.holds_tied_plain_at .later [] [.funcs, .funcs] true (true, "646fabaf2cebbacc9a084797f15646a8f53b2861734cfa52447632ca260b63f2") false
    over (fun _ h => by cases h) (by kernel_rfl) (fun _ h => by cases h) clearExamples_row_tie rfl ⟨rfl, rfl⟩ (by kernel_rfl) rfl
    (fun f fn hf hfn => by
      obtain rfl : f = 7 := Option.some.inj ((show Tryz.prog.funcNamed "torus/toruslaw22.ClearExamples" = some 7 by kernel_rfl).symm.trans hf) |>.symm
      obtain rfl : fn = Tryz.f7 := (Option.some.inj (Tryz.func7.symm.trans hfn)).symm
      exact ⟨by kernel_rfl, fun j t ht => by
        rw [Tryz.params7] at ht
        simp at ht⟩)
    (by kernel_rfl)
end Go.Proofs.YtofjebmoebhiiaaGreatDoor.clearExamples
namespace Go.Proofs.YtofjebmoebhiiaaGreatDoor
theorem clearExamples_holds : Rows.ClearExamplesCardSaid := clearExamples.card
#print axioms clearExamples_holds
end Go.Proofs.YtofjebmoebhiiaaGreatDoor
