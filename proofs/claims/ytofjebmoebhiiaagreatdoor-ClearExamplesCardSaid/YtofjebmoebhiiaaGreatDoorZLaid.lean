/- What the two package variables of the engines hold, if they read as the program's text lays them. No condition. -/
import Derived.Test.YtofjebmoebhiiaaGreatDoorTie
import Derived.Test.YtofjebmoebhiiaaGreatDoorCards
import Derived.WalkKit
import Derived.ProofKit
import Derived.OpenShut
import Derived.ShutString
import Derived.ChangeOld
import Derived.Below
import Derived.SizedLaws
import Derived.LaidMore
import Derived.Stop.Joined
import Derived.Test.YtofjebmoebhiiaaGreatDoorXg
namespace Go.Proofs.YtofjebmoebhiiaaGreatDoor.clearLaid
open Go.ChangeShapes Go.WideShapes Go.ChangeAt Go.RowKit
set_option linter.unusedVariables false
set_option maxRecDepth 100000
abbrev laid : List (String × DataW Unit) := [("torus/clear.standard", Rows.laid_torus_clear_standard), ("torus/clear.twist", Rows.laid_torus_clear_twist)]
theorem own : ownKnob Tryz.prog.godebug = none := by kernel_rfl
theorem g0 : Tryz.prog.globalNamed "torus/clear.standard" = some 0 := by kernel_rfl
theorem g1 : Tryz.prog.globalNamed "torus/clear.twist" = some 1 := by kernel_rfl
theorem t0 : (Tryz.prog.globals[0]?).map (·.type) = some 86 := by kernel_rfl
theorem t1 : (Tryz.prog.globals[1]?).map (·.type) = some 86 := by kernel_rfl

theorem door_met (os : Os) (args : Array Value) : laidMetH Tryz.prog laid ((World.doorLaid Tryz.prog 19 os).forCall (fun _ _ => 0) ⟨#[], args, []⟩).memory :=
  laidMetH_of_parts3 (fuel := 8) (laidMet_of_run' 8 (by kernel_rfl) (by kernel_rfl)) (by kernel_rfl) (by kernel_rfl)

/-- What the condition gives: the cells of the two variables. -/
theorem of_laid {W : World} (h : laidMetH Tryz.prog laid W) : W.cell? ⟨0, 0, none⟩ = some (.func (.func 196) #[] #[]) ∧ W.cell? ⟨0, 1, none⟩ = some (.bool false) ∧
    W.cell? ⟨1, 0, none⟩ = some (.func (.func 198) #[] #[]) ∧ W.cell? ⟨1, 1, none⟩ = some (.bool true) := by
  have one : ∀ (name : String) (gn : Nat) (b0 : UInt8) (r : List UInt8) (b : Bool) (f0 : FuncId), (name, DataW.iface "func table" (.agg [.iface "func" (.lit (.string (b0 :: r))), .lit (.bool b)])) ∈ laid → Tryz.prog.globalNamed name = some gn → (Tryz.prog.globals[gn]?).map (·.type) = some 86 →
      (((List.range Tryz.prog.funcs.size).filter fun f => (Tryz.prog.funcs[f]?).any (·.name.toUTF8.data.toList == b0 :: r)) = [f0]) → W.cell? ⟨gn, 0, none⟩ = some (.func (.func f0) #[] #[]) ∧ W.cell? ⟨gn, 1, none⟩ = some (.bool b) := by
    intro name gn b0 r b f0 hm hgn htn hone
    obtain ⟨g, t, cs, fuel, p, hg, ht, hv, hd⟩ := h.funcs hm
    obtain rfl := Option.some.inj (hgn.symm.trans hg)
    obtain rfl := Option.some.inj (htn.symm.trans ht)
    have hd' : DataW.trod (funcToken Tryz.prog) Tryz.prog W 0 (fun _ => true) true fuel 86 cs.toList = some (.agg [.held (b0 :: r), .lit (.bool b)], p) := hd
    obtain ⟨y0, y1, n, hx, hl, h0, h1⟩ := trod_struct2 Tryz.underlying86 hd'
    have hl' : cs.toList.length = 2 := hl.trans (by kernel_rfl)
    obtain ⟨l⟩ := cs
    simp only at hl' h0 h1
    match l, hl' with
    | [c0, c1], _ =>
      have e84 : Tryz.prog.cellsOf 84 = 1 := by kernel_rfl
      have e4 : Tryz.prog.cellsOf 4 = 1 := by kernel_rfl
      rw [e84] at h0
      rw [e4] at h1
      simp only [Prod.mk.injEq, DataW.agg.injEq, List.cons.injEq, and_true] at hx
      have k0 : DataW.trod (funcToken Tryz.prog) Tryz.prog W 0 (fun _ => true) true n 84 [c0] = some (.held (b0 :: r), y0.2) := by
        have h0' : DataW.trod (funcToken Tryz.prog) Tryz.prog W 0 (fun _ => true) true n 84 [c0] = some y0 := h0
        rw [h0', hx.1.1]
      obtain rfl := func_of_trod (f0 := f0) Tryz.underlying84 hone k0
      have v0 := World.var?_cell hgn hv 0
      have v1 := World.var?_cell hgn hv 1
      obtain ⟨b', e1, e2⟩ := DataW.trod_bool Tryz.underlying4 (show DataW.trod (funcToken Tryz.prog) Tryz.prog W 0 (fun _ => true) true n 4 [c1] = some y1 from h1)
      simp only [List.cons.injEq, and_true] at e1
      subst e1
      have e3 := hx.1.2
      rw [e2] at e3
      simp only [DataW.lit.injEq, Lit.bool.injEq] at e3
      subst e3
      exact ⟨v0, v1⟩
  obtain ⟨a1, a2⟩ := one "torus/clear.standard" 0 _ _ false 196 (List.mem_cons_self ..) g0 t0 (by kernel_rfl)
  obtain ⟨a3, a4⟩ := one "torus/clear.twist" 1 _ _ true 198 (List.mem_cons_of_mem _ (List.mem_cons_self ..)) g1 t1 (by kernel_rfl)
  exact ⟨a1, a2, a3, a4⟩

theorem glob_ok {W : World} (h : laidMetH Tryz.prog laid W) : Go.Abs.GlobOk Ev.T (fun key u => ∃ ad : Addr, key = .cell ad ∧ ∃ ad' : Addr, Go.Abs.Key.cell ad = .cell ad' ∧ W.cell? ad' = some u) := by
  obtain ⟨a1, a2, a3, a4⟩ := of_laid h
  have one : ∀ (gn f0 : Nat) (b : Bool), W.cell? ⟨gn, 0, none⟩ = some (.func (.func f0) #[] #[]) → W.cell? ⟨gn, 1, none⟩ = some (.bool b) →
      Go.Abs.VelAt (fun key u => ∃ ad : Addr, key = .cell ad ∧ ∃ ad' : Addr, Go.Abs.Key.cell ad = .cell ad' ∧ W.cell? ad' = some u) [⟨.fn, f0 + 1⟩, ⟨.bool, b⟩] (.pointer (some ⟨gn, 0, none⟩)) := fun gn f0 b h1 h2 =>
    ⟨⟨gn, 0, none⟩, [.func (.func f0) #[] #[], .bool b], rfl, ⟨rfl, rfl, trivial⟩, fun j u hj => by
      match j, hj with
      | 0, hj => cases hj; exact ⟨_, rfl, _, rfl, h1⟩
      | 1, hj => cases hj; exact ⟨_, rfl, _, rfl, h2⟩
      | j + 2, hj => simp at hj⟩
  intro i x hx
  have hx' : Go.Abs.look [(1000000000, Go.Abs.AV.vel [⟨.fn, (197 : Nat)⟩, ⟨.bool, false⟩]), (1000000001, Go.Abs.AV.vel [⟨.fn, (199 : Nat)⟩, ⟨.bool, true⟩])] i = some x := hx
  have hm := Go.Abs.look_mem hx'
  simp only [List.mem_cons, List.not_mem_nil, or_false, Prod.mk.injEq] at hm
  rcases hm with ⟨rfl, rfl⟩ | ⟨rfl, rfl⟩
  · exact ⟨0, _, rfl, rfl, one 0 196 false a1 a2⟩
  · exact ⟨1, _, rfl, rfl, one 1 198 true a3 a4⟩
end Go.Proofs.YtofjebmoebhiiaaGreatDoor.clearLaid
