/- A part of the proof: a slice of texts as an argument; the law of powers and sums. No condition. -/
import Derived.Test.YtlpkaimkmfgpiaaXm
import Derived.SliceStrings
import Derived.SizedLaws
set_option linter.unusedVariables false
set_option linter.unusedSimpArgs false
namespace Go.Abs
open Go.ChangeShapes

theorem all2_map {α γ : Type} {R : α → γ → Prop} {f : α → γ} (h : ∀ x, R x (f x)) : ∀ l : List α, All2 R l (l.map f)
  | [] => trivial
  | x :: l => ⟨h x, all2_map h l⟩

theorem flat_str : ∀ l : List ByteArray, (l.map fun s => [Value.string s]).flatten = l.map Value.string
  | [] => rfl
  | s :: r => by simp only [List.map_cons, List.flatten_cons, List.singleton_append, flat_str r]

/-- A slice of texts as an argument. -/
theorem argStrs {W : World} {a : Option Addr} {len cap : Nat} {l : List ByteArray} (h : (a = none ∧ len = 0 ∧ cap = 0 ∧ l = []) ∨ ∃ x, a = some x ∧ len ≤ cap ∧ l.length = len ∧ ∀ i, i < len → W.cell? (x.add i) = some (.string (l.getD i ByteArray.empty))) :
    VRel (fun ad v => W.cell? ad = some v) (.slice .str) l (.slice a len cap) := by
  rcases h with ⟨rfl, rfl, rfl, rfl⟩ | ⟨x, rfl, hl, rfl, hc⟩
  · exact ⟨none, 0, [], rfl, Nat.le_refl _, trivial, fun _ => rfl, fun j u hj => by simp at hj⟩
  · refine ⟨some x, cap, l.map fun s => [Value.string s], rfl, hl, all2_map (R := Rel (fun ad v => W.cell? ad = some v) Ty.str) (f := fun s => [Value.string s]) (fun s => rfl) l, (fun e => by cases e), fun j u hj => ⟨x, rfl, ?_⟩⟩
    rw [flat_str, List.getElem?_map] at hj
    obtain ⟨s, hs, rfl⟩ := Option.map_eq_some_iff.1 hj
    have hj' : j < l.length := (List.getElem?_eq_some_iff.1 hs).1
    have := hc j hj'
    rw [List.getD, hs] at this
    exact this

theorem weights_strs {H : Type} {P : Program} {e : TypeId} {s : ByteArray} : ∀ {l : List ByteArray}, s ∈ l → s.data.toList.length ∈ DataW.weightsAll P e (strs (H := H) l)
  | t :: r, h => by
    simp only [strs, List.map_cons, DataW.weightsAll, DataW.weights, List.mem_append, List.mem_singleton]
    rcases List.mem_cons.1 h with rfl | h
    · exact .inl rfl
    · exact .inr (weights_strs h)

/-- Each text of a slice is of a size that the machine bears. -/
theorem sized_strs {H : Type} {P : Program} {ts : List TypeId} {ds : List (DataW H)} (h : (DataW.weightsEach P ts ds).all (· ≤ reachBytes) = true) {j : Nat} {t e : TypeId} {l r : List ByteArray} (ht : ts[j]? = some t) (hd : ds[j]? = some (.slice (strs l) (strs r))) (hu : P.underlying t = some (.slice e)) :
    ∀ s ∈ l, s.size ≤ 140737488351232 := fun s hs => by
  have := List.all_eq_true.1 h _ (DataW.weights_mem_each ht hd s.data.toList.length (by
    simp only [DataW.weights, hu, List.mem_cons, List.mem_append]
    exact .inr (.inl (weights_strs hs))))
  have h2 : s.data.toList.length ≤ reachBytes := by simpa using this
  rw [Array.length_toList] at h2
  exact h2
end Go.Abs
namespace Go.Proofs.Ytlpkaimkmfgpiaa.Ev
open Go.Abs
theorem WholePowersMatch_law (a : ByteArray) (n : Int) (l : List ByteArray) (ha : a.size ≤ 140737488351232) (hn : (Lit.int .i64 n).wf = true) (hl : ∀ s ∈ l, s.size ≤ 140737488351232) : toruslaw02_WholePowersMatch a n l = some true :=
  WholePowersMatch_ok (BigOk_of ha) (i64_wf hn).2 (fun s hs => BigOk_of (hl s hs))
end Go.Proofs.Ytlpkaimkmfgpiaa.Ev
