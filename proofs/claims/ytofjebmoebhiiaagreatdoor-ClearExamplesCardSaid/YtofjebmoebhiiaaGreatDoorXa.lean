/- YtofjebmoebhiiaaGreatDoorXa: a part of the proof (AbsV, AbsE, AbsS ..). No condition. -/
import Derived.Laws.AppendOwn
import Derived.Laws.MakeOwn
import Derived.Below
import Derived.Orders
import Derived.Laws.StructEq
import Derived.Lib.ConvBytes
import Derived.Laws.BytesString
set_option linter.unusedVariables false
namespace Go.Abs
inductive Ty where
  | int (k : IntKind) | bool | str | slice (t : Ty) | unit | pair (a b : Ty) | st (t : Ty) | ref (h : Nat) | ptr (h : Nat) | nsl (t : Ty) | mp (h : Nat) | fn
  deriving DecidableEq
@[reducible] def Ty.den : Ty → Type
  | .int _ => Int
  | .bool => Bool
  | .str => ByteArray
  | .slice t => List t.den
  | .unit => Unit
  | .pair a b => a.den × b.den
  | .st t => t.den
  | .ref _ => Nat
  | .ptr _ => Nat
  | .nsl t => Option (List t.den)
  | .mp _ => Nat
  | .fn => Nat
def Ty.size : Ty → Nat
  | .unit => 0
  | .pair a b => a.size + b.size
  | .st t => t.size
  | _ => 1
def Ty.leaf : Ty → Bool
  | .unit | .pair .. | .st _ => false
  | _ => true
def Ty.zero : (t : Ty) → t.den
  | .int _ => (0 : Int)
  | .bool => false
  | .str => ByteArray.empty
  | .slice t => ([] : List t.den)
  | .unit => ()
  | .pair a b => (a.zero, b.zero)
  | .st t => t.zero
  | .ref _ => (0 : Nat)
  | .ptr _ => (0 : Nat)
  | .nsl t => (none : Option (List t.den))
  | .mp _ => (0 : Nat)
  | .fn => (0 : Nat)
def All2 {α β : Type} (R : α → β → Prop) : List α → List β → Prop
  | [], [] => True
  | x :: xs, y :: ys => R x y ∧ All2 R xs ys
  | _, _ => False
section
variable {α β γ : Type} {R S : α → β → Prop}
theorem All2.length : ∀ {xs : List α} {ys : List β}, All2 R xs ys → xs.length = ys.length
  | [], [], _ => rfl
  | _ :: _, _ :: _, h => by simp [All2.length h.2]
  | [], _ :: _, h => h.elim
  | _ :: _, [], h => h.elim
theorem All2.mono (hRS : ∀ x y, R x y → S x y) : ∀ {xs : List α} {ys : List β}, All2 R xs ys → All2 S xs ys
  | [], [], _ => trivial
  | _ :: _, _ :: _, h => ⟨hRS _ _ h.1, All2.mono hRS h.2⟩
  | [], _ :: _, h => h.elim
  | _ :: _, [], h => h.elim
theorem All2.get : ∀ {xs : List α} {ys : List β}, All2 R xs ys → ∀ (i : Nat) x, xs[i]? = some x → ∃ y, ys[i]? = some y ∧ R x y
  | [], [], _, i, x, h => by simp at h
  | a :: as, b :: bs, h, 0, x, hx => ⟨b, by simp, by simp at hx; subst hx; exact h.1⟩
  | a :: as, b :: bs, h, i + 1, x, hx => by
    obtain ⟨y, hy, hr⟩ := All2.get h.2 i x (by simpa using hx)
    exact ⟨y, by simpa using hy, hr⟩
  | [], _ :: _, h, _, _, _ => h.elim
  | _ :: _, [], h, _, _, _ => h.elim
theorem All2.get' : ∀ {xs : List α} {ys : List β}, All2 R xs ys → ∀ (i : Nat) y, ys[i]? = some y → ∃ x, xs[i]? = some x ∧ R x y
  | [], [], _, i, x, h => by simp at h
  | a :: as, b :: bs, h, 0, y, hy => ⟨a, by simp, by simp at hy; subst hy; exact h.1⟩
  | a :: as, b :: bs, h, i + 1, y, hy => by
    obtain ⟨x, hx, hr⟩ := All2.get' h.2 i y (by simpa using hy)
    exact ⟨x, by simpa using hx, hr⟩
  | [], _ :: _, h, _, _, _ => h.elim
  | _ :: _, [], h, _, _, _ => h.elim
theorem All2.append : ∀ {xs : List α} {ys : List β} {xs' : List α} {ys' : List β}, All2 R xs ys → All2 R xs' ys' → All2 R (xs ++ xs') (ys ++ ys')
  | [], [], _, _, _, h => h
  | _ :: _, _ :: _, _, _, h, h' => ⟨h.1, All2.append h.2 h'⟩
  | [], _ :: _, _, _, h, _ => h.elim
  | _ :: _, [], _, _, h, _ => h.elim
theorem All2.split : ∀ {xs xs' : List α} {zs : List β}, All2 R (xs ++ xs') zs → ∃ ys ys', zs = ys ++ ys' ∧ All2 R xs ys ∧ All2 R xs' ys'
  | [], xs', zs, h => ⟨[], zs, rfl, trivial, h⟩
  | x :: xs, xs', z :: zs, h => by
    obtain ⟨ys, ys', rfl, h1, h2⟩ := All2.split (xs := xs) h.2
    exact ⟨z :: ys, ys', rfl, ⟨h.1, h1⟩, h2⟩
  | x :: xs, xs', [], h => h.elim
theorem All2.set : ∀ {xs : List α} {ys : List β} {i : Nat} {x : α} {y : β}, All2 R xs ys → R x y → All2 R (xs.set i x) (ys.set i y)
  | [], [], i, x, y, _, _ => trivial
  | _ :: _, _ :: _, 0, x, y, h, hr => ⟨hr, h.2⟩
  | _ :: _, _ :: _, i + 1, x, y, h, hr => ⟨h.1, All2.set h.2 hr⟩
  | [], _ :: _, _, _, _, h, _ => h.elim
  | _ :: _, [], _, _, _, h, _ => h.elim
theorem All2.drop : ∀ {xs : List α} {ys : List β} (i : Nat), All2 R xs ys → All2 R (xs.drop i) (ys.drop i)
  | xs, ys, 0, h => h
  | [], [], i + 1, h => trivial
  | _ :: _, _ :: _, i + 1, h => All2.drop i h.2
  | [], _ :: _, _, h => h.elim
  | _ :: _, [], _, h => h.elim
theorem All2.take : ∀ {xs : List α} {ys : List β} (i : Nat), All2 R xs ys → All2 R (xs.take i) (ys.take i)
  | [], [], 0, h => trivial
  | _ :: _, _ :: _, 0, h => trivial
  | [], [], i + 1, h => trivial
  | _ :: _, _ :: _, i + 1, h => ⟨h.1, All2.take i h.2⟩
  | [], _ :: _, _, h => h.elim
  | _ :: _, [], _, h => h.elim
theorem All2.replicate {x : α} {y : β} (h : R x y) : ∀ n, All2 R (List.replicate n x) (List.replicate n y)
  | 0 => trivial
  | n + 1 => ⟨h, All2.replicate h n⟩
theorem All2.map_left {f : γ → α} : ∀ {xs : List γ} {ys : List β}, All2 (fun x y => R (f x) y) xs ys → All2 R (xs.map f) ys
  | [], [], _ => trivial
  | _ :: _, _ :: _, h => ⟨h.1, All2.map_left h.2⟩
  | [], _ :: _, h => h.elim
  | _ :: _, [], h => h.elim
end
inductive Key where
  | cell (a : Addr) | ref (h n : Nat)
instance : Coe Addr Key := ⟨Key.cell⟩
abbrev View := Key → Value → Prop
def isSl (v : Value) : Prop := ∃ a n c, v = .slice (some a) n c
def isPt (v : Value) : Prop := ∃ a, v = .pointer (some a)
def isMp (v : Value) : Prop := ∃ a, v = .map (some a)
def fnV : Nat → Value
  | 0 => .nilFunc
  | f + 1 => .func (.func f) #[] #[]
def Rel (V : View) : (t : Ty) → t.den → List Value → Prop
  | .int k, x, cs => cs = [.int k x]
  | .bool, x, cs => cs = [.bool x]
  | .str, x, cs => cs = [.string x]
  | .slice t, xs, cs => ∃ (A : Option Addr) (c : Nat) (yss : List (List Value)), cs = [.slice A (List.length xs) c] ∧ List.length xs ≤ c ∧ All2 (Rel V t) xs yss ∧
      (A = none → c = 0) ∧ ∀ j u, yss.flatten[j]? = some u → ∃ ad, A = some ad ∧ V (ad.add j) u
  | .unit, _, cs => cs = []
  | .pair a b, x, cs => ∃ c1 c2, cs = c1 ++ c2 ∧ Rel V a x.1 c1 ∧ Rel V b x.2 c2
  | .st t, x, cs => Rel V t x cs
  | .ref h, n, cs => match (n : Nat) with
    | 0 => cs = [.slice none 0 0]
    | m + 1 => ∃ v, cs = [v] ∧ isSl v ∧ V (.ref h (m + 1)) v
  | .ptr h, n, cs => match (n : Nat) with
    | 0 => cs = [.pointer none]
    | m + 1 => ∃ v, cs = [v] ∧ isPt v ∧ V (.ref h (m + 1)) v
  | .nsl t, xs, cs => match xs with
    | none => cs = [.slice none 0 0]
    | some xs => ∃ (ad : Addr) (c : Nat) (yss : List (List Value)), cs = [.slice (some ad) (List.length xs) c] ∧ List.length xs ≤ c ∧ All2 (Rel V t) xs yss ∧
      ∀ j u, yss.flatten[j]? = some u → V (ad.add j) u
  | .mp h, n, cs => match (n : Nat) with
    | 0 => cs = [.map none]
    | m + 1 => ∃ v, cs = [v] ∧ isMp v ∧ V (.ref h (m + 1)) v
  | .fn, f, cs => cs = [fnV f]
theorem Rel.mono {V V' : View} (h : ∀ a v, V a v → V' a v) : ∀ (t : Ty) (x : t.den) (cs : List Value), Rel V t x cs → Rel V' t x cs
  | .int k, x, cs, hr => hr
  | .bool, x, cs, hr => hr
  | .str, x, cs, hr => hr
  | .slice t, xs, cs, ⟨A, c, yss, h1, h2, h3, h5, h4⟩ => ⟨A, c, yss, h1, h2, h3.mono (Rel.mono h t), h5, fun j u hj => let ⟨ad, e, hv⟩ := h4 j u hj; ⟨ad, e, h _ _ hv⟩⟩
  | .unit, _, cs, hr => hr
  | .pair a b, x, cs, ⟨c1, c2, e, h1, h2⟩ => ⟨c1, c2, e, Rel.mono h a _ _ h1, Rel.mono h b _ _ h2⟩
  | .st t, x, cs, hr => Rel.mono h t x cs hr
  | .ref _, 0, _, hr => hr
  | .ref _, _ + 1, _, ⟨v, e, hs, hv⟩ => ⟨v, e, hs, h _ _ hv⟩
  | .ptr _, 0, _, hr => hr
  | .ptr _, _ + 1, _, ⟨v, e, hs, hv⟩ => ⟨v, e, hs, h _ _ hv⟩
  | .mp _, 0, _, hr => hr
  | .mp _, _ + 1, _, ⟨v, e, hs, hv⟩ => ⟨v, e, hs, h _ _ hv⟩
  | .fn, _, _, hr => hr
  | .nsl t, none, cs, hr => hr
  | .nsl t, some xs, cs, ⟨ad, c, yss, h1, h2, h3, h4⟩ => ⟨ad, c, yss, h1, h2, h3.mono (Rel.mono h t), fun j u hj => h _ _ (h4 j u hj)⟩
theorem Rel.length {V : View} : ∀ {t : Ty} {x : t.den} {cs : List Value}, Rel V t x cs → cs.length = t.size
  | .int k, x, cs, hr => by have : cs = _ := hr; subst this; rfl
  | .bool, x, cs, hr => by have : cs = _ := hr; subst this; rfl
  | .str, x, cs, hr => by have : cs = _ := hr; subst this; rfl
  | .slice t, xs, cs, ⟨A, c, yss, h1, _⟩ => by subst h1; rfl
  | .unit, _, cs, hr => by have : cs = _ := hr; subst this; rfl
  | .pair a b, x, cs, ⟨c1, c2, e, h1, h2⟩ => by subst e; simp [Ty.size, Rel.length h1, Rel.length h2]
  | .st t, x, cs, hr => Rel.length (t := t) hr
  | .ref _, 0, cs, hr => by have : cs = _ := hr; subst this; rfl
  | .ref _, _ + 1, _, ⟨v, e, _⟩ => by subst e; rfl
  | .ptr _, 0, cs, hr => by have : cs = _ := hr; subst this; rfl
  | .ptr _, _ + 1, _, ⟨v, e, _⟩ => by subst e; rfl
  | .mp _, 0, cs, hr => by have : cs = _ := hr; subst this; rfl
  | .mp _, _ + 1, _, ⟨v, e, _⟩ => by subst e; rfl
  | .fn, _, cs, hr => by have : cs = _ := hr; subst this; rfl
  | .nsl t, none, cs, hr => by have : cs = _ := hr; subst this; rfl
  | .nsl t, some xs, cs, ⟨ad, c, yss, h1, _⟩ => by subst h1; rfl
abbrev CV := (t : Ty) × t.den
def LRel (V : View) (c : CV) (v : Value) : Prop := Rel V c.1 c.2 [v]
theorem LRel.mono {V V' : View} (h : ∀ a v, V a v → V' a v) (c : CV) (v : Value) (hr : LRel V c v) : LRel V' c v := Rel.mono h _ _ _ hr
def flat : (t : Ty) → t.den → List CV
  | .unit, _ => []
  | .pair a b, x => flat a x.1 ++ flat b x.2
  | .st t, x => flat t x
  | .int k, x => [⟨.int k, x⟩]
  | .bool, x => [⟨.bool, x⟩]
  | .str, x => [⟨.str, x⟩]
  | .slice t, x => [⟨.slice t, x⟩]
  | .ref h, x => [⟨.ref h, x⟩]
  | .ptr h, x => [⟨.ptr h, x⟩]
  | .nsl t, x => [⟨.nsl t, x⟩]
  | .mp h, x => [⟨.mp h, x⟩]
  | .fn, x => [⟨.fn, x⟩]
theorem rel_flat {V : View} : ∀ {t : Ty} {x : t.den} {cs : List Value}, Rel V t x cs → All2 (LRel V) (flat t x) cs
  | .int k, x, cs, hr => by have : cs = _ := hr; subst this; exact ⟨hr, trivial⟩
  | .bool, x, cs, hr => by have : cs = _ := hr; subst this; exact ⟨hr, trivial⟩
  | .str, x, cs, hr => by have : cs = _ := hr; subst this; exact ⟨hr, trivial⟩
  | .slice t, xs, cs, hr => by have h' := hr; obtain ⟨A, c, yss, h1, _⟩ := h'; subst h1; exact ⟨hr, trivial⟩
  | .unit, _, cs, hr => by have : cs = _ := hr; subst this; trivial
  | .pair a b, x, cs, ⟨c1, c2, e, h1, h2⟩ => by subst e; exact All2.append (rel_flat h1) (rel_flat h2)
  | .st t, x, cs, hr => rel_flat (t := t) hr
  | .ref _, 0, cs, hr => by have : cs = _ := hr; subst this; exact ⟨hr, trivial⟩
  | .ref _, _ + 1, _, ⟨v, e, hv⟩ => by subst e; exact ⟨⟨v, rfl, hv⟩, trivial⟩
  | .ptr _, 0, cs, hr => by have : cs = _ := hr; subst this; exact ⟨hr, trivial⟩
  | .ptr _, _ + 1, _, ⟨v, e, hv⟩ => by subst e; exact ⟨⟨v, rfl, hv⟩, trivial⟩
  | .mp _, 0, cs, hr => by have : cs = _ := hr; subst this; exact ⟨hr, trivial⟩
  | .mp _, _ + 1, _, ⟨v, e, hv⟩ => by subst e; exact ⟨⟨v, rfl, hv⟩, trivial⟩
  | .fn, x, cs, hr => by have : cs = _ := hr; subst this; exact ⟨hr, trivial⟩
  | .nsl t, none, cs, hr => by have : cs = _ := hr; subst this; exact ⟨hr, trivial⟩
  | .nsl t, some xs, cs, hr => by have h' := hr; obtain ⟨ad, c, yss, h1, _⟩ := h'; subst h1; exact ⟨hr, trivial⟩
theorem rel_of_flat {V : View} : ∀ {t : Ty} {x : t.den} {cs : List Value}, All2 (LRel V) (flat t x) cs → Rel V t x cs
  | .int k, x, [v], h => h.1
  | .bool, x, [v], h => h.1
  | .str, x, [v], h => h.1
  | .slice t, xs, [v], h => h.1
  | .ref _, _, [v], h => h.1
  | .ptr _, _, [v], h => h.1
  | .nsl _, _, [v], h => h.1
  | .mp _, _, [v], h => h.1
  | .fn, _, [v], h => h.1
  | .nsl _, _, [], h => h.elim
  | .mp _, _, [], h => h.elim
  | .fn, _, [], h => h.elim
  | .nsl _, _, _ :: _ :: _, h => h.2.elim
  | .mp _, _, _ :: _ :: _, h => h.2.elim
  | .fn, _, _ :: _ :: _, h => h.2.elim
  | .ref _, _, [], h => h.elim
  | .ptr _, _, [], h => h.elim
  | .ref _, _, _ :: _ :: _, h => h.2.elim
  | .ptr _, _, _ :: _ :: _, h => h.2.elim
  | .int k, x, [], h => h.elim
  | .bool, x, [], h => h.elim
  | .str, x, [], h => h.elim
  | .slice t, xs, [], h => h.elim
  | .int k, x, _ :: _ :: _, h => h.2.elim
  | .bool, x, _ :: _ :: _, h => h.2.elim
  | .str, x, _ :: _ :: _, h => h.2.elim
  | .slice t, xs, _ :: _ :: _, h => h.2.elim
  | .unit, _, [], h => rfl
  | .unit, _, _ :: _, h => h.elim
  | .pair a b, x, cs, h => by
    obtain ⟨c1, c2, rfl, h1, h2⟩ := All2.split (xs := flat a x.1) h
    exact ⟨c1, c2, rfl, rel_of_flat h1, rel_of_flat h2⟩
  | .st t, x, cs, h => rel_of_flat (t := t) h
def unleaf (t : Ty) : List CV → Option (t.den × List CV)
  | ⟨t', x⟩ :: r => if h : t' = t then some (h ▸ x, r) else none
  | [] => none
def unflat : (t : Ty) → List CV → Option (t.den × List CV)
  | .unit, l => some ((), l)
  | .pair a b, l => match unflat a l with
    | some (x, l') => match unflat b l' with
      | some (y, l'') => some ((x, y), l'')
      | none => none
    | none => none
  | .st t, l => unflat t l
  | .int k, l => unleaf (.int k) l
  | .bool, l => unleaf .bool l
  | .str, l => unleaf .str l
  | .slice t, l => unleaf (.slice t) l
  | .ref h, l => unleaf (.ref h) l
  | .ptr h, l => unleaf (.ptr h) l
  | .nsl t, l => unleaf (.nsl t) l
  | .mp h, l => unleaf (.mp h) l
  | .fn, l => unleaf .fn l
theorem unleaf_eq {t : Ty} {l : List CV} {x : t.den} {r : List CV} (h : unleaf t l = some (x, r)) : l = ⟨t, x⟩ :: r := by
  cases l with
  | nil => simp [unleaf] at h
  | cons c l =>
    obtain ⟨t', y⟩ := c
    simp only [unleaf] at h
    split at h
    · rename_i e
      subst e
      simp only [Option.some.injEq, Prod.mk.injEq] at h
      obtain ⟨rfl, rfl⟩ := h
      rfl
    · simp at h
theorem unflat_eq : ∀ {t : Ty} {l : List CV} {x : t.den} {r : List CV}, unflat t l = some (x, r) → l = flat t x ++ r
  | .unit, l, x, r, h => by simp [unflat] at h; simp [flat, h]
  | .pair a b, l, x, r, h => by
    simp only [unflat] at h
    split at h
    · rename_i y l' h1
      split at h
      · rename_i z l'' h2
        simp only [Option.some.injEq, Prod.mk.injEq] at h
        obtain ⟨rfl, rfl⟩ := h
        rw [unflat_eq h1, unflat_eq h2]
        simp [flat]
      · simp at h
    · simp at h
  | .st t, l, x, r, h => unflat_eq (t := t) h
  | .int k, l, x, r, h => unleaf_eq h
  | .bool, l, x, r, h => unleaf_eq h
  | .str, l, x, r, h => unleaf_eq h
  | .slice t, l, x, r, h => unleaf_eq h
  | .ref _, l, x, r, h => unleaf_eq h
  | .ptr _, l, x, r, h => unleaf_eq h
  | .nsl _, l, x, r, h => unleaf_eq h
  | .mp _, l, x, r, h => unleaf_eq h
  | .fn, l, x, r, h => unleaf_eq h
def unflat1 (t : Ty) (l : List CV) : Option t.den :=
  match unflat t l with
  | some (x, []) => some x
  | _ => none
theorem unflat1_eq {t : Ty} {l : List CV} {x : t.den} (h : unflat1 t l = some x) : l = flat t x := by
  unfold unflat1 at h
  split at h
  · rename_i y h1
    simp only [Option.some.injEq] at h
    subst h
    simpa using unflat_eq h1
  · simp at h
theorem flat_length : ∀ {t : Ty} {x : t.den}, (flat t x).length = t.size
  | .unit, _ => rfl
  | .pair a b, x => by simp [flat, Ty.size, flat_length]
  | .st t, x => flat_length (t := t)
  | .int _, _ => rfl
  | .bool, _ => rfl
  | .str, _ => rfl
  | .slice _, _ => rfl
  | .ref _, _ => rfl
  | .ptr _, _ => rfl
  | .nsl _, _ => rfl
  | .mp _, _ => rfl
  | .fn, _ => rfl
def wrap (t : Ty) (cs : List Value) : Value := match t with
  | .st _ => .agg cs.toArray
  | _ => cs.headD undef
theorem lrel_one {V : View} {c : CV} {v : Value} (h : LRel V c v) : v.oneCell' = true := by
  obtain ⟨t, x⟩ := c
  unfold LRel at h
  induction t with
  | int k => have : [v] = _ := h; simp at this; subst this; rfl
  | bool => have : [v] = _ := h; simp at this; subst this; rfl
  | str => have : [v] = _ := h; simp at this; subst this; rfl
  | slice t ih => obtain ⟨A, c, yss, h1, _⟩ := h; simp at h1; subst h1; rfl
  | unit => have : [v] = _ := h; simp at this
  | pair a b iha ihb =>
    obtain ⟨c1, c2, e, h1, h2⟩ := h
    cases c1 with
    | nil => simp at e; subst e; exact ihb _ h2
    | cons y ys =>
      simp at e
      obtain ⟨rfl, h3⟩ := e
      obtain ⟨rfl, rfl⟩ := h3
      exact iha _ h1
  | st t ih => exact ih x h
  | ref _ =>
    cases x with
    | zero => have : [v] = _ := h; simp at this; subst this; rfl
    | succ m => obtain ⟨u, e, hs, _⟩ := h; simp at e; subst e; obtain ⟨a, n, c, rfl⟩ := hs; rfl
  | ptr _ =>
    cases x with
    | zero => have : [v] = _ := h; simp at this; subst this; rfl
    | succ m => obtain ⟨u, e, hs, _⟩ := h; simp at e; subst e; obtain ⟨a, rfl⟩ := hs; rfl
  | mp _ =>
    cases x with
    | zero => have : [v] = _ := h; simp at this; subst this; rfl
    | succ m => obtain ⟨u, e, hs, _⟩ := h; simp at e; subst e; obtain ⟨a, rfl⟩ := hs; rfl
  | fn => have : [v] = _ := h; simp at this; subst this; cases x <;> rfl
  | nsl t ih =>
    cases x with
    | none => have : [v] = _ := h; simp at this; subst this; rfl
    | some xs => obtain ⟨ad, c, yss, h1, _⟩ := h; simp at h1; subst h1; rfl
theorem lrel_cells {V : View} {c : CV} {v : Value} (h : LRel V c v) : v.cells = #[v] := by
  have := lrel_one h
  cases v <;> first | rfl | (simp [Value.oneCell'] at this)
end Go.Abs
namespace Go.Abs
structure Row where
  e : TypeId
  t : Ty
  xs : List t.den
inductive BX where
  | cells (l : List CV) | own (r : Nat) | nil
inductive Cap where
  | box (b : Nat) | vel (cs : List CV)
inductive RV where
  | cv (c : CV) | agg (cs : List CV) | own (r : Nat)
inductive AV where
  | rv (x : RV)
  | lit (v : Value)
  | box (b off : Nat)
  | oel (r sz i off : Nat)
  | vel (cs : List CV)
  | hel (h n i off : Nat)
  | fn (f : FuncId) (caps : List Cap)
  | yld
  | tup (l : List RV)
  | nil
structure Slots where
  n : Nat
  l : List (Nat × AV)
  s : List (Nat × AV)
structure HRow where
  e : TypeId
  t : Ty
  k : Nat
  w : Bool
  xs : List (Option (List t.den))
@[reducible] def prodT : List Ty → Ty
  | [] => .unit
  | t :: ts => .pair t (prodT ts)
structure Rng where
  ts : List Ty
  xs : List (prodT ts).den
inductive Site where
  | nsl | heap (h : Nat) | vid (v : Nat)
structure AS where
  tmps : Slots
  rows : List (Nat × Row)
  boxes : List (Nat × BX)
  heaps : List HRow
  trace : CV
  rngs : List Rng
  sites : List (Nat × Site)
structure TRow where
  id : TypeId
  ty : Ty
  bytes : Nat
  elem : TypeId
  flds : List (Nat × Nat)
  arr : Bool
@[reducible] def DenL : List Ty → Type
  | [] => Unit
  | [a] => a.den
  | a :: b :: r => a.den × DenL (b :: r)
inductive ArgT where
  | v (t : Ty) | fn (f : FuncId) (ts : List Ty) | c (l : List CV) | rp (t : Ty) | bx (t : Ty) | yld
@[reducible] def ArgT.den : ArgT → Type
  | .v t => t.den
  | .fn _ ts => DenL ts
  | .c _ => Unit
  | .rp t => t.den
  | .bx t => t.den
  | .yld => Unit
@[reducible] def DenA : List ArgT → Type
  | [] => Unit
  | [a] => a.den
  | a :: b :: r => a.den × DenA (b :: r)
abbrev ResT := Ty × Option TypeId
structure Sig where
  args : List ArgT
  res : List ResT
  clo : Option (FuncId × List Ty)
  heaps : List (Nat × Bool)
  gen : Option (List Ty)
@[reducible] def SigR (s : Sig) : Type := match s.gen with
  | some ts => List (prodT ts).den
  | none => match s.clo with
    | some (_, ts) => DenL ts
    | none => DenL (s.res.map (·.1))
structure HT where
  e : TypeId
  t : Ty
  k : Nat
structure Tab where
  rows : List TRow
  heaps : List HT
  real : Nat → FuncId
  sig : Nat → Sig
  cand : FuncId → List Nat
  hint : Nat → List (List (Nat × Bool))
  sites : Nat → List (Nat × Site)
  globs : List (Nat × AV)
  eqs : List TypeId
def findT : List TRow → TypeId → Option TRow
  | [], _ => none
  | r :: rs, t => bif Nat.beq r.id t then some r else findT rs t
def Tab.ht (T : Tab) (h : Nat) : HT := (T.heaps[h]?).getD ⟨0, .unit, 0⟩
@[reducible] def HX (T : Tab) (h : Nat) : Type := List (Option (List (T.ht h).t.den))
@[reducible] def HDen (T : Tab) : List Nat → Type
  | [] => Unit
  | [h] => HX T h
  | h :: i :: r => HX T h × HDen T (i :: r)
@[reducible] def WithH (T : Tab) (A : Type) : List Nat → Type
  | [] => A
  | h :: r => A × HDen T (h :: r)
@[reducible] def Sig.hin (s : Sig) : List Nat := s.heaps.map (·.1)
@[reducible] def Sig.hout (s : Sig) : List Nat := (s.heaps.filter (·.2)).map (·.1)
@[reducible] def InT (T : Tab) (v : Nat) : Type := WithH T (DenA (T.sig v).args) (T.sig v).hin
@[reducible] def OutT (T : Tab) (v : Nat) : Type := WithH T (SigR (T.sig v)) (T.sig v).hout
abbrev PhiT (T : Tab) := (v : Nat) → InT T v → Option (OutT T v)
def withH {T : Tab} {A : Type} (x : A) : (hs : List Nat) → Option (HDen T hs) → Option (WithH T A hs)
  | [], _ => some x
  | _ :: _, some h => some (x, h)
  | _ :: _, none => none
def fstH {T : Tab} {A : Type} : (hs : List Nat) → WithH T A hs → A
  | [], x => x
  | _ :: _, x => x.1
def sndH {T : Tab} {A : Type} : (hs : List Nat) → WithH T A hs → HDen T hs
  | [], x => ()
  | _ :: _, x => x.2
def castH {s t : Ty} (h : s = t) (xs : List (Option (List s.den))) : List (Option (List t.den)) := h ▸ xs
def getH1 (T : Tab) (heaps : List HRow) (h : Nat) : Option (HX T h) := match heaps[h]? with
  | some r => if e : r.t = (T.ht h).t then some (castH e r.xs) else none
  | none => none
def getH (T : Tab) (heaps : List HRow) : (hs : List Nat) → Option (HDen T hs)
  | [] => some ()
  | [h] => getH1 T heaps h
  | h :: i :: r => match getH1 T heaps h with
    | some x => match getH T heaps (i :: r) with
      | some y => some (x, y)
      | none => none
    | none => none
def putH1 (T : Tab) (w : Bool) (heaps : List HRow) (h : Nat) (x : HX T h) : List HRow := heaps.set h ⟨(T.ht h).e, (T.ht h).t, (T.ht h).k, w, x⟩
def putH (T : Tab) (wr : List Nat) : (hs : List Nat) → HDen T hs → List HRow → List HRow
  | [], _, heaps => heaps
  | [h], x, heaps => putH1 T (wr.any (Nat.beq h)) heaps h x
  | h :: i :: r, x, heaps => putH T wr (i :: r) x.2 (putH1 T (wr.any (Nat.beq h)) heaps h x.1)
def emptyH (T : Tab) : List HRow := T.heaps.map fun h => ⟨h.e, h.t, h.k, true, []⟩
def look {α : Type} : List (Nat × α) → Nat → Option α
  | [], _ => none
  | (k, v) :: r, j => bif Nat.beq k j then some v else look r j
def put {α : Type} : List (Nat × α) → Nat → α → List (Nat × α)
  | [], j, v => [(j, v)]
  | (k, u) :: r, j, v => bif Nat.blt j k then (j, v) :: (k, u) :: r else bif Nat.beq k j then (j, v) :: r else (k, u) :: put r j v
def del {α : Type} : List (Nat × α) → Nat → List (Nat × α)
  | [], _ => []
  | (k, u) :: r, j => bif Nat.beq k j then del r j else (k, u) :: del r j
def putD {α : Type} : List (Nat × α) → Nat → α → List (Nat × α)
  | [], j, v => [(j, v)]
  | (k, u) :: r, j, v => bif Nat.blt k j then (j, v) :: (k, u) :: r else bif Nat.beq k j then (j, v) :: r else (k, u) :: putD r j v
def setD {α : Type} : List (Nat × α) → Nat → α → List (Nat × α)
  | [], _, _ => []
  | (k, u) :: r, j, v => bif Nat.beq k j then (k, v) :: r else (k, u) :: setD r j v
def hget {α : Type} (xs : List (Option (List α))) : Nat → Option (List α)
  | 0 => some []
  | m + 1 => match xs[m]? with
    | some o => o
    | none => none
def hset {α : Type} (xs : List (Option (List α))) : Nat → List α → List (Option (List α))
  | 0, _ => xs
  | m + 1, l => xs.set m (some l)
def hkill {α : Type} (xs : List (Option (List α))) : Nat → List (Option (List α))
  | 0 => xs
  | m + 1 => xs.set m none
def hk (h : Nat) : Nat := 4 * (1000000000 + h)
def gk (g : Nat) : Nat := 1000000000 + g
def nth (s : Slots) (i : Nat) : AV :=
  match look s.l i with
  | some x => x
  | none => .nil
def setN (s : Slots) (i : Nat) (v : AV) : Slots := bif Nat.blt i s.n then ⟨s.n, putD s.l i v, s.s⟩ else s
def mapD (f : AV → AV) (l : List (Nat × AV)) : List (Nat × AV) := l.map fun p => (p.1, f p.2)
def Slots.map (f : AV → AV) (s : Slots) : Slots := ⟨s.n, mapD f s.l, mapD f s.s⟩
def enumD {α : Type} : Nat → List α → List (Nat × α) → List (Nat × α)
  | _, [], acc => acc
  | i, x :: r, acc => enumD (i + 1) r ((i, x) :: acc)
def Slots.of (l : List AV) (m : Nat) (s : List (Nat × AV)) : Slots := ⟨l.length + m, enumD 0 l [], s⟩
def ofConst : Value → AV
  | .int k n => .rv (.cv ⟨.int k, n⟩)
  | .bool b => .rv (.cv ⟨.bool, b⟩)
  | .string s => .rv (.cv ⟨.str, s⟩)
  | v => .lit v
def Slots.av (s : Slots) : Operand → AV
  | .tmp t => nth s t
  | .const v => ofConst v
  | .func f => .fn f []
  | .global g => match look s.s (gk g) with
    | some x => x
    | none => .nil
abbrev AS.av (σ : AS) (x : Operand) : AV := σ.tmps.av x
def AS.putd (σ : AS) (d : Option Tmp) (v : AV) : AS :=
  match d with
  | some d => { σ with tmps := setN σ.tmps d v }
  | none => σ
def idx {α : Type} (xs : List α) (i : Int) : Option α :=
  match i with
  | .ofNat n => xs[n]?
  | .negSucc _ => none
def sidx (s : ByteArray) (i : Int) : Option Int :=
  match i with
  | .ofNat n => s[n]?.map fun b => (b.toNat : Int)
  | .negSucc _ => none
def inCut (n : Nat) (l h : Int) : Bool := decide (0 ≤ l) && decide (l ≤ h) && decide (h ≤ n)
def cut {α : Type} (xs : List α) (l h : Int) : List α := (xs.take h.toNat).drop l.toNat
def bytesOf (s : ByteArray) : List Int := s.data.toList.map fun b => (b.toNat : Int)
def strOf (xs : List Int) : ByteArray := ⟨(xs.map fun n => UInt8.ofNat n.toNat).toArray⟩
def litFlat : (t : Ty) → List Value → Option (List CV × List Value)
  | .unit, l => some ([], l)
  | .pair a b, l => match litFlat a l with
    | some (x, l') => match litFlat b l' with
      | some (y, l'') => some (x ++ y, l'')
      | none => none
    | none => none
  | .st t, l => litFlat t l
  | .int k, .int k' n :: l => if k = k' then some ([⟨.int k, n⟩], l) else none
  | .bool, .bool b :: l => some ([⟨.bool, b⟩], l)
  | .str, .string s :: l => some ([⟨.str, s⟩], l)
  | .slice t, .slice none 0 0 :: l => some ([⟨.slice t, ([] : List t.den)⟩], l)
  | .ref h, .slice none 0 0 :: l => some ([⟨.ref h, (0 : Nat)⟩], l)
  | .ptr h, .pointer none :: l => some ([⟨.ptr h, (0 : Nat)⟩], l)
  | .mp h, .map none :: l => some ([⟨.mp h, (0 : Nat)⟩], l)
  | .nsl t, .slice none 0 0 :: l => some ([⟨.nsl t, (none : Option (List t.den))⟩], l)
  | .fn, .nilFunc :: l => some ([⟨.fn, (0 : Nat)⟩], l)
  | _, _ => none
def cells (t : Ty) : AV → Option (List CV)
  | .rv (.cv c) => some [c]
  | .rv (.agg cs) => some cs
  | .lit v => match litFlat t v.cells.toList with
    | some (cs, []) => some cs
    | _ => none
  | _ => none
def lst {α : Type} : Option (List α) → List α
  | some xs => xs
  | none => []
def allSome {α β : Type} (f : α → Option β) : List α → Option (List β)
  | [] => some []
  | x :: r => match f x with
    | some y => match allSome f r with
      | some l => some (y :: l)
      | none => none
    | none => none
def snapSl (heaps : List HRow) (t : Ty) (f : (u : Ty) → u.den → Option t.den) : List CV → Option (List t.den × List CV)
  | ⟨.ref h, n⟩ :: l => bif Nat.beq n 0 then some ([], l) else match heaps[h]? with
    | some hr => (hget hr.xs n).bind fun ys => (allSome (f hr.t) ys).bind fun xs => some (xs, l)
    | none => none
  | ⟨.nsl t', o⟩ :: l => (unleaf (.slice t) [⟨.slice t', lst o⟩]).map fun p => (p.1, l)
  | l => unleaf (.slice t) l
def snapNsl (t : Ty) : List CV → Option (Option (List t.den) × List CV)
  | ⟨.slice t', xs⟩ :: l => match (xs : List t'.den) with
    | [] => none
    | x :: xs => (unleaf (.nsl t) [⟨.nsl t', some (x :: xs)⟩]).map fun p => (p.1, l)
  | l => unleaf (.nsl t) l
def snap (heaps : List HRow) : (t : Ty) → List CV → Option (t.den × List CV)
  | .unit, l => some ((), l)
  | .pair a b, l => match snap heaps a l with
    | some (x, l') => match snap heaps b l' with
      | some (y, l'') => some ((x, y), l'')
      | none => none
    | none => none
  | .st t, l => snap heaps t l
  | .slice t, l => snapSl heaps t (fun u y => match snap heaps t (flat u y) with
      | some (x, []) => some x
      | _ => none) l
  | .nsl t, l => snapNsl t l
  | .int k, l => unleaf (.int k) l
  | .bool, l => unleaf .bool l
  | .str, l => unleaf .str l
  | .ref h, l => unleaf (.ref h) l
  | .ptr h, l => unleaf (.ptr h) l
  | .mp h, l => unleaf (.mp h) l
  | .fn, l => unleaf .fn l
def snap1 (heaps : List HRow) (t : Ty) (l : List CV) : Option t.den := match snap heaps t l with
  | some (x, []) => some x
  | _ => none
def typed (heaps : List HRow) (t : Ty) (a : AV) : Option t.den :=
  match t, a with
  | .st t, .rv (.agg cs) => snap1 heaps t cs
  | .st t, .lit (.agg vs) => match litFlat t vs.toList with
    | some (cs, []) => unflat1 t cs
    | _ => none
  | .st _, _ => none
  | t, .rv (.cv c) => snap1 heaps t [c]
  | t, .lit v => match litFlat t [v] with
    | some ([c], []) => (unleaf t [c]).map (·.1)
    | _ => none
  | _, _ => none
def zeroCV (t : Ty) : List CV := flat t t.zero
def splice (cs : List CV) (off : Nat) (vs : List CV) : List CV := cs.take off ++ vs ++ cs.drop (off + vs.length)
def mkVal (t : Ty) (cs : List CV) : Option AV :=
  match t with
  | .st t => bif Nat.ble t.size cs.length then some (.rv (.agg (cs.take t.size))) else none
  | _ => match cs with
    | c :: _ => some (.rv (.cv c))
    | [] => none
def RV.thaw (r : Nat) (c : CV) : RV → RV
  | .own r' => bif Nat.beq r' r then .cv c else .own r'
  | x => x
def AV.thaw (r : Nat) (c : CV) : AV → AV
  | .rv x => .rv (x.thaw r c)
  | .oel r' sz i off => bif Nat.beq r' r then .nil else .oel r' sz i off
  | .tup l => .tup (l.map (RV.thaw r c))
  | x => x
def BX.thaw (r : Nat) (c : CV) : BX → BX
  | .own r' => bif Nat.beq r' r then .cells [c] else .own r'
  | x => x
def mapB (f : BX → BX) (l : List (Nat × BX)) : List (Nat × BX) := l.map fun p => (p.1, f p.2)
def AS.freeze (σ : AS) (r : Nat) : AS :=
  match look σ.rows r with
  | none => σ
  | some row => { σ with tmps := σ.tmps.map (AV.thaw r ⟨.slice row.t, row.xs⟩), rows := del σ.rows r, boxes := mapB (BX.thaw r ⟨.slice row.t, row.xs⟩) σ.boxes }
def AS.frz (σ : AS) (x : Operand) : AS :=
  match σ.av x with
  | .rv (.own r) => σ.freeze r
  | _ => σ
def AS.frzs (σ : AS) : List Operand → AS
  | [] => σ
  | x :: xs => (σ.frz x).frzs xs
def RV.ren (r d : Nat) : RV → RV
  | .own r' => .own (bif Nat.beq r' r then d else r')
  | x => x
def AV.ren (r d : Nat) : AV → AV
  | .rv x => .rv (x.ren r d)
  | .oel r' sz i off => .oel (bif Nat.beq r' r then d else r') sz i off
  | .tup l => .tup (l.map (RV.ren r d))
  | x => x
def BX.ren (r d : Nat) : BX → BX
  | .own r' => .own (bif Nat.beq r' r then d else r')
  | x => x
def AS.rename (σ : AS) (r d : Nat) : AS :=
  match look σ.rows r with
  | none => σ
  | some row => { σ with tmps := σ.tmps.map (AV.ren r d), rows := put (del σ.rows r) d row, boxes := mapB (BX.ren r d) σ.boxes }
def RV.isOwn (r : Nat) : RV → Bool
  | .own r' => Nat.beq r r'
  | _ => false
def Cap.isBox (b : Nat) : Cap → Bool
  | .box b' => Nat.beq b b'
  | _ => false
def AV.knowsRow (r : Nat) : AV → Bool
  | .rv x => x.isOwn r
  | .oel r' _ _ _ => Nat.beq r r'
  | .tup l => l.any (RV.isOwn r)
  | _ => false
def AV.knowsBox (b : Nat) : AV → Bool
  | .box b' _ => Nat.beq b b'
  | .fn _ caps => caps.any (Cap.isBox b)
  | _ => false
def BX.knowsRow (r : Nat) : BX → Bool
  | .own r' => Nat.beq r r'
  | _ => false
def AV.loseRow (r : Nat) (x : AV) : AV := bif x.knowsRow r then .nil else x
def AV.loseBox (b : Nat) (x : AV) : AV := bif x.knowsBox b then .nil else x
def BX.loseRow (r : Nat) (x : BX) : BX := bif x.knowsRow r then .nil else x
def AS.loseRow (σ : AS) (r : Nat) : AS := { σ with tmps := σ.tmps.map (AV.loseRow r), rows := del σ.rows r, boxes := mapB (BX.loseRow r) σ.boxes }
def AS.loseBox (σ : AS) (b : Nat) : AS := { σ with tmps := σ.tmps.map (AV.loseBox b), boxes := del σ.boxes b }
def keepL (l : List (Nat × AV)) (h : List (Nat × Bool)) : List (Nat × AV) := l.filter fun x => h.any fun p => Nat.beq p.1 x.1
def AS.share (σ : AS) : List (Nat × Bool) → AS
  | [] => σ
  | (j, true) :: h => (σ.frz (.tmp j)).share h
  | (_, false) :: h => σ.share h
def AS.forget (σ0 : AS) (h : List (Nat × Bool)) : AS :=
  let σ := σ0.share h
  let l := keepL σ.tmps.l h
  let bs := σ.boxes.filter fun p => l.any (fun q => q.2.knowsBox p.1) || σ.tmps.s.any fun q => q.2.knowsBox p.1
  { σ with tmps := ⟨σ.tmps.n, l, σ.tmps.s⟩, rows := σ.rows.filter fun p => (l.any fun q => q.2.knowsRow p.1) || (σ.tmps.s.any fun q => q.2.knowsRow p.1) || bs.any fun q => q.2.knowsRow p.1, boxes := bs }
def AS.save (σ : AS) : AS := { σ with tmps := ⟨σ.tmps.n, σ.tmps.l, (σ.tmps.l.map fun p => (p.1 + 10000 * σ.rngs.length, p.2)) ++ σ.tmps.s⟩ }
def inDepth (d k : Nat) : Bool := Nat.ble (10000 * d) k && Nat.blt k (10000 * (d + 1))
def AS.back (σ : AS) : AS := { σ with tmps := ⟨σ.tmps.n, (σ.tmps.s.filter fun p => inDepth σ.rngs.length p.1).map fun p => (p.1 - 10000 * σ.rngs.length, p.2), σ.tmps.s⟩ }
def AS.unsave (σ : AS) : AS := { σ with tmps := ⟨σ.tmps.n, σ.tmps.l, σ.tmps.s.filter fun p => !(inDepth σ.rngs.length p.1)⟩ }
inductive Cls where
  | M (rd wr : List Nat) | X
def Cls.rd (k : Nat) : Cls → Cls
  | .M r w => .M (k :: r) w
  | .X => .X
inductive TU where
  | row (q : Nat) (r : Row)
  | rowS (q : Nat) (r : Row)
  | box (b : Nat) (x : BX)
  | heap (h : Nat) (r : HRow)
def TU.keys : TU → List Nat
  | .row q _ => [4 * q, 4 * q + 2]
  | .rowS q _ => [4 * q]
  | .box b _ => [2 * b + 1]
  | .heap h _ => [hk h]
def AS.one (σ : AS) : TU → AS
  | .row q r => { σ with rows := put σ.rows q r }
  | .rowS q r => { σ with rows := put σ.rows q r }
  | .box b x => { σ with boxes := put σ.boxes b x }
  | .heap h r => { σ with heaps := σ.heaps.set h r }
def AS.app (σ : AS) : List TU → AS
  | [] => σ
  | u :: us => (σ.one u).app us
def keysU (us : List TU) : List Nat := us.flatMap TU.keys
inductive Eff where
  | upd (us : List TU)
  | set (σ : AS)
inductive Q (T : Tab) (α : Type) : Type 1 where
  | ret (a : α)
  | fail
  | opt {β : Type} (o : Option β) (k : β → Q T α)
  | chk (b : Bool) (k : Q T α)
  | ite (b : Bool) (x y : Q T α)
  | row (q : Nat) (k : Row → Q T α)
  | len (q : Nat) (k : Nat → Q T α)
  | box (b : Nat) (k : BX → Q T α)
  | heap (h : Nat) (k : HRow → Q T α)
  | freeR (q : Nat) (k : Q T α)
  | freeB (b : Nat) (k : Q T α)
  | call (v : Nat) (x : InT T v) (k : OutT T v → Q T α)
  | all (k : AS → Q T α)
  | on (σ : AS) (k : Q T α)
section
variable {R : Type} {T : Tab}
def Q.run {α : Type} (Φ : PhiT T) (σ : AS) : Q T α → Cls → (Cls → α → Option R) → Option R
  | .ret a, c, k => k c a
  | .fail, _, _ => none
  | .opt o q, c, k => o.bind fun y => (q y).run Φ σ c k
  | .chk b q, c, k => bif b then q.run Φ σ c k else none
  | .ite b x y, c, k => bif b then x.run Φ σ c k else y.run Φ σ c k
  | .row r q, c, k => match look σ.rows r with
    | some x => (q x).run Φ σ (c.rd (4 * r)) k
    | none => none
  | .len r q, c, k => match look σ.rows r with
    | some x => (q (List.length x.xs)).run Φ σ (c.rd (4 * r + 2)) k
    | none => none
  | .box b q, c, k => match look σ.boxes b with
    | some x => (q x).run Φ σ (c.rd (2 * b + 1)) k
    | none => none
  | .heap h q, c, k => match σ.heaps[h]? with
    | some x => (q x).run Φ σ (c.rd (hk h)) k
    | none => none
  | .freeR r q, c, k => match look σ.rows r with
    | none => q.run Φ σ (c.rd (4 * r)) k
    | some _ => none
  | .freeB b q, c, k => match look σ.boxes b with
    | none => q.run Φ σ (c.rd (2 * b + 1)) k
    | some _ => none
  | .call v x q, c, k => (Φ v x).bind fun y => (q y).run Φ σ c k
  | .all q, _, k => (q σ).run Φ σ .X k
  | .on σ' q, _, k => q.run Φ σ' .X k
def Q.map {α β : Type} (f : α → β) : Q T α → Q T β
  | .ret a => .ret (f a)
  | .fail => .fail
  | .opt o q => .opt o fun y => (q y).map f
  | .chk b q => .chk b (q.map f)
  | .ite b x y => .ite b (x.map f) (y.map f)
  | .row r q => .row r fun y => (q y).map f
  | .len r q => .len r fun y => (q y).map f
  | .box r q => .box r fun y => (q y).map f
  | .heap r q => .heap r fun y => (q y).map f
  | .freeR r q => .freeR r (q.map f)
  | .freeB r q => .freeB r (q.map f)
  | .call v x q => .call v x fun y => (q y).map f
  | .all q => .all fun y => (q y).map f
  | .on σ q => .on σ (q.map f)
abbrev Res := AV × Eff
def cmpInt (op : BinOp) (a b : Int) : Option Bool :=
  match op with
  | .eql => some (a == b)
  | .neq => some (a != b)
  | .lss => some (decide (a < b))
  | .leq => some (decide (a ≤ b))
  | .gtr => some (decide (a > b))
  | .geq => some (decide (a ≥ b))
  | _ => none
def strCmp (op : BinOp) (x y : ByteArray) : Option Bool :=
  match op with
  | .eql => some (x.toList == y.toList)
  | .neq => some (!(x.toList == y.toList))
  | .lss => some (Op.bytesLess x.toList y.toList)
  | .leq => some (Op.bytesLess x.toList y.toList || x.toList == y.toList)
  | .gtr => some (!(Op.bytesLess x.toList y.toList || x.toList == y.toList))
  | .geq => some (!(Op.bytesLess x.toList y.toList))
  | _ => none
def bits (op : BinOp) (i : IntKind) (a b : Int) : Int := match op with
  | .and => i.wrap (BitVec.ofInt i.bits a &&& BitVec.ofInt i.bits b).toNat
  | .or => i.wrap (BitVec.ofInt i.bits a ||| BitVec.ofInt i.bits b).toNat
  | .xor => i.wrap (BitVec.ofInt i.bits a ^^^ BitVec.ofInt i.bits b).toNat
  | _ => i.wrap (BitVec.ofInt i.bits a &&& ~~~ BitVec.ofInt i.bits b).toNat
def shl (i : IntKind) (a b : Int) : Int := i.wrap (a * 2 ^ (min b.toNat i.bits))
def shr (i : IntKind) (a b : Int) : Int := a.fdiv (2 ^ (min b.toNat i.bits))
def denEq : (t : Ty) → t.den → t.den → Bool
  | .int _, a, b => (a : Int) == b
  | .bool, a, b => (a : Bool) == b
  | .str, a, b => (a : ByteArray).toList == (b : ByteArray).toList
  | .pair s t, a, b => denEq s a.1 b.1 && denEq t a.2 b.2
  | .st t, a, b => denEq t a b
  | .unit, _, _ => true
  | _, _, _ => false
def eqable : Ty → Bool
  | .int _ | .bool | .str | .unit => true
  | .pair a b => eqable a && eqable b
  | .st t => eqable t
  | _ => false
def flatT : Ty → Bool
  | .int _ | .bool | .str | .unit | .fn => true
  | .pair a b => flatT a && flatT b
  | .st t => flatT t
  | _ => false
def noSl : Ty → Bool
  | .slice _ | .nsl _ => false
  | .pair a b => noSl a && noSl b
  | .st t => noSl t
  | _ => true
def refsIn (hs : List Nat) : Ty → Bool
  | .ref h | .ptr h | .mp h => hs.any (Nat.beq h)
  | .slice t | .nsl t | .st t => refsIn hs t
  | .pair a b => refsIn hs a && refsIn hs b
  | _ => true
def lendable (T : Tab) (s : Sig) : Bool := s.clo.isNone && (s.hout.all fun h => noSl (T.ht h).t) && match s.gen with
  | some ts => ts.all flatT
  | none => s.res.all fun p => match p.1, p.2 with
    | .slice t, some _ => noSl t
    | t, none => noSl t
    | _, _ => false
def refsInA (hs : List Nat) : ArgT → Bool
  | .v t | .rp t | .bx t => refsIn hs t
  | .fn _ ts => ts.all (refsIn hs)
  | .c cs => cs.all fun c => refsIn hs c.1
  | .yld => true
def sigOk (T : Tab) (s : Sig) : Bool := s.args.all (refsInA s.hin) && (s.hin.all fun h => refsIn s.hin (T.ht h).t) && ((s.res.all fun p => refsIn s.hin p.1) && (match s.clo with | some (_, ts) => ts.all (refsIn s.hin) | none => true) && match s.gen with
  | some ts => ts.all flatT && s.heaps.isEmpty
  | none => true)
def pv (z : AV) : Q T Res := .ret (z, .upd [])
def cvr (t : Ty) (x : t.den) : Q T Res := pv (.rv (.cv ⟨t, x⟩))
def orFail {α : Type} (f : α → Q T Res) : Option α → Q T Res
  | some x => f x
  | none => .fail
def binV (op : BinOp) (x y : AV) : Q T Res :=
  match x, y with
  | .rv (.cv ⟨.int i, a⟩), .rv (.cv ⟨.int j, b⟩) =>
    match op with
    | .shl => .chk (decide (0 ≤ b)) (cvr (.int i) (shl i a b))
    | .shr => .chk (decide (0 ≤ b)) (cvr (.int i) (shr i a b))
    | op => if i = j then match op with
      | .add => cvr (.int i) (i.wrap (a + b))
      | .sub => cvr (.int i) (i.wrap (a - b))
      | .mul => cvr (.int i) (i.wrap (a * b))
      | .quo => .chk (!(b == 0)) (cvr (.int i) (i.wrap (a.tdiv b)))
      | .rem => .chk (!(b == 0)) (cvr (.int i) (a.tmod b))
      | .and => cvr (.int i) (bits .and i a b)
      | .or => cvr (.int i) (bits .or i a b)
      | .xor => cvr (.int i) (bits .xor i a b)
      | .andNot => cvr (.int i) (bits .andNot i a b)
      | op => orFail (fun c => cvr .bool c) (cmpInt op a b)
      else .fail
  | .rv (.cv ⟨.str, a⟩), .rv (.cv ⟨.str, b⟩) =>
    match op with
    | .add => .chk (Nat.ble (a.size + b.size) 9223372036854775807) (cvr .str (a ++ b))
    | _ => orFail (fun c => cvr .bool c) (strCmp op a b)
  | _, _ => .fail
def eqV (op : BinOp) (b : Bool) : Q T Res := match op with
  | .eql => cvr .bool b
  | .neq => cvr .bool (!b)
  | _ => .fail
def binB (op : BinOp) (x y : AV) : Q T Res :=
  match x, y with
  | .rv (.cv ⟨.bool, a⟩), .rv (.cv ⟨.bool, b⟩) => eqV op (a == b)
  | _, _ => .fail
def nilB (ty : Ty) (op : BinOp) (x y : AV) : Q T Res :=
  match ty, x, y with
  | .slice _, .rv (.cv ⟨.ref _, n⟩), .lit (.slice none 0 0) => eqV op (Nat.beq n 0)
  | .ptr _, .rv (.cv ⟨.ptr _, n⟩), .lit (.pointer none) => eqV op (Nat.beq n 0)
  | .mp _, .rv (.cv ⟨.mp _, n⟩), .lit (.map none) => eqV op (Nat.beq n 0)
  | .slice _, .rv (.cv ⟨.nsl t, o⟩), .lit (.slice none 0 0) => eqV op (Option.isNone (α := List t.den) o)
  | _, _, _ => .fail
def binS (t : Ty) (op : BinOp) (x y : AV) : Q T Res :=
  match typed [] (.st t) x, typed [] (.st t) y with
  | some a, some b => .chk (eqable t) (eqV op (denEq t a b))
  | _, _ => .fail
def co : AV → AV
  | .rv (.cv ⟨.nsl t, o⟩) => .rv (.cv ⟨.slice t, (lst o : List t.den)⟩)
  | a => a
def lenV (ty : Ty) (x : AV) : Q T Res :=
  match ty, co x with
  | .slice _, .rv (.cv ⟨.slice t, xs⟩) => cvr (.int .i64) (List.length xs : Int)
  | .str, .rv (.cv ⟨.str, s⟩) => cvr (.int .i64) (s.size : Int)
  | .slice _, .rv (.own r) => .len r fun n => cvr (.int .i64) (n : Int)
  | .slice _, .lit (.slice none 0 0) => cvr (.int .i64) (0 : Int)
  | .slice _, .rv (.cv ⟨.ref h, n⟩) => .heap h fun hr => .opt (hget hr.xs n) fun l => cvr (.int .i64) (List.length l : Int)
  | _, _ => .fail
def optInt (av : Operand → AV) (d : Int) : Option Operand → Option Int
  | none => some d
  | some x => match av x with
    | .rv (.cv ⟨.int _, n⟩) => some n
    | _ => none
def loadV (rows : List TRow) (t : TypeId) (x : AV) : Q T Res := match findT rows t with
  | none => .fail
  | some r => match x with
    | .box b off => .box b fun bx => match bx with
      | .cells cs => orFail pv (mkVal r.ty (cs.drop off))
      | .own q => match r.ty with
        | .slice _ => .chk (Nat.beq off 0) (pv (.rv (.own q)))
        | _ => .fail
      | .nil => .fail
    | .oel q sz i off => .row q fun row => .opt (row.xs[i]?) fun x => orFail pv (mkVal r.ty ((flat row.t x).drop off))
    | .vel cs => orFail pv (mkVal r.ty cs)
    | .hel h n i off => .heap h fun hr => .opt (hget hr.xs n) fun l => .opt (l[i]?) fun x => orFail pv (mkVal r.ty ((flat hr.t x).drop off))
    | .rv (.cv ⟨.ptr h, n⟩) => .heap h fun hr => .opt (hget hr.xs n) fun l => .opt (l[0]?) fun x => orFail pv (mkVal r.ty (flat hr.t x))
    | _ => .fail
def moveV (rows : List TRow) (ty : TypeId) (x : AV) : Q T Res := match x with
  | .lit v => match findT rows ty with
    | some r => match r.ty with
      | .st t => match v with
        | .agg vs => match litFlat t vs.toList with
          | some (cs, []) => pv (.rv (.agg cs))
          | _ => .fail
        | _ => .fail
      | _ => pv (.lit v)
    | none => .fail
  | .nil => .fail
  | a => pv a
def partsOf (av : Operand → AV) (flds : List (Nat × Nat)) : List (Nat × Operand) → List CV → Option (List CV)
  | [], cs => some cs
  | (i, x) :: r, cs => match flds[i]? with
    | some (off, size) => match av x with
      | .rv (.cv c) => bif Nat.beq size 1 && Nat.blt off cs.length then partsOf av flds r (splice cs off [c]) else none
      | .rv (.agg vs) => bif Nat.beq size vs.length && Nat.ble (off + vs.length) cs.length then partsOf av flds r (splice cs off vs) else none
      | _ => none
    | none => none
def elems (av : Operand → AV) (t : Ty) : List (Nat × Operand) → List t.den → Option (List t.den)
  | [], xs => some xs
  | (i, x) :: r, xs => match typed [] t (av x) with
    | some v => bif Nat.blt i xs.length then elems av t r (xs.set i v) else none
    | none => none
def indexA (rows : List TRow) (t : TypeId) (x i : AV) : Q T Res := match findT rows t with
  | some r => match i with
    | .rv (.cv ⟨.int _, n⟩) => match r.ty, co x with
      | .slice u, .rv (.cv ⟨.slice u', xs⟩) => .chk (Nat.beq u.size u'.size) (.opt (idx xs n) fun y => pv (.vel (flat u' y)))
      | .slice u, .rv (.own q) => .row q fun row => .chk (Nat.beq u.size row.t.size) (.opt (idx row.xs n) fun _ => pv (.oel q row.t.size n.toNat 0))
      | .slice u, .rv (.cv ⟨.ref h, m⟩) => .heap h fun hr => .chk (Nat.beq u.size hr.t.size) (.opt (hget hr.xs m) fun l => .opt (idx l n) fun _ => pv (.hel h m n.toNat 0))
      | .st _, a => match n with
        | .ofNat m => .chk r.arr <| match r.flds[m]? with
          | some (off, _) => match a with
            | .box b o => pv (.box b (o + off))
            | .oel q sz j o => pv (.oel q sz j (o + off))
            | .vel cs => pv (.vel (cs.drop off))
            | .hel h k j o => pv (.hel h k j (o + off))
            | _ => .fail
          | none => .fail
        | .negSucc _ => .fail
      | _, _ => .fail
    | _ => .fail
  | none => .fail
def fieldA (rows : List TRow) (s : TypeId) (x : AV) (f : Nat) : Q T Res := match findT rows s with
  | some r => .chk (!r.arr) <| match r.flds[f]? with
    | some (off, size) => match x with
      | .box b o => pv (.box b (o + off))
      | .oel q sz i o => pv (.oel q sz i (o + off))
      | .vel cs => pv (.vel (cs.drop off))
      | .hel h n i o => pv (.hel h n i (o + off))
      | .rv (.cv ⟨.ptr h, n⟩) => .chk (!(Nat.beq n 0)) (pv (.hel h n 0 off))
      | _ => .fail
    | none => .fail
  | none => .fail
def convV (rows : List TRow) (s d : TypeId) (x : AV) : Q T Res := match findT rows s, findT rows d with
  | some rs, some rd => match rs.ty, rd.ty, x with
    | .int _, .int j, .rv (.cv ⟨.int _, a⟩) => cvr (.int j) (j.wrap a)
    | .str, .str, .rv (.cv ⟨.str, s⟩) => cvr .str s
    | .slice (.int .u8), .str, .rv (.cv ⟨.slice (.int .u8), xs⟩) => cvr .str (strOf xs)
    | .slice (.int .u8), .str, .rv (.own r) => .row r fun row => match row with
      | ⟨_, .int .u8, xs⟩ => cvr .str (strOf xs)
      | _ => .fail
    | .str, .slice (.int .u8), .rv (.cv ⟨.str, s⟩) => .chk (Nat.ble s.size 140737488355328) (cvr (.slice (.int .u8)) (bytesOf s))
    | _, _, _ => .fail
  | _, _ => .fail
def sliceV (rows : List TRow) (av : Operand → AV) (t : TypeId) (x : AV) (lo hi mx : Option Operand) : Q T Res := match findT rows t with
  | some r => match mx with
    | none => match r.ty, co x with
      | .str, .rv (.cv ⟨.str, s⟩) => match optInt av 0 lo, optInt av s.size hi with
        | some l, some h => .chk (inCut s.size l h) (cvr .str (s.extract l.toNat h.toNat))
        | _, _ => .fail
      | .slice u, .rv (.cv ⟨.slice u', xs⟩) => match optInt av 0 lo, optInt av (List.length xs) hi with
        | some l, some h => .chk (Nat.beq u.size u'.size && inCut (List.length xs) l h) (cvr (.slice u') (cut xs l h))
        | _, _ => .fail
      | _, _ => .fail
    | some mx => match r.ty, co x with
      | .slice u, .rv (.cv ⟨.slice u', xs⟩) => match hi with
        | some hx => match optInt av 0 lo, optInt av 0 (some hx), optInt av 0 (some mx) with
          | some l, some h, some m => .chk (Nat.beq u.size u'.size && inCut (List.length xs) l h && decide (h ≤ m) && decide (m ≤ List.length xs)) (cvr (.slice u') (cut xs l h))
          | _, _, _ => .fail
        | none => .fail
      | _, _ => .fail
  | none => .fail
def isOwn : AV → Bool
  | .rv (.own _) => true
  | _ => false
def buildV (rows : List TRow) (av : Operand → AV) (t : TypeId) (parts : List (Nat × Operand)) : Q T Res := match findT rows t with
  | some r => match r.ty with
    | .st u => orFail (fun cs => pv (.rv (.agg cs))) (partsOf av r.flds parts (zeroCV u))
    | _ => .fail
  | none => .fail
def okMake (bytes : Nat) (l c : Int) : Bool := decide (0 ≤ l) && decide (l ≤ c) && decide ((bytes : Int) * c ≤ 140737488355328)
def okApp (bytes size n m : Nat) : Bool := Nat.blt 0 size && Nat.ble ((n + m) * bytes) 140737488355328
def elemRow (T : List TRow) (t : TypeId) : Option (Ty × TypeId × Nat) :=
  match findT T t with
  | some r => match r.ty with
    | .slice u => match findT T r.elem with
      | some re => bif Nat.blt 0 re.bytes then some (u, r.elem, re.bytes) else none
      | none => none
    | _ => none
  | none => none
def nslTy (s : Option Site) (u : Ty) : Ty := match s, u with
  | some .nsl, .slice v => .nsl v
  | _, u => u
def heapAt (s : Option Site) : Option Nat := match s with
  | some (.heap h) => some h
  | _ => none
def ptrOf (T : List TRow) (t : TypeId) : Option Nat :=
  match findT T t with
  | some r => match r.ty with
    | .ptr h => some h
    | _ => none
  | none => none
def okHt (T : Tab) (h : Nat) (hr : HRow) : Bool := Nat.beq hr.e (T.ht h).e && Nat.beq hr.k (T.ht h).k && decide (hr.t = (T.ht h).t)
def newRow (d : Option Tmp) (row : Row) : Q T Res := match d with
  | some d => .freeR d (.ret (.rv (.own d), .upd [.row d row]))
  | none => .fail
def newBox (d : Option Tmp) (x : BX) : Q T Res := match d with
  | some d => .freeB d (.ret (.box d 0, .upd [.box d x]))
  | none => .fail
def newRef (h : Nat) (hr : HRow) (xs : List (Option (List hr.t.den))) (l : List hr.t.den) : Q T Res :=
  .chk (hr.w && Nat.beq hr.k 0) <| .ret (.rv (.cv ⟨.ref h, (List.length xs + 1 : Nat)⟩), .upd [.heap h ⟨hr.e, hr.t, hr.k, hr.w, xs ++ [some l]⟩])
def newPtr (h : Nat) (hr : HRow) (x : hr.t.den) : Q T Res :=
  .chk (hr.w && Nat.beq hr.k 1) <| .ret (.rv (.cv ⟨.ptr h, (List.length hr.xs + 1 : Nat)⟩), .upd [.heap h ⟨hr.e, hr.t, hr.k, hr.w, hr.xs ++ [some [x]]⟩])
def fitIn (t : Ty) (y : t.den) (off : Nat) (vs : List CV) : Option t.den := snap1 [] t (splice (flat t y) off vs)
def storeH (h n i off : Nat) (vs : List CV) : Q T Res := .heap h fun hr => .opt (hget hr.xs n) fun l => .opt (l[i]?) fun y => .opt (fitIn hr.t y off vs) fun y' =>
  .chk (hr.w && Nat.ble (off + vs.length) hr.t.size) (.ret (.nil, .upd [.heap h ⟨hr.e, hr.t, hr.k, hr.w, hset hr.xs n (l.set i y')⟩]))
def BX.one : BX → Bool
  | .cells cs => Nat.beq cs.length 1
  | _ => true
def storeC (x : AV) (vs : List CV) : Q T Res := match x with
  | .box b off => .box b fun bx => match bx with
    | .cells cs => .chk (Nat.ble (off + vs.length) cs.length) (.ret (.nil, .upd [.box b (.cells (splice cs off vs))]))
    | _ => .chk (Nat.beq off 0 && Nat.beq vs.length 1) (.ret (.nil, .upd [.box b (.cells vs)]))
  | .oel q sz i off => .row q fun row => .opt (row.xs[i]?) fun y => .opt (fitIn row.t y off vs) fun y' =>
    .chk (Nat.ble (off + vs.length) row.t.size) (.ret (.nil, .upd [.rowS q ⟨row.e, row.t, row.xs.set i y'⟩]))
  | .hel h n i off => storeH h n i off vs
  | .rv (.cv ⟨.ptr h, n⟩) => storeH h n 0 0 vs
  | _ => .fail
def appended (t : Ty) (x : AV) (k : List t.den → Q T Res) : Q T Res := match co x with
  | .rv (.cv ⟨.ref h, n⟩) => .heap h fun hr => .opt (hget hr.xs n) fun l => .opt ((unleaf (.slice t) [⟨.slice hr.t, l⟩]).map (·.1)) k
  | .rv (.cv c) => .opt ((unleaf (.slice t) [c]).map (·.1)) k
  | .rv (.own q) => .row q fun row => .opt ((unleaf (.slice t) [⟨.slice row.t, row.xs⟩]).map (·.1)) k
  | .lit (.slice none 0 0) => k []
  | _ => .fail
def cvBeq : CV → CV → Bool
  | ⟨.int i, a⟩, ⟨.int j, b⟩ => decide (i = j) && (a : Int) == b
  | ⟨.bool, a⟩, ⟨.bool, b⟩ => (a : Bool) == b
  | ⟨.fn, a⟩, ⟨.fn, b⟩ => Nat.beq a b
  | _, _ => false
def cvsBeq : List CV → List CV → Bool
  | [], [] => true
  | a :: r, b :: s => cvBeq a b && cvsBeq r s
  | _, _ => false
def fnAV : AV → Option (FuncId × List Cap)
  | .fn f caps => some (f, caps)
  | .rv (.cv ⟨.fn, n⟩) => match (n : Nat) with
    | f + 1 => some (f, [])
    | 0 => none
  | _ => none
def capAV : Cap → AV
  | .box b => .box b 0
  | .vel cs => .vel cs
def fitsA : ArgT → AV → Bool
  | .fn f _, a => match fnAV a with
    | some (g, _) => Nat.beq f g
    | none => false
  | .c cs, .rv (.agg cs') => cvsBeq cs cs'
  | .c _, _ => false
  | _, _ => true
def fits : List ArgT → List AV → Bool
  | [], [] => true
  | t :: ts, a :: as => fitsA t a && fits ts as
  | _, _ => false
def pick (T : Tab) (avs : List AV) : List Nat → Option Nat
  | [] => none
  | v :: vs => bif fits (T.sig v).args avs then some v else pick T avs vs
def vidOf (T : Tab) (s : Option Site) (f : FuncId) (avs : List AV) : Option Nat := match s with
  | some (.vid v) => bif Nat.beq (T.real v) f then some v else none
  | _ => match pick T avs (T.cand f) with
    | some v => bif Nat.beq (T.real v) f then some v else none
    | none => none
def capVal (t : Ty) (k : t.den → Q T Res) : Cap → Q T Res
  | .box b => .box b fun bx => match bx with
    | .cells cs => .opt (unflat1 t cs) k
    | .own q => .row q fun row => .opt ((unleaf t [⟨.slice row.t, row.xs⟩]).map (·.1)) k
    | .nil => .fail
  | .vel cs => .opt (unflat1 t cs) k
def capVals : (ts : List Ty) → List Cap → (DenL ts → Q T Res) → Q T Res
  | [], [], k => k ()
  | [t], [c], k => capVal t k c
  | t :: u :: ts, c :: cs, k => capVal t (fun x => capVals (u :: ts) cs fun y => k (x, y)) c
  | _, _, _ => .fail
def hasRef : AV → Bool
  | .rv (.cv ⟨.ref _, _⟩) => true
  | .rv (.agg cs) => cs.any fun | ⟨.ref _, _⟩ => true | _ => false
  | _ => false
def isRefT : Ty → Bool
  | .ref _ => true
  | _ => false
def readHeaps : List Nat → List HRow → (List HRow → Q T Res) → Q T Res
  | [], acc, k => k acc.reverse
  | h :: hs, acc, k => .heap h fun hr => readHeaps hs (hr :: acc) k
def argV (lend : Bool) (nh : Nat) (hout : List Nat) (p : ArgT) (a : AV) (k : p.den → Q T Res) : Q T Res := match p, k with
  | .v t, k => match a with
    | .rv (.own q) => .chk lend (.row q fun row => .opt ((unleaf t [⟨.slice row.t, row.xs⟩]).map (·.1)) k)
    | a => bif hasRef a && !(isRefT t) && lend then
        readHeaps (List.range nh) [] fun hs => .opt (typed (hs.zipIdx.map fun p => bif hout.any (Nat.beq p.2) then ⟨p.1.e, p.1.t, p.1.k, p.1.w, []⟩ else p.1) t a) k
      else .opt (typed [] t a) k
  | .fn f ts, k => match fnAV a with
    | some (g, caps) => .chk (Nat.beq f g && (lend || caps.isEmpty)) (capVals ts caps k)
    | none => .fail
  | .c cs, k => .chk (fitsA (.c cs) a) (k ())
  | .rp t, k => match a with
    | .box b 0 => .chk lend (capVal t k (.box b))
    | .vel cs => capVal t k (.vel cs)
    | _ => .fail
  | .bx _, _ => .fail
  | .yld, _ => .fail
def argVs (lend : Bool) (nh : Nat) (hout : List Nat) : (ps : List ArgT) → List AV → (DenA ps → Q T Res) → Q T Res
  | [], [], k => k ()
  | [p], [a], k => argV lend nh hout p a k
  | p :: q :: ps, a :: as, k => argV lend nh hout p a fun x => argVs lend nh hout (q :: ps) as fun y => k (x, y)
  | _, _, _ => .fail
def readH (T : Tab) (wr : List Nat) : (hs : List Nat) → (HDen T hs → Q T Res) → Q T Res
  | [], k => k ()
  | [h], k => .heap h fun hr => .chk ((hr.w || !(wr.any (Nat.beq h))) && Nat.beq hr.e (T.ht h).e && Nat.beq hr.k (T.ht h).k) (if e : hr.t = (T.ht h).t then k (castH e hr.xs) else .fail)
  | h :: i :: r, k => .heap h fun hr => .chk ((hr.w || !(wr.any (Nat.beq h))) && Nat.beq hr.e (T.ht h).e && Nat.beq hr.k (T.ht h).k) (if e : hr.t = (T.ht h).t then readH T wr (i :: r) fun y => k (castH e hr.xs, y) else .fail)
def toRVs (d : Nat) : (ts : List ResT) → DenL (ts.map (·.1)) → List RV
  | [], _ => []
  | [(t, some e)], x => [.own d]
  | [(.st t, none)], x => [.agg (flat t x)]
  | [(t, none)], x => [.cv ⟨t, x⟩]
  | (t, some e) :: u :: ts, x => .own d :: toRVs (d + 1) (u :: ts) x.2
  | (.st t, none) :: u :: ts, x => .agg (flat t x.1) :: toRVs (d + 1) (u :: ts) x.2
  | (t, none) :: u :: ts, x => .cv ⟨t, x.1⟩ :: toRVs (d + 1) (u :: ts) x.2
def ownRow (t : Ty) (e : TypeId) (x : t.den) : Option Row :=
  match t, x with
  | .slice t', xs => some ⟨e, t', xs⟩
  | _, _ => none
def resAV : List RV → AV
  | [x] => .rv x
  | l => .tup l
def newRows (d : Nat) : (ts : List ResT) → DenL (ts.map (·.1)) → (List TU → Q T Res) → Q T Res
  | [], _, k => k []
  | [(t, some e)], x, k => match ownRow t e x with
    | some row => .freeR d (k [.row d row])
    | none => .fail
  | [(t, none)], x, k => k []
  | (t, some e) :: u :: ts, x, k => match ownRow t e x.1 with
    | some row => .freeR d (newRows (d + 1) (u :: ts) x.2 fun us => k (.row d row :: us))
    | none => .fail
  | (t, none) :: u :: ts, x, k => newRows (d + 1) (u :: ts) x.2 k
def newBoxes (d : Nat) : (ts : List Ty) → DenL ts → (List TU → List Cap → Q T Res) → Q T Res
  | [], _, k => k [] []
  | [t], x, k => .freeB d (k [.box d (.cells (flat t x))] [.box d])
  | t :: u :: ts, x, k => .freeB d (newBoxes (d + 1) (u :: ts) x.2 fun us cs => k (.box d (.cells (flat t x.1)) :: us) (.box d :: cs))
def rkey (d : Option Tmp) : Nat := 1000 + 16 * d.getD 0
def heapUs (T : Tab) : (hs : List Nat) → HDen T hs → List TU
  | [], _ => []
  | [h], x => [.heap h ⟨(T.ht h).e, (T.ht h).t, (T.ht h).k, true, x⟩]
  | h :: i :: r, x => .heap h ⟨(T.ht h).e, (T.ht h).t, (T.ht h).k, true, x.1⟩ :: heapUs T (i :: r) x.2
def resV (T : Tab) (d : Nat) (s : Sig) (y : SigR s) (us : List TU) : Q T Res := match s, y with
  | ⟨_, res, none, _, none⟩, y => newRows d res y fun vs => .ret (resAV (toRVs d res y), .upd (us ++ vs))
  | ⟨_, _, some (f, ts), _, none⟩, y => newBoxes d ts y fun vs cs => .ret (.fn f cs, .upd (us ++ vs))
  | _, _ => .fail
def callV (T : Tab) (av : Operand → AV) (st : Option Site) (dst : Option Tmp) (f : FuncId) (caps : List Cap) (args : List Operand) : Q T Res :=
  let avs := args.map av ++ caps.map capAV
  match vidOf T st f avs with
  | some v =>
    let s := T.sig v
    argVs (lendable T s) T.heaps.length s.hout s.args avs fun x =>
    readH T s.hout s.hin fun h => .opt (withH x s.hin (some h)) fun xh => .call v xh fun yh =>
    resV T (rkey dst) s (fstH _ yh) (heapUs T s.hout (sndH _ yh))
  | none => .fail
def yieldD : (t : Ty) → List AV → Option t.den
  | .unit, [] => some ()
  | .pair a b, x :: r => match typed [] a x with
    | some v => match yieldD b r with
      | some u => some (v, u)
      | none => none
    | none => none
  | _, _ => none
def opQ (T : Tab) (av : Operand → AV) (sites : List (Nat × Site)) (o : Oper) : Q T Res :=
  let st := o.dst.bind (look sites)
  match o.op with
  | .move x => moveV T.rows o.type (av x)
  | .assign x => match av x, o.dst with
    | .rv (.own r), some d => .all fun σ => .ret (.rv (.own d), .set (bif Nat.beq r d then σ else (σ.freeze d).rename r d))
    | .lit (.slice none 0 0), some d => match heapAt st with
      | some h => pv (.rv (.cv ⟨.ref h, (0 : Nat)⟩))
      | none => match elemRow T.rows o.type with
        | some (u, e, _) => .all fun σ => .ret (.rv (.own d), .set { (σ.freeze d) with rows := put (σ.freeze d).rows d ⟨e, u, []⟩ })
        | none => moveV T.rows o.type (.lit (.slice none 0 0))
    | a, _ => moveV T.rows o.type (co a)
  | .pick c a b => match av c with
    | .rv (.cv ⟨.bool, t⟩) => .ite t (pv (av a)) (pv (av b))
    | _ => .fail
  | .nilCheck x => match av x with
    | .rv (.cv ⟨.ptr h, n⟩) => .chk (!(Nat.beq n 0)) (pv (.rv (.cv ⟨.ptr h, n⟩)))
    | .box b off => pv (.box b off)
    | .oel r sz i off => pv (.oel r sz i off)
    | .vel cs => pv (.vel cs)
    | .hel h n i off => pv (.hel h n i off)
    | _ => .fail
  | .load t x => loadV T.rows t (av x)
  | .binOp op xt x y _ => match findT T.rows xt with
    | some r => match r.ty with
      | .bool => binB op (av x) (av y)
      | .int _ | .str => binV op (av x) (av y)
      | .st t => .chk (T.eqs.any (Nat.beq xt)) (binS t op (av x) (av y))
      | ty => nilB ty op (av x) (av y)
    | none => .fail
  | .unOp op _ x => match op, av x with
    | .not, .rv (.cv ⟨.bool, b⟩) => cvr .bool (!b)
    | .neg, .rv (.cv ⟨.int i, a⟩) => cvr (.int i) (i.wrap (0 - a))
    | _, _ => .fail
  | .convert s d x => convV T.rows s d (av x)
  | .fieldAddr s x f => fieldA T.rows s (av x) f
  | .indexAddr t x i => indexA T.rows t (av x) (av i)
  | .index t x i => match findT T.rows t with
    | some r => match r.ty, av i, av x with
      | .str, .rv (.cv ⟨.int _, n⟩), .rv (.cv ⟨.str, s⟩) => .opt (sidx s n) fun b => cvr (.int .u8) b
      | _, _, _ => .fail
    | none => .fail
  | .extract x i => match av x with
    | .tup l => orFail (fun v => pv (.rv v)) l[i]?
    | _ => .fail
  | .makeFunc (.func f) first captured => match first.toList with
    | [] => orFail (fun caps => pv (.fn f caps)) (allSome (fun x => match av x with
      | .box b 0 => some (.box b)
      | .vel cs => some (.vel cs)
      | _ => none) captured.toList)
    | _ => .fail
  | .slice t x lo hi mx => match av x with
    | .rv (.own q) => match lo, hi, mx with
      | none, some h, none => match elemRow T.rows t, av h with
        | some (u, e, _), .rv (.cv ⟨.int _, h⟩) => .row q fun row => .chk (Nat.beq u.size row.t.size && inCut row.xs.length 0 h) (match o.dst with
          | some d => .all fun σ => match look (σ.loseRow q).rows d with
            | none => .ret (.rv (.own d), .set { (σ.loseRow q) with rows := put (σ.loseRow q).rows d ⟨row.e, row.t, row.xs.take h.toNat⟩ })
            | some _ => .fail
          | none => .fail)
        | _, _ => .fail
      | _, _, _ => .row q fun row => .all fun σ => (sliceV T.rows av t (.rv (.cv ⟨.slice row.t, row.xs⟩)) lo hi mx).map fun p => (p.1, .set (σ.freeze q))
    | .rv (.cv ⟨.ref h, n⟩) => match lo, hi, mx with
      | none, some y, none => match elemRow T.rows t, av y with
        | some _, .rv (.cv ⟨.int _, y⟩) => .heap h fun hr => .opt (hget hr.xs n) fun l => .chk (inCut l.length 0 y)
            (.ite (Nat.beq n 0) (pv (.rv (.cv ⟨.ref h, n⟩))) (newRef h hr (hkill hr.xs n) (l.take y.toNat)))
        | _, _ => .fail
      | _, _, _ => .fail
    | a => sliceV T.rows av t a lo hi mx
  | .build t parts => let xs := parts.toList.map (·.2)
    bif xs.any (fun x => isOwn (av x)) then .all fun σ => (buildV T.rows (σ.frzs xs).av t parts.toList).map fun p => (p.1, .set (σ.frzs xs))
    else buildV T.rows av t parts.toList
  | .buildSlice t len parts => let xs := parts.toList.map (·.2)
    match elemRow T.rows t with
    | some (u0, e, _) => match heapAt st with
      | some h => .heap h fun hr => .chk (Nat.beq e hr.e && okHt T h hr && Nat.ble (len * hr.t.size) 16777216 && Nat.ble len 16777216) (.opt (elems av hr.t parts.toList (List.replicate len hr.t.zero)) fun ys => newRef h hr hr.xs ys)
      | none => let u := nslTy st u0
        .chk (Nat.ble (len * u.size) 16777216 && Nat.ble len 16777216) (bif xs.any (fun x => isOwn (av x)) then
          .all fun σ => .opt (elems (σ.frzs xs).av u parts.toList (List.replicate len u.zero)) fun ys => match o.dst with
            | some d => match look (σ.frzs xs).rows d with
              | none => .ret (.rv (.own d), .set { (σ.frzs xs) with rows := put (σ.frzs xs).rows d ⟨e, u, ys⟩ })
              | some _ => .fail
            | none => .fail
          else .opt (elems av u parts.toList (List.replicate len u.zero)) fun ys => newRow o.dst ⟨e, u, ys⟩)
    | none => .fail
  | .makeSlice t l c => match elemRow T.rows t, av l, av c with
    | some (u0, e, bytes), .rv (.cv ⟨.int _, l⟩), .rv (.cv ⟨.int _, c⟩) => .chk (okMake bytes l c) (match heapAt st with
      | some h => .heap h fun hr => .chk (Nat.beq e hr.e && okHt T h hr) (newRef h hr hr.xs (List.replicate l.toNat hr.t.zero))
      | none => let u := nslTy st u0
        newRow o.dst ⟨e, u, List.replicate l.toNat u.zero⟩)
    | _, _, _ => .fail
  | .alloc t => match findT T.rows t with
    | some r => match ptrOf T.rows o.type with
      | some h => .heap h fun hr => .chk (Nat.beq hr.e t && okHt T h hr) (newPtr h hr hr.t.zero)
      | none => match r.ty, elemRow T.rows t, o.dst with
        | .slice _, some (u, e, _), some d => .freeB d (.freeR d (.ret (.box d 0, .upd [.box d (.own d), .row d ⟨e, u, []⟩])))
        | _, _, _ => newBox o.dst (.cells (zeroCV r.ty))
    | none => .fail
  | .box t v => match findT T.rows t with
    | some r => match av v with
      | .rv (.own q) => .row q fun row => .all fun σ => match o.dst with
        | some d => match look σ.boxes d with
          | none => .ret (.box d 0, .set { (σ.freeze q) with boxes := put (σ.freeze q).boxes d (.cells [⟨.slice row.t, row.xs⟩]) })
          | some _ => .fail
        | none => .fail
      | a => orFail (fun vs => .chk (Nat.beq vs.length r.ty.size) (match ptrOf T.rows o.type with
        | some h => .heap h fun hr => .chk (Nat.beq hr.e t) (.opt (snap1 [] hr.t vs) fun x => newPtr h hr x)
        | none => newBox o.dst (.cells vs))) (cells r.ty a)
    | none => .fail
  | .store t x v => match findT T.rows t with
    | some r => match av v, av x with
      | .rv (.own q), .box b 0 => .box b fun bx => .chk (bx.one && Nat.beq r.ty.size 1) <| .all fun σ =>
          bif Nat.beq q b then .ret (.nil, .set { σ with boxes := put σ.boxes b (.own b) })
          else .ret (.nil, .set { ((σ.freeze b).rename q b) with boxes := put ((σ.freeze b).rename q b).boxes b (.own b) })
      | .rv (.own q), _ => .fail
      | .lit (.slice none 0 0), .box b 0 => match elemRow T.rows t with
        | some (u, e, _) => .box b fun bx => .chk bx.one <| .all fun σ => .ret (.nil, .set { (σ.freeze b) with rows := put (σ.freeze b).rows b ⟨e, u, []⟩, boxes := put (σ.freeze b).boxes b (.own b) })
        | none => .fail
      | a, x => orFail (fun vs => .chk (Nat.beq vs.length r.ty.size) (storeC x vs)) (cells r.ty a)
    | none => .fail
  | .call { callee := .builtin .len, args, argTypes } => match args.toList, argTypes.toList with
    | [x], [t] => match findT T.rows t with
      | some r => lenV r.ty (av x)
      | none => .fail
    | _, _ => .fail
  | .call { callee := .builtin .max, args, .. } => match args.toList with
    | [x, y] => match av x, av y with
      | .rv (.cv ⟨.int i, a⟩), .rv (.cv ⟨.int _, b⟩) => cvr (.int i) (bif decide (b > a) then b else a)
      | _, _ => .fail
    | _ => .fail
  | .call { callee := .builtin .min, args, .. } => match args.toList with
    | [x, y] => match av x, av y with
      | .rv (.cv ⟨.int i, a⟩), .rv (.cv ⟨.int _, b⟩) => cvr (.int i) (bif decide (b < a) then b else a)
      | _, _ => .fail
    | _ => .fail
  | .call { callee := .builtin .append, args, argTypes } => match args.toList, argTypes.toList with
    | [s, x], [t, tx] => .chk (Nat.beq t tx) (match elemRow T.rows t with
      | some (u, e, bytes) => match av s with
        | .rv (.own r) => .row r fun row => .chk (match av x with | .rv (.own q) => !(Nat.beq q r) | _ => true) (appended row.t (av x) fun ys =>
            .chk (Nat.beq row.e e && Nat.beq row.t.size u.size && okApp bytes u.size row.xs.length ys.length) (match o.dst with
              | some d => .all fun σ => match look (σ.loseRow r).rows d with
                | none => .ret (.rv (.own d), .set { (σ.loseRow r) with rows := put (σ.loseRow r).rows d ⟨e, row.t, row.xs ++ ys⟩ })
                | some _ => .fail
              | none => .fail))
        | .rv (.cv ⟨.ref h, n⟩) => .heap h fun hr => .opt (hget hr.xs n) fun l => .chk (Nat.beq e hr.e && Nat.beq u.size hr.t.size) (appended hr.t (av x) fun ys =>
            .chk (okApp bytes hr.t.size l.length ys.length) (.ite ys.isEmpty (pv (.rv (.cv ⟨.ref h, n⟩))) (newRef h hr (hkill hr.xs n) (l ++ ys))))
        | .lit (.slice none 0 0) => match heapAt st with
          | some h => .heap h fun hr => .chk (Nat.beq e hr.e && Nat.beq u.size hr.t.size) (appended hr.t (av x) fun ys =>
              .chk (okApp bytes hr.t.size 0 ys.length) (.ite ys.isEmpty (pv (.rv (.cv ⟨.ref h, (0 : Nat)⟩))) (newRef h hr hr.xs ys)))
          | none => appended u (av x) fun ys => .chk (okApp bytes u.size 0 ys.length) (newRow o.dst ⟨e, u, ys⟩)
        | _ => .fail
      | none => .fail)
    | _, _ => .fail
  | .call { callee := .value f, args, .. } => match av f with
    | .yld => .all fun σ => match σ.trace with
      | ⟨.slice t, xs⟩ => .chk (flatT t) (.opt (yieldD t (args.toList.map av)) fun x => .ret (.rv (.cv ⟨.bool, true⟩), .set { σ with trace := ⟨.slice t, xs ++ [x]⟩ }))
      | _ => .fail
    | a => match fnAV a with
      | some (f, caps) => bif args.toList.any (fun x => isOwn (av x)) && !(lendable T (T.sig ((vidOf T st f (args.toList.map av ++ caps.map capAV)).getD 0))) then
          .all fun σ => (Q.on (σ.frzs args.toList) (callV T (σ.frzs args.toList).av st o.dst f caps args.toList)).map fun p => (p.1, match p.2 with
            | .upd us => .set ((σ.frzs args.toList).app us)
            | .set σ' => .set σ')
        else callV T av st o.dst f caps args.toList
      | none => .fail
  | _ => .fail
def opAssign (T : Tab) (av : Operand → AV) (st : Option Site) (o : Oper) (x : Operand) : Q T Res :=
  match av x, o.dst with
    | .rv (.own r), some d => .all fun σ => .ret (.rv (.own d), .set (bif Nat.beq r d then σ else (σ.freeze d).rename r d))
    | .lit (.slice none 0 0), some d => match heapAt st with
      | some h => pv (.rv (.cv ⟨.ref h, (0 : Nat)⟩))
      | none => match elemRow T.rows o.type with
        | some (u, e, _) => .all fun σ => .ret (.rv (.own d), .set { (σ.freeze d) with rows := put (σ.freeze d).rows d ⟨e, u, []⟩ })
        | none => moveV T.rows o.type (.lit (.slice none 0 0))
    | a, _ => moveV T.rows o.type (co a)
def opPick (T : Tab) (av : Operand → AV) (st : Option Site) (o : Oper) (c : Operand) (a : Operand) (b : Operand) : Q T Res :=
  match av c with
    | .rv (.cv ⟨.bool, t⟩) => .ite t (pv (av a)) (pv (av b))
    | _ => .fail
def opNilCheck (T : Tab) (av : Operand → AV) (st : Option Site) (o : Oper) (x : Operand) : Q T Res :=
  match av x with
    | .rv (.cv ⟨.ptr h, n⟩) => .chk (!(Nat.beq n 0)) (pv (.rv (.cv ⟨.ptr h, n⟩)))
    | .box b off => pv (.box b off)
    | .oel r sz i off => pv (.oel r sz i off)
    | .vel cs => pv (.vel cs)
    | .hel h n i off => pv (.hel h n i off)
    | _ => .fail
def opBinOp (T : Tab) (av : Operand → AV) (st : Option Site) (o : Oper) (op : BinOp) (xt : TypeId) (x : Operand) (y : Operand) : Q T Res :=
  match findT T.rows xt with
    | some r => match r.ty with
      | .bool => binB op (av x) (av y)
      | .int _ | .str => binV op (av x) (av y)
      | .st t => .chk (T.eqs.any (Nat.beq xt)) (binS t op (av x) (av y))
      | ty => nilB ty op (av x) (av y)
    | none => .fail
def opUnOp (T : Tab) (av : Operand → AV) (st : Option Site) (o : Oper) (op : UnOp) (x : Operand) : Q T Res :=
  match op, av x with
    | .not, .rv (.cv ⟨.bool, b⟩) => cvr .bool (!b)
    | .neg, .rv (.cv ⟨.int i, a⟩) => cvr (.int i) (i.wrap (0 - a))
    | _, _ => .fail
def opIndex (T : Tab) (av : Operand → AV) (st : Option Site) (o : Oper) (t : TypeId) (x : Operand) (i : Operand) : Q T Res :=
  match findT T.rows t with
    | some r => match r.ty, av i, av x with
      | .str, .rv (.cv ⟨.int _, n⟩), .rv (.cv ⟨.str, s⟩) => .opt (sidx s n) fun b => cvr (.int .u8) b
      | _, _, _ => .fail
    | none => .fail
def opExtract (T : Tab) (av : Operand → AV) (st : Option Site) (o : Oper) (x : Operand) (i : Nat) : Q T Res :=
  match av x with
    | .tup l => orFail (fun v => pv (.rv v)) l[i]?
    | _ => .fail
def opMakeFunc (T : Tab) (av : Operand → AV) (st : Option Site) (o : Oper) (f : FuncId) (first : Array Operand) (captured : Array Operand) : Q T Res :=
  match first.toList with
    | [] => orFail (fun caps => pv (.fn f caps)) (allSome (fun x => match av x with
      | .box b 0 => some (.box b)
      | .vel cs => some (.vel cs)
      | _ => none) captured.toList)
    | _ => .fail
def opSlice (T : Tab) (av : Operand → AV) (st : Option Site) (o : Oper) (t : TypeId) (x : Operand) (lo : Option Operand) (hi : Option Operand) (mx : Option Operand) : Q T Res :=
  match av x with
    | .rv (.own q) => match lo, hi, mx with
      | none, some h, none => match elemRow T.rows t, av h with
        | some (u, e, _), .rv (.cv ⟨.int _, h⟩) => .row q fun row => .chk (Nat.beq u.size row.t.size && inCut row.xs.length 0 h) (match o.dst with
          | some d => .all fun σ => match look (σ.loseRow q).rows d with
            | none => .ret (.rv (.own d), .set { (σ.loseRow q) with rows := put (σ.loseRow q).rows d ⟨row.e, row.t, row.xs.take h.toNat⟩ })
            | some _ => .fail
          | none => .fail)
        | _, _ => .fail
      | _, _, _ => .row q fun row => .all fun σ => (sliceV T.rows av t (.rv (.cv ⟨.slice row.t, row.xs⟩)) lo hi mx).map fun p => (p.1, .set (σ.freeze q))
    | .rv (.cv ⟨.ref h, n⟩) => match lo, hi, mx with
      | none, some y, none => match elemRow T.rows t, av y with
        | some _, .rv (.cv ⟨.int _, y⟩) => .heap h fun hr => .opt (hget hr.xs n) fun l => .chk (inCut l.length 0 y)
            (.ite (Nat.beq n 0) (pv (.rv (.cv ⟨.ref h, n⟩))) (newRef h hr (hkill hr.xs n) (l.take y.toNat)))
        | _, _ => .fail
      | _, _, _ => .fail
    | a => sliceV T.rows av t a lo hi mx
def opBuild (T : Tab) (av : Operand → AV) (st : Option Site) (o : Oper) (t : TypeId) (parts : Array (Nat × Operand)) : Q T Res :=
  let xs := parts.toList.map (·.2)
    bif xs.any (fun x => isOwn (av x)) then .all fun σ => (buildV T.rows (σ.frzs xs).av t parts.toList).map fun p => (p.1, .set (σ.frzs xs))
    else buildV T.rows av t parts.toList
def opBuildSlice (T : Tab) (av : Operand → AV) (st : Option Site) (o : Oper) (t : TypeId) (len : Nat) (parts : Array (Nat × Operand)) : Q T Res :=
  let xs := parts.toList.map (·.2)
    match elemRow T.rows t with
    | some (u0, e, _) => match heapAt st with
      | some h => .heap h fun hr => .chk (Nat.beq e hr.e && okHt T h hr && Nat.ble (len * hr.t.size) 16777216 && Nat.ble len 16777216) (.opt (elems av hr.t parts.toList (List.replicate len hr.t.zero)) fun ys => newRef h hr hr.xs ys)
      | none => let u := nslTy st u0
        .chk (Nat.ble (len * u.size) 16777216 && Nat.ble len 16777216) (bif xs.any (fun x => isOwn (av x)) then
          .all fun σ => .opt (elems (σ.frzs xs).av u parts.toList (List.replicate len u.zero)) fun ys => match o.dst with
            | some d => match look (σ.frzs xs).rows d with
              | none => .ret (.rv (.own d), .set { (σ.frzs xs) with rows := put (σ.frzs xs).rows d ⟨e, u, ys⟩ })
              | some _ => .fail
            | none => .fail
          else .opt (elems av u parts.toList (List.replicate len u.zero)) fun ys => newRow o.dst ⟨e, u, ys⟩)
    | none => .fail
def opMakeSlice (T : Tab) (av : Operand → AV) (st : Option Site) (o : Oper) (t : TypeId) (l : Operand) (c : Operand) : Q T Res :=
  match elemRow T.rows t, av l, av c with
    | some (u0, e, bytes), .rv (.cv ⟨.int _, l⟩), .rv (.cv ⟨.int _, c⟩) => .chk (okMake bytes l c) (match heapAt st with
      | some h => .heap h fun hr => .chk (Nat.beq e hr.e && okHt T h hr) (newRef h hr hr.xs (List.replicate l.toNat hr.t.zero))
      | none => let u := nslTy st u0
        newRow o.dst ⟨e, u, List.replicate l.toNat u.zero⟩)
    | _, _, _ => .fail
def opAlloc (T : Tab) (av : Operand → AV) (st : Option Site) (o : Oper) (t : TypeId) : Q T Res :=
  match findT T.rows t with
    | some r => match ptrOf T.rows o.type with
      | some h => .heap h fun hr => .chk (Nat.beq hr.e t && okHt T h hr) (newPtr h hr hr.t.zero)
      | none => match r.ty, elemRow T.rows t, o.dst with
        | .slice _, some (u, e, _), some d => .freeB d (.freeR d (.ret (.box d 0, .upd [.box d (.own d), .row d ⟨e, u, []⟩])))
        | _, _, _ => newBox o.dst (.cells (zeroCV r.ty))
    | none => .fail
def opBox (T : Tab) (av : Operand → AV) (st : Option Site) (o : Oper) (t : TypeId) (v : Operand) : Q T Res :=
  match findT T.rows t with
    | some r => match av v with
      | .rv (.own q) => .row q fun row => .all fun σ => match o.dst with
        | some d => match look σ.boxes d with
          | none => .ret (.box d 0, .set { (σ.freeze q) with boxes := put (σ.freeze q).boxes d (.cells [⟨.slice row.t, row.xs⟩]) })
          | some _ => .fail
        | none => .fail
      | a => orFail (fun vs => .chk (Nat.beq vs.length r.ty.size) (match ptrOf T.rows o.type with
        | some h => .heap h fun hr => .chk (Nat.beq hr.e t) (.opt (snap1 [] hr.t vs) fun x => newPtr h hr x)
        | none => newBox o.dst (.cells vs))) (cells r.ty a)
    | none => .fail
def opStore (T : Tab) (av : Operand → AV) (st : Option Site) (o : Oper) (t : TypeId) (x : Operand) (v : Operand) : Q T Res :=
  match findT T.rows t with
    | some r => match av v, av x with
      | .rv (.own q), .box b 0 => .box b fun bx => .chk (bx.one && Nat.beq r.ty.size 1) <| .all fun σ =>
          bif Nat.beq q b then .ret (.nil, .set { σ with boxes := put σ.boxes b (.own b) })
          else .ret (.nil, .set { ((σ.freeze b).rename q b) with boxes := put ((σ.freeze b).rename q b).boxes b (.own b) })
      | .rv (.own q), _ => .fail
      | .lit (.slice none 0 0), .box b 0 => match elemRow T.rows t with
        | some (u, e, _) => .box b fun bx => .chk bx.one <| .all fun σ => .ret (.nil, .set { (σ.freeze b) with rows := put (σ.freeze b).rows b ⟨e, u, []⟩, boxes := put (σ.freeze b).boxes b (.own b) })
        | none => .fail
      | a, x => orFail (fun vs => .chk (Nat.beq vs.length r.ty.size) (storeC x vs)) (cells r.ty a)
    | none => .fail
def opCallLen (T : Tab) (av : Operand → AV) (st : Option Site) (o : Oper) (args : Array Operand) (argTypes : Array TypeId) : Q T Res :=
  match args.toList, argTypes.toList with
    | [x], [t] => match findT T.rows t with
      | some r => lenV r.ty (av x)
      | none => .fail
    | _, _ => .fail
def opCallMax (T : Tab) (av : Operand → AV) (st : Option Site) (o : Oper) (args : Array Operand) : Q T Res :=
  match args.toList with
    | [x, y] => match av x, av y with
      | .rv (.cv ⟨.int i, a⟩), .rv (.cv ⟨.int _, b⟩) => cvr (.int i) (bif decide (b > a) then b else a)
      | _, _ => .fail
    | _ => .fail
def opCallMin (T : Tab) (av : Operand → AV) (st : Option Site) (o : Oper) (args : Array Operand) : Q T Res :=
  match args.toList with
    | [x, y] => match av x, av y with
      | .rv (.cv ⟨.int i, a⟩), .rv (.cv ⟨.int _, b⟩) => cvr (.int i) (bif decide (b < a) then b else a)
      | _, _ => .fail
    | _ => .fail
def opCallAppend (T : Tab) (av : Operand → AV) (st : Option Site) (o : Oper) (args : Array Operand) (argTypes : Array TypeId) : Q T Res :=
  match args.toList, argTypes.toList with
    | [s, x], [t, tx] => .chk (Nat.beq t tx) (match elemRow T.rows t with
      | some (u, e, bytes) => match av s with
        | .rv (.own r) => .row r fun row => .chk (match av x with | .rv (.own q) => !(Nat.beq q r) | _ => true) (appended row.t (av x) fun ys =>
            .chk (Nat.beq row.e e && Nat.beq row.t.size u.size && okApp bytes u.size row.xs.length ys.length) (match o.dst with
              | some d => .all fun σ => match look (σ.loseRow r).rows d with
                | none => .ret (.rv (.own d), .set { (σ.loseRow r) with rows := put (σ.loseRow r).rows d ⟨e, row.t, row.xs ++ ys⟩ })
                | some _ => .fail
              | none => .fail))
        | .rv (.cv ⟨.ref h, n⟩) => .heap h fun hr => .opt (hget hr.xs n) fun l => .chk (Nat.beq e hr.e && Nat.beq u.size hr.t.size) (appended hr.t (av x) fun ys =>
            .chk (okApp bytes hr.t.size l.length ys.length) (.ite ys.isEmpty (pv (.rv (.cv ⟨.ref h, n⟩))) (newRef h hr (hkill hr.xs n) (l ++ ys))))
        | .lit (.slice none 0 0) => match heapAt st with
          | some h => .heap h fun hr => .chk (Nat.beq e hr.e && Nat.beq u.size hr.t.size) (appended hr.t (av x) fun ys =>
              .chk (okApp bytes hr.t.size 0 ys.length) (.ite ys.isEmpty (pv (.rv (.cv ⟨.ref h, (0 : Nat)⟩))) (newRef h hr hr.xs ys)))
          | none => appended u (av x) fun ys => .chk (okApp bytes u.size 0 ys.length) (newRow o.dst ⟨e, u, ys⟩)
        | _ => .fail
      | none => .fail)
    | _, _ => .fail
def opCallValue (T : Tab) (av : Operand → AV) (st : Option Site) (o : Oper) (f : Operand) (args : Array Operand) : Q T Res :=
  match av f with
    | .yld => .all fun σ => match σ.trace with
      | ⟨.slice t, xs⟩ => .chk (flatT t) (.opt (yieldD t (args.toList.map av)) fun x => .ret (.rv (.cv ⟨.bool, true⟩), .set { σ with trace := ⟨.slice t, xs ++ [x]⟩ }))
      | _ => .fail
    | a => match fnAV a with
      | some (f, caps) => bif args.toList.any (fun x => isOwn (av x)) && !(lendable T (T.sig ((vidOf T st f (args.toList.map av ++ caps.map capAV)).getD 0))) then
          .all fun σ => (Q.on (σ.frzs args.toList) (callV T (σ.frzs args.toList).av st o.dst f caps args.toList)).map fun p => (p.1, match p.2 with
            | .upd us => .set ((σ.frzs args.toList).app us)
            | .set σ' => .set σ')
        else callV T av st o.dst f caps args.toList
      | none => .fail
def opCall (T : Tab) (av : Operand → AV) (st : Option Site) (o : Oper) (c : Call) : Q T Res := match c with
  | { callee := .builtin .len, args, argTypes } => opCallLen T av st o args argTypes
  | { callee := .builtin .max, args, .. } => opCallMax T av st o args
  | { callee := .builtin .min, args, .. } => opCallMin T av st o args
  | { callee := .builtin .append, args, argTypes } => opCallAppend T av st o args argTypes
  | { callee := .value f, args, .. } => opCallValue T av st o f args
  | _ => .fail
def opF (T : Tab) (av : Operand → AV) (sites : List (Nat × Site)) (o : Oper) : Q T Res :=
  let st := o.dst.bind (look sites)
  match o.op with
  | .move x => moveV T.rows o.type (av x)
  | .assign x => opAssign T av st o x
  | .pick c a b => opPick T av st o c a b
  | .nilCheck x => opNilCheck T av st o x
  | .load t x => loadV T.rows t (av x)
  | .binOp op xt x y _ => opBinOp T av st o op xt x y
  | .unOp op _ x => opUnOp T av st o op x
  | .convert s d x => convV T.rows s d (av x)
  | .fieldAddr s x f => fieldA T.rows s (av x) f
  | .indexAddr t x i => indexA T.rows t (av x) (av i)
  | .index t x i => opIndex T av st o t x i
  | .extract x i => opExtract T av st o x i
  | .makeFunc (.func f) first captured => opMakeFunc T av st o f first captured
  | .slice t x lo hi mx => opSlice T av st o t x lo hi mx
  | .build t parts => opBuild T av st o t parts
  | .buildSlice t len parts => opBuildSlice T av st o t len parts
  | .makeSlice t l c => opMakeSlice T av st o t l c
  | .alloc t => opAlloc T av st o t
  | .box t v => opBox T av st o t v
  | .store t x v => opStore T av st o t x v
  | .call c => opCall T av st o c
  | _ => .fail
theorem opF_eq (T : Tab) (av : Operand → AV) (sites : List (Nat × Site)) (o : Oper) : opF T av sites o = opQ T av sites o := by
  unfold opF opQ
  generalize o.dst.bind (look sites) = st
  cases o.op with
  | call c =>
    obtain ⟨callee, args, ats⟩ := c
    cases callee with
    | builtin b => cases b <;> rfl
    | value f => rfl
    | invoke r m => rfl
  | makeFunc f a b => cases f <;> rfl
  | _ => rfl
def Cls.wr (k : List Nat) : Cls → Cls
  | .M r w => .M r (k ++ w)
  | .X => .X
noncomputable def lookF {α : Type} (l : List (Nat × α)) (j : Nat) : Option α := List.rec (motive := fun _ => Option α) none (fun p _ ih => bif Nat.beq p.1 j then some p.2 else ih) l
theorem lookF_eq {α : Type} : ∀ (l : List (Nat × α)) (j : Nat), lookF l j = look l j
  | [], j => rfl
  | (k, v) :: r, j => by
    have ih := lookF_eq r j
    unfold lookF at ih ⊢
    simp only [look]
    rw [ih]
noncomputable def putDF {α : Type} (l : List (Nat × α)) (j : Nat) (v : α) : List (Nat × α) := List.rec (motive := fun _ => List (Nat × α)) [(j, v)] (fun p r ih => bif Nat.blt p.1 j then (j, v) :: p :: r else bif Nat.beq p.1 j then (j, v) :: r else p :: ih) l
theorem putDF_eq {α : Type} : ∀ (l : List (Nat × α)) (j : Nat) (v : α), putDF l j v = putD l j v
  | [], j, v => rfl
  | (k, u) :: r, j, v => by
    have ih := putDF_eq r j v
    unfold putDF at ih ⊢
    simp only [putD]
    rw [ih]
noncomputable def Slots.avF (s : Slots) (x : Operand) : AV := match s with
  | ⟨_, l, sv⟩ => match x with
    | .tmp t => match lookF l t with
      | some x => x
      | none => .nil
    | .const v => ofConst v
    | .func f => .fn f []
    | .global g => match lookF sv (gk g) with
      | some x => x
      | none => .nil
theorem avF_eq (s : Slots) (x : Operand) : s.avF x = s.av x := by
  obtain ⟨n, l, sv⟩ := s
  cases x with
  | tmp t => simp only [Slots.avF, Slots.av, nth, lookF_eq]
  | const v => rfl
  | func f => rfl
  | global g => simp only [Slots.avF, Slots.av, lookF_eq]
noncomputable def Q.runF {α : Type} (Φ : PhiT T) (q : Q T α) : AS → Cls → (Cls → α → Option R) → Option R :=
  Q.rec (motive := fun _ => AS → Cls → (Cls → α → Option R) → Option R)
    (fun a _ c k => k c a)
    (fun _ _ _ => none)
    (fun o _ ih σ c k => o.bind fun y => ih y σ c k)
    (fun b _ ih σ c k => bif b then ih σ c k else none)
    (fun b _ _ ihx ihy σ c k => bif b then ihx σ c k else ihy σ c k)
    (fun r _ ih σ c k => match look σ.rows r with
      | some x => ih x σ (c.rd (4 * r)) k
      | none => none)
    (fun r _ ih σ c k => match look σ.rows r with
      | some x => ih (List.length x.xs) σ (c.rd (4 * r + 2)) k
      | none => none)
    (fun b _ ih σ c k => match look σ.boxes b with
      | some x => ih x σ (c.rd (2 * b + 1)) k
      | none => none)
    (fun h _ ih σ c k => match σ.heaps[h]? with
      | some x => ih x σ (c.rd (hk h)) k
      | none => none)
    (fun r _ ih σ c k => match look σ.rows r with
      | none => ih σ (c.rd (4 * r)) k
      | some _ => none)
    (fun b _ ih σ c k => match look σ.boxes b with
      | none => ih σ (c.rd (2 * b + 1)) k
      | some _ => none)
    (fun v x _ ih σ c k => (Φ v x).bind fun y => ih y σ c k)
    (fun _ ih σ _ k => ih σ σ .X k)
    (fun σ' _ ih _ _ k => ih σ' .X k) q
theorem runF_eq {α : Type} (Φ : PhiT T) (q : Q T α) : ∀ (σ : AS) (c : Cls) (k : Cls → α → Option R), q.runF Φ σ c k = q.run Φ σ c k := by
  induction q with
  | ret a => intro σ c k; rfl
  | fail => intro σ c k; rfl
  | opt o q ih => intro σ c k; show o.bind (fun y => (q y).runF Φ σ c k) = o.bind fun y => (q y).run Φ σ c k; congr 1; funext y; exact ih y σ c k
  | chk b q ih => intro σ c k; cases b <;> first | rfl | exact ih σ c k
  | ite b x y ihx ihy => intro σ c k; cases b <;> first | exact ihx σ c k | exact ihy σ c k
  | row r q ih =>
    intro σ c k
    show (match look σ.rows r with | some x => (q x).runF Φ σ (c.rd (4 * r)) k | none => none) = _
    simp only [Q.run]
    cases look σ.rows r with
    | none => rfl
    | some x => exact ih x σ _ k
  | len r q ih =>
    intro σ c k
    show (match look σ.rows r with | some x => (q (List.length x.xs)).runF Φ σ (c.rd (4 * r + 2)) k | none => none) = _
    simp only [Q.run]
    cases look σ.rows r with
    | none => rfl
    | some x => exact ih _ σ _ k
  | box b q ih =>
    intro σ c k
    show (match look σ.boxes b with | some x => (q x).runF Φ σ (c.rd (2 * b + 1)) k | none => none) = _
    simp only [Q.run]
    cases look σ.boxes b with
    | none => rfl
    | some x => exact ih x σ _ k
  | heap h q ih =>
    intro σ c k
    show (match σ.heaps[h]? with | some x => (q x).runF Φ σ (c.rd (hk h)) k | none => none) = _
    simp only [Q.run]
    cases σ.heaps[h]? with
    | none => rfl
    | some x => exact ih x σ _ k
  | freeR r q ih =>
    intro σ c k
    show (match look σ.rows r with | none => q.runF Φ σ (c.rd (4 * r)) k | some _ => none) = _
    simp only [Q.run]
    cases look σ.rows r with
    | none => exact ih σ _ k
    | some x => rfl
  | freeB b q ih =>
    intro σ c k
    show (match look σ.boxes b with | none => q.runF Φ σ (c.rd (2 * b + 1)) k | some _ => none) = _
    simp only [Q.run]
    cases look σ.boxes b with
    | none => exact ih σ _ k
    | some x => rfl
  | call v x q ih => intro σ c k; show (Φ v x).bind (fun y => (q y).runF Φ σ c k) = (Φ v x).bind fun y => (q y).run Φ σ c k; congr 1; funext y; exact ih y σ c k
  | all q ih => intro σ c k; exact ih σ σ _ k
  | on σ' q ih => intro σ c k; exact ih σ' _ k
noncomputable def setNF (s : Slots) (i : Nat) (v : AV) : Slots := match s with
  | ⟨n, l, sv⟩ => bif Nat.blt i n then ⟨n, putDF l i v, sv⟩ else ⟨n, l, sv⟩
theorem setNF_eq (s : Slots) (i : Nat) (v : AV) : setNF s i v = setN s i v := by
  obtain ⟨n, l, sv⟩ := s
  unfold setNF setN
  simp only [putDF_eq]
noncomputable def AS.putdF (σ : AS) (d : Option Tmp) (v : AV) : AS := match d with
  | some d => match σ with
    | ⟨t, rows, boxes, heaps, trace, rngs, sites⟩ => ⟨setNF t d v, rows, boxes, heaps, trace, rngs, sites⟩
  | none => σ
theorem putdF_eq (σ : AS) (d : Option Tmp) (v : AV) : σ.putdF d v = σ.putd d v := by
  cases d with
  | none => rfl
  | some d =>
    obtain ⟨t, rows, boxes, heaps, trace, rngs, sites⟩ := σ
    simp only [AS.putdF, AS.putd, setNF_eq]
def AS.oneF (σ : AS) (u : TU) : AS := match σ with
  | ⟨t, rows, boxes, heaps, trace, rngs, sites⟩ => match u with
    | .row q r => ⟨t, put rows q r, boxes, heaps, trace, rngs, sites⟩
    | .rowS q r => ⟨t, put rows q r, boxes, heaps, trace, rngs, sites⟩
    | .box b x => ⟨t, rows, put boxes b x, heaps, trace, rngs, sites⟩
    | .heap h r => ⟨t, rows, boxes, heaps.set h r, trace, rngs, sites⟩
def AS.appF (σ : AS) : List TU → AS
  | [] => σ
  | u :: us => (σ.oneF u).appF us
theorem appF_eq : ∀ (us : List TU) (σ : AS), σ.appF us = σ.app us
  | [], σ => rfl
  | u :: us, σ => by
    have : σ.oneF u = σ.one u := by
      obtain ⟨t, rows, boxes, heaps, trace, rngs, sites⟩ := σ
      cases u <;> rfl
    show (σ.oneF u).appF us = (σ.one u).app us
    rw [this, appF_eq us]
noncomputable def doOp (T : Tab) (Φ : PhiT T) (σ : AS) (o : Oper) (k : Cls → AS → Option R) : Option R :=
  (opF T σ.tmps.avF σ.sites o).runF Φ σ (.M [] []) fun c r => match r.2 with
    | .upd us => k (c.wr (keysU us)) ((σ.appF us).putdF o.dst r.1)
    | .set σ' => k .X (σ'.putdF o.dst r.1)
theorem doOp_eq (T : Tab) (Φ : PhiT T) (σ : AS) (o : Oper) (k : Cls → AS → Option R) : doOp T Φ σ o k = (opQ T σ.av σ.sites o).run Φ σ (.M [] []) fun c r => match r.2 with
    | .upd us => k (c.wr (keysU us)) ((σ.app us).putd o.dst r.1)
    | .set σ' => k .X (σ'.putd o.dst r.1) := by
  unfold doOp
  have e : σ.tmps.avF = σ.av := funext fun x => avF_eq σ.tmps x
  rw [runF_eq, opF_eq, e]
  simp only [appF_eq, putdF_eq]
def AS.setb (σ : AS) (t : Nat) (b : Bool) : AS := match σ with
  | ⟨⟨n, l, sv⟩, rows, boxes, heaps, trace, rngs, sites⟩ => ⟨⟨n, setD l t (.rv (.cv ⟨.bool, b⟩)), sv⟩, rows, boxes, heaps, trace, rngs, sites⟩
noncomputable def evOp (T : Tab) (Φ : PhiT T) (ops : Array Oper) (σ : AS) (o : Oper) (k : Cls → AS → Option R) : Option R :=
  match o.guard with
  | none => doOp T Φ σ o k
  | some (j, want) => match (ops[j]?).bind (·.dst) with
    | some t => match nth σ.tmps t with
      | .rv (.cv ⟨.bool, b⟩) =>
        bif b then (bif want then doOp T Φ (σ.setb t true) o k else k (.M [] []) ((σ.setb t true).putdF o.dst (.lit undef)))
        else (bif want then k (.M [] []) ((σ.setb t false).putdF o.dst (.lit undef)) else doOp T Φ (σ.setb t false) o k)
      | .lit (.tuple _) => k (.M [] []) (σ.putdF o.dst (.lit undef))
      | _ => none
    | none => none
noncomputable def evOps (T : Tab) (Φ : PhiT T) (ops : Array Oper) : List Oper → AS → List Cls → (List Cls → AS → Option R) → Option R
  | [], σ, cs, k => k cs σ
  | o :: r, σ, cs, k => evOp T Φ ops σ o fun c σ' => evOps T Φ ops r σ' (c :: cs) k
def AS.loseR (σ : AS) : List Nat → AS
  | [] => σ
  | d :: ds => (σ.loseRow d).loseR ds
def AS.loseB (σ : AS) : List Nat → AS
  | [] => σ
  | d :: ds => (σ.loseBox d).loseB ds
def AS.tidyR (σ : AS) (d : Nat) : AS := match look σ.rows d with
  | none => σ
  | some _ => σ.loseRow d
def AS.tidyB (σ : AS) (d : Nat) : AS := match look σ.boxes d with
  | none => σ
  | some _ => σ.loseBox d
def AS.tidyRs (σ : AS) : List Nat → AS
  | [] => σ
  | d :: ds => match σ.rows with
    | [] => σ
    | _ => (σ.tidyR d).tidyRs ds
def AS.tidyBs (σ : AS) : List Nat → AS
  | [] => σ
  | d :: ds => match σ.boxes with
    | [] => σ
    | _ => (σ.tidyB d).tidyBs ds
def rowKeys : List Oper → List Nat
  | [] => []
  | o :: r => match o.op with
    | .alloc _ | .box .. | .buildSlice .. | .makeSlice .. | .slice .. | .call { callee := .builtin .append, .. } => o.dst.getD 0 :: rowKeys r
    | .call { callee := .builtin _, .. } => rowKeys r
    | .call _ => rkey o.dst :: (rkey o.dst + 1) :: (rkey o.dst + 2) :: (rkey o.dst + 3) :: rowKeys r
    | _ => rowKeys r
def boxKeys : List Oper → List Nat
  | [] => []
  | o :: r => match o.op with
    | .alloc _ | .box .. => o.dst.getD 0 :: boxKeys r
    | .call { callee := .builtin _, .. } => boxKeys r
    | .call _ => rkey o.dst :: (rkey o.dst + 1) :: (rkey o.dst + 2) :: (rkey o.dst + 3) :: boxKeys r
    | _ => boxKeys r
def AS.prep (σ : AS) (l : List Oper) : AS := (σ.tidyRs (rowKeys l)).tidyBs (boxKeys l)
def meets (a b : List Nat) : Bool := a.any fun x => b.any fun y => Nat.beq x y
def noConf : Cls → Cls → Bool
  | .M r w, .M r' w' => !(meets w r' || meets w w' || meets r w')
  | _, _ => false
def ancOf (acc : List Nat) (o : Oper) : Nat :=
  o.after.toList.foldr (fun e s => bif Region.binds .any e then (s ||| 2 ^ e.on) ||| (acc[e.on]?).getD 0 else s) 0
def ancs : List Oper → List Nat → List Nat
  | [], acc => acc
  | o :: r, acc => ancs r (acc ++ [ancOf acc o])
def okPair (ops : Array Oper) (i : Nat) (a : Oper × Cls) (m : Nat) (b : Oper × Cls) : Bool :=
  m.testBit i || (a.1.apart ops b.1 && noConf a.2 b.2)
def okRest (ops : Array Oper) (i : Nat) (a : Oper × Cls) : List (Oper × Cls) → List Nat → Bool
  | [], _ => true
  | b :: r, m :: ms => okPair ops i a m b && okRest ops i a r ms
  | _ :: _, [] => false
def okDraw (ops : Array Oper) : Nat → List (Oper × Cls) → List Nat → Bool
  | _, [], _ => true
  | i, a :: r, _ :: ms => okRest ops i a r ms && okDraw ops (i + 1) r ms
  | _, _ :: _, [] => false
def okDeps : Nat → List Oper → Bool
  | _, [] => true
  | i, o :: r => o.after.toList.all (fun e => !(Region.binds .any e) || Nat.blt e.on i) && okDeps (i + 1) r
noncomputable def evRegion (T : Tab) (Φ : PhiT T) (ops : Array Oper) (draw : Bool) (σ : AS) (k : AS → Option R) : Option R :=
  evOps T Φ ops ops.toList (σ.prep ops.toList) [] fun cs σ' =>
    bif draw then (bif okDeps 0 ops.toList && okDraw ops 0 (ops.toList.zip cs.reverse) (ancs ops.toList []) then k σ' else none) else k σ'
inductive Ex where
  | normal | exit (id : Nat) | ret
def loops : Code → Nat
  | .seq a b => loops a + loops b
  | .cond _ a b => loops a + loops b
  | .block _ c => loops c
  | .loop c => loops c + 1
  | .rangeFunc _ _ a b => loops a + loops b + 1
  | _ => 0
def loopN (h : List (Nat × Bool)) (body : AS → (Ex → AS → Option R) → Option R) (k : Ex → AS → Option R) : Nat → AS → Option R
  | 0, _ => none
  | n + 1, σ => body σ fun e σ' => match e with
    | .normal => loopN h body k n (σ'.forget h)
    | .exit i => k (.exit i) σ'
    | .ret => k .ret σ'
def argAV : (t : Ty) → t.den → AV
  | .st t, x => .rv (.agg (flat t x))
  | t, x => .rv (.cv ⟨t, x⟩)
def setPs (s : Slots) : List Tmp → (ts : List Ty) → (prodT ts).den → Option Slots
  | [], [], _ => some s
  | p :: ps, t :: ts, x => setPs (setN s p (argAV t x.1)) ps ts x.2
  | _, _, _ => none
def okSave (σ : AS) : Bool := (σ.tmps.l.all fun p => Nat.blt p.1 10000) && σ.tmps.s.all fun p => Nat.ble 1000000000 p.1
def RNG : Nat := 1000000007
def roundB (ps : List Tmp) (asg body : AS → (Ex → AS → Option R) → Option R) (σ : AS) (k : Ex → AS → Option R) : Option R :=
  match σ.rngs with
  | [] => none
  | r :: rs => match r with
    | ⟨ts, xs⟩ => match xs with
      | [] => k (.exit RNG) σ
      | x :: xs => match setPs σ.tmps ps ts x with
        | some s => asg { σ with tmps := s, rngs := ⟨ts, xs⟩ :: rs } fun e σ1 => match e with
          | .normal => body σ1 fun e σ2 => match e with
            | .normal => k .normal σ2.back
            | _ => none
          | _ => none
        | none => none
def endRounds (k : Ex → AS → Option R) : Ex → AS → Option R
  | .exit _, σ => k .normal { σ.unsave with rngs := σ.rngs.tail }
  | _, _ => none
def capBoxes (boxes : List (Nat × BX)) : (ps : List ArgT) → List Cap → Option (DenA ps)
  | [], [] => some ()
  | [.bx t], [.box b] => match look boxes b with
    | some (.cells cs) => unflat1 t cs
    | _ => none
  | .bx t :: q :: ps, .box b :: cs => match look boxes b with
    | some (.cells l) => match unflat1 t l with
      | some x => match capBoxes boxes (q :: ps) cs with
        | some y => some (x, y)
        | none => none
      | none => none
    | _ => none
  | _, _ => none
def capKeys : List Cap → List Nat
  | [] => []
  | .box b :: r => b :: capKeys r
  | .vel _ :: r => capKeys r
def noDup : List Nat → Bool
  | [] => true
  | x :: r => !(r.any (Nat.beq x)) && noDup r
def genArgs (boxes : List (Nat × BX)) : (ps : List ArgT) → List Cap → Option (DenA ps)
  | [.yld], [] => some ()
  | .yld :: q :: ps, cs => match capBoxes boxes (q :: ps) cs with
    | some y => some ((), y)
    | none => none
  | _, _ => none
def genCall (T : Tab) (Φ : PhiT T) (σ : AS) (f : AV) (k : Rng → List Nat → Option R) : Option R := match f with
  | .fn g caps => match T.cand g with
    | v :: _ => match genArgs σ.boxes (T.sig v).args caps with
      | some x => match withH x (T.sig v).hin (getH T σ.heaps (T.sig v).hin) with
        | some xh => (Φ v xh).bind fun yh => bif noDup (capKeys caps) && (T.sig v).heaps.isEmpty && Nat.beq (T.real v) g then match T.sig v, fstH _ yh with
          | ⟨_, _, _, _, some ts⟩, y => k ⟨ts, y⟩ (capKeys caps)
          | _, _ => none
          else none
        | none => none
      | none => none
    | [] => none
  | _ => none
noncomputable def evCode (T : Tab) (Φ : PhiT T) (n : Nat) : Code → List (List (Nat × Bool)) → AS → (Ex → AS → Option R) → Option R
  | .skip, _, σ, k => k .normal σ
  | .region _ ops draw, _, σ, k => evRegion T Φ ops draw σ (k .normal)
  | .seq a b, hs, σ, k => evCode T Φ n a hs σ fun e σ' => match e with
    | .normal => evCode T Φ n b (hs.drop (loops a)) σ' k
    | .exit i => k (.exit i) σ'
    | .ret => k .ret σ'
  | .cond c a b, hs, σ, k => match c with
    | .tmp t => match nth σ.tmps t with
      | .rv (.cv ⟨.bool, x⟩) => bif x then evCode T Φ n a hs (σ.setb t true) k else evCode T Φ n b (hs.drop (loops a)) (σ.setb t false) k
      | _ => none
    | .const (.bool x) => bif x then evCode T Φ n a hs σ k else evCode T Φ n b (hs.drop (loops a)) σ k
    | _ => none
  | .block id c, hs, σ, k => evCode T Φ n c hs σ fun e σ' => match e with
    | .normal => k .normal σ'
    | .exit i => bif Nat.beq i id then k .normal σ' else k (.exit i) σ'
    | .ret => k .ret σ'
  | .loop c, hs, σ, k => match hs with
    | h :: hs' => loopN h (fun σ k' => evCode T Φ n c hs' σ k') k n (σ.forget h)
    | [] => none
  | .rangeFunc f ps a b, hs, σ, k => match hs, σ.rngs, σ.trace with
    | h :: hs', [], ⟨.unit, _⟩ => genCall T Φ σ (σ.av f) fun r bs =>
        bif okSave ((σ.loseB bs).forget h) then
          loopN h (roundB ps.toList (fun σ k' => evCode T Φ n a hs' σ k') (fun σ k' => evCode T Φ n b (hs'.drop (loops a)) σ k')) (endRounds k) n
            { (((σ.loseB bs).forget h)) with rngs := [r] }.save
        else none
    | _, _, _ => none
  | .exit i, _, σ, k => k (.exit i) σ
  | .ret, _, σ, k => k .ret σ
  | _, _, _, _ => none
end
def argAVs : (ps : List ArgT) → DenA ps → Nat → List AV
  | [], _, _ => []
  | [p], x, i => [one p x i]
  | p :: q :: ps, x, i => one p x.1 i :: argAVs (q :: ps) x.2 (i + 1)
where
  velsOf : (ts : List Ty) → DenL ts → List Cap
    | [], _ => []
    | [t], x => [.vel (flat t x)]
    | t :: u :: ts, x => .vel (flat t x.1) :: velsOf (u :: ts) x.2
  one : (p : ArgT) → p.den → Nat → AV
    | .v t, x, _ => argAV t x
    | .fn f ts, x, _ => .fn f (velsOf ts x)
    | .c cs, _, _ => .rv (.agg cs)
    | .rp t, x, _ => .vel (flat t x)
    | .bx _, _, i => .box i 0
    | .yld, _, _ => .yld
def argBoxes : (ps : List ArgT) → DenA ps → Nat → List (Nat × BX)
  | [], _, _ => []
  | [p], x, i => one p x i
  | p :: q :: ps, x, i => one p x.1 i ++ argBoxes (q :: ps) x.2 (i + 1)
where
  one : (p : ArgT) → p.den → Nat → List (Nat × BX)
    | .bx t, x, i => [(i, .cells (flat t x))]
    | _, _, _ => []
def resVar (T : List TRow) (σ : AS) : ResultVar → Option AV
  | .tmp t => some (nth σ.tmps t)
  | .cell a t => match nth σ.tmps a, findT T t with
    | .box b off, some r => match look σ.boxes b with
      | some (.cells cs) => mkVal r.ty (cs.drop off)
      | some (.own q) => match r.ty with
        | .slice _ => bif Nat.beq off 0 then some (.rv (.own q)) else none
        | _ => none
      | _ => none
    | _, _ => none
def localH (heaps : List HRow) (hin : List Nat) : List HRow := heaps.zipIdx.map fun p => bif hin.any (Nat.beq p.2) then ⟨p.1.e, p.1.t, p.1.k, p.1.w, []⟩ else p.1
def resOne (σ : AS) (hin : List Nat) (p : ResT) (a : AV) : Option p.1.den :=
  match p.2, a with
  | none, .rv (.own r) => match look σ.rows r with
    | some row => (unleaf p.1 [⟨.slice row.t, row.xs⟩]).map (·.1)
    | none => none
  | none, a => bif hasRef a then typed (localH σ.heaps hin) p.1 a else typed [] p.1 a
  | some e, .rv (.own r) => match look σ.rows r with
    | some row => bif Nat.beq row.e e then (unleaf p.1 [⟨.slice row.t, row.xs⟩]).map (·.1) else none
    | none => none
  | some _, _ => none
def getRes (T : List TRow) (σ : AS) (hin : List Nat) : List ResultVar → (ts : List ResT) → Option (DenL (ts.map (·.1)))
  | [], [] => some ()
  | [v], [p] => (resVar T σ v).bind (resOne σ hin p)
  | v :: vs, p :: q :: ps => match (resVar T σ v).bind (resOne σ hin p), getRes T σ hin vs (q :: ps) with
    | some x, some y => some (x, y)
    | _, _ => none
  | _, _ => none
def ownKeys (T : List TRow) (σ : AS) : List ResultVar → List Nat
  | [] => []
  | v :: vs => match resVar T σ v with
    | some (.rv (.own r)) => r :: ownKeys T σ vs
    | _ => ownKeys T σ vs
def anyOwn (l : List ResT) : Bool := l.any fun p => p.2.isSome
def capDen (boxes : List (Nat × BX)) : (ts : List Ty) → List Cap → Option (DenL ts)
  | [], [] => some ()
  | [t], [.box b] => match look boxes b with
    | some (.cells cs) => unflat1 t cs
    | _ => none
  | t :: u :: ts, .box b :: cs => match look boxes b with
    | some (.cells l) => match unflat1 t l with
      | some x => match capDen boxes (u :: ts) cs with
        | some y => some (x, y)
        | none => none
      | none => none
    | _ => none
  | _, _ => none
def finR (T : List TRow) (vars : List ResultVar) (s : Sig) (σ : AS) : Option (SigR s) := match s with
  | ⟨_, _, _, _, some ts⟩ => match vars with
    | [] => (unleaf (.slice (prodT ts)) [σ.trace]).map (·.1)
    | _ => none
  | ⟨_, _, some (f, ts), _, none⟩ => match vars with
    | [v] => match resVar T σ v with
      | some (.fn g caps) => bif Nat.beq g f && noDup (capKeys caps) then capDen σ.boxes ts caps else none
      | _ => none
    | _ => none
  | ⟨_, res, none, hs, none⟩ => bif noDup (ownKeys T σ vars) || !(anyOwn res) then getRes T σ (hs.map (·.1)) vars res else none
def traceOf (s : Sig) : CV := match s.gen with
  | some ts => ⟨.slice (prodT ts), ([] : List (prodT ts).den)⟩
  | none => ⟨.unit, ()⟩
def startAS (T : Tab) (fn : Func) (v : Nat) (x : InT T v) : AS :=
  ⟨Slots.of (argAVs (T.sig v).args (fstH _ x) 0) (fn.ntmps - (T.sig v).args.length) T.globs, [], argBoxes (T.sig v).args (fstH _ x) 0, putH T (T.sig v).hout (T.sig v).hin (sndH _ x) (emptyH T), traceOf (T.sig v), [], T.sites v⟩
def finK (T : Tab) (fn : Func) (v : Nat) : Ex → AS → Option (OutT T v) := fun e σ => match e with
  | .exit _ => none
  | _ => match finR T.rows fn.results.toList (T.sig v) σ with
    | some y => withH y (T.sig v).hout (getH T σ.heaps (T.sig v).hout)
    | none => none
noncomputable def evBody (T : Tab) (fn : Func) (c : Code) (Φ : PhiT T) (n : Nat) (v : Nat) (x : InT T v) : Option (OutT T v) :=
  evCode T Φ n c (T.hint v) (startAS T fn v x) (finK T fn v)
abbrev Base (T : Tab) := (v : Nat) → Option (InT T v → Option (OutT T v))
noncomputable def evFn (T : Tab) (B : Base T) (fns : Nat → Option Func) : Nat → PhiT T
  | 0, _, _ => none
  | n + 1, v, x => match B v with
    | some g => g x
    | none => match fns v with
      | some fn => match fn.body with
        | some c => evBody T fn c (evFn T B fns n) n v x
        | none => none
      | none => none
end Go.Abs
set_option linter.unusedSimpArgs false
namespace Go.Abs
open Go.RowKit
section
variable {α : Type}
theorem beq_iff (a b : Nat) : Nat.beq a b = true ↔ a = b := ⟨fun h => Nat.eq_of_beq_eq_true h, fun h => by subst h; exact Nat.beq_refl a⟩
theorem beq_ff {a b : Nat} : Nat.beq a b = false ↔ a ≠ b := by
  constructor
  · intro h e; rw [(beq_iff a b).2 e] at h; cases h
  · intro h; cases hb : Nat.beq a b
    · rfl
    · exact absurd ((beq_iff a b).1 hb) h
theorem beq_refl (a : Nat) : Nat.beq a a = true := (beq_iff a a).2 rfl
theorem beq_ne {a b : Nat} (h : a ≠ b) : Nat.beq a b = false := beq_ff.2 h
theorem look_put (l : List (Nat × α)) (j : Nat) (v : α) (i : Nat) : look (put l j v) i = if j = i then some v else look l i := by
  induction l with
  | nil => by_cases h : j = i <;> simp [put, look, h, beq_refl, beq_ne]
  | cons p r ih =>
    obtain ⟨k, u⟩ := p
    simp only [put]
    cases hlt : Nat.blt j k with
    | true =>
      simp only [cond_true, look]
      by_cases h : j = i <;> simp [h, beq_refl, beq_ne]
    | false =>
      simp only [cond_false]
      cases hb : Nat.beq k j with
      | true =>
        have := (beq_iff _ _).1 hb; subst this
        simp only [cond_true, look]
        by_cases h : k = i <;> simp [h, beq_refl, beq_ne]
      | false =>
        have hne := beq_ff.1 hb
        simp only [cond_false, look, ih]
        by_cases h : k = i
        · subst h; simp [beq_refl]; intro e; exact absurd e.symm hne
        · simp [beq_ne h]
theorem look_del (l : List (Nat × α)) (j i : Nat) : look (del l j) i = if j = i then none else look l i := by
  induction l with
  | nil => simp [del, look]
  | cons p r ih =>
    obtain ⟨k, u⟩ := p
    simp only [del]
    cases hb : Nat.beq k j with
    | true =>
      have := (beq_iff _ _).1 hb; subst this
      simp only [cond_true, ih, look]
      by_cases h : k = i <;> simp [h, beq_ne]
    | false =>
      have hne := beq_ff.1 hb
      simp only [cond_false, look, ih]
      by_cases h : k = i
      · subst h; simp [beq_refl]; intro e; exact absurd e.symm hne
      · simp [beq_ne h]
theorem look_filter (l : List (Nat × α)) (p : Nat → Bool) (i : Nat) : look (l.filter fun x => p x.1) i = if p i then look l i else none := by
  induction l with
  | nil => simp [look]
  | cons q r ih =>
    obtain ⟨k, u⟩ := q
    simp only [List.filter_cons]
    by_cases hk : k = i
    · subst hk
      cases hp : p k <;> simp [look, hp, beq_refl, ih]
    · cases hp : p k <;> simp [look, hp, beq_ne hk, ih]
theorem put_comm (l : List (Nat × α)) {i j : Nat} (u v : α) (h : i ≠ j) : put (put l i u) j v = put (put l j v) i u := by
  have blt_t : ∀ {a b : Nat}, a < b → Nat.blt a b = true := fun h => by simp [Nat.blt, Nat.ble_eq]; omega
  have blt_f : ∀ {a b : Nat}, ¬ a < b → Nat.blt a b = false := fun h => by
    cases hb : Nat.blt _ _
    · rfl
    · simp [Nat.blt, Nat.ble_eq] at hb; omega
  induction l with
  | nil =>
    rcases Nat.lt_or_gt_of_ne h with h1 | h1
    · simp [put, blt_t h1, blt_f (show ¬ j < i by omega), beq_ne h]
    · simp [put, blt_t h1, blt_f (show ¬ i < j by omega), beq_ne (Ne.symm h)]
  | cons p r ih =>
    obtain ⟨k, x⟩ := p
    simp only [put]
    by_cases h1 : i < k <;> by_cases h2 : j < k <;> by_cases h3 : k = i <;> by_cases h4 : k = j <;>
      by_cases h5 : i < j <;>
      first
      | omega
      | (have h6 : ¬ j < i := by omega
         simp [put, *, blt_t, blt_f, beq_ne, beq_refl, Ne.symm h]; try omega)
      | (have h6 : j < i := by omega
         simp [put, *, blt_t, blt_f, beq_ne, beq_refl, Ne.symm h]; try omega)
end
theorem look_putD {α : Type} (l : List (Nat × α)) (j : Nat) (v : α) (i : Nat) : look (putD l j v) i = if j = i then some v else look l i := by
  induction l with
  | nil => by_cases h : j = i <;> simp [putD, look, h, beq_refl, beq_ne]
  | cons p r ih =>
    obtain ⟨k, u⟩ := p
    simp only [putD]
    cases hlt : Nat.blt k j with
    | true =>
      simp only [cond_true, look]
      by_cases h : j = i <;> simp [h, beq_refl, beq_ne]
    | false =>
      simp only [cond_false]
      cases hb : Nat.beq k j with
      | true =>
        have := (beq_iff _ _).1 hb; subst this
        simp only [cond_true, look]
        by_cases h : k = i <;> simp [h, beq_refl, beq_ne]
      | false =>
        have hne := beq_ff.1 hb
        simp only [cond_false, look, ih]
        by_cases h : k = i
        · subst h; simp [beq_refl]; intro e; exact absurd e.symm hne
        · simp [beq_ne h]
theorem look_mapD (f : AV → AV) (l : List (Nat × AV)) (i : Nat) : look (mapD f l) i = (look l i).map f := by
  induction l with
  | nil => rfl
  | cons p r ih =>
    obtain ⟨k, u⟩ := p
    simp only [mapD, List.map_cons, look] at ih ⊢
    cases Nat.beq k i <;> simp [ih]
theorem look_mem {α : Type} {l : List (Nat × α)} {i : Nat} {x : α} (h : look l i = some x) : (i, x) ∈ l := by
  induction l with
  | nil => cases h
  | cons p r ih =>
    obtain ⟨k, u⟩ := p
    simp only [look] at h
    cases hb : Nat.beq k i with
    | true =>
      have := (beq_iff _ _).1 hb; subst this
      rw [hb] at h
      have e : u = x := by simpa using h
      subst e; exact List.mem_cons_self
    | false => rw [hb] at h; exact List.mem_cons_of_mem _ (ih h)
theorem look_mapB (f : BX → BX) (l : List (Nat × BX)) (i : Nat) : look (mapB f l) i = (look l i).map f := by
  induction l with
  | nil => rfl
  | cons p r ih =>
    obtain ⟨k, u⟩ := p
    simp only [mapB, List.map_cons, look] at ih ⊢
    cases Nat.beq k i <;> simp [ih]
inductive Nm where
  | row (r : Nat) | box (b : Nat) | hp (h n : Nat)
inductive Obj where
  | row (r : Row) | box (x : BX) | hp (k : Nat) (r : Row)
def blkOf : Value → Option Nat
  | .slice (some a) _ _ => some a.block
  | .pointer (some a) => some a.block
  | .map (some r) => some r
  | _ => none
def hslot (e : TypeId) (t : Ty) (k : Nat) (o : Option (Option (List t.den))) : Option Obj := match o with
  | some (some l) => some (.hp k ⟨e, t, l⟩)
  | _ => none
def hobj (heaps : List HRow) (h : Nat) : Nat → Option Obj
  | 0 => none
  | m + 1 => match heaps[h]? with
    | some hr => hslot hr.e hr.t hr.k hr.xs[m]?
    | none => none
def AS.obj (σ : AS) : Nm → Option Obj
  | .row r => (look σ.rows r).map .row
  | .box b => (look σ.boxes b).map .box
  | .hp h n => hobj σ.heaps h n
def hlen (heaps : List HRow) (h : Nat) : Nat := match heaps[h]? with
  | some hr => hr.xs.length
  | none => 0
def Own (σ : AS) (ν : Nm → Value) (m : Nm) (k : Nat) : Prop := (σ.obj m).isSome = true ∧ blkOf (ν m) = some k
def Hid (σ : AS) (ν : Nm → Value) (k : Nat) : Prop := ∃ m, Own σ ν m k
structure Env where
  V0 : View
  w0 : World
  X : Nat → Prop
  J : CV → (Nat → Prop) → World → Prop
  XS : Nat → Value
  Y : Value
  ro : Nat → Option HRow
  h0 : List HRow
  n0 : Nat → Nat → Value
  M : Nat → Prop
  base : World
  CB : Nat → Prop
  Om : Nat → Prop
  acc : CV → Prop
  XH : Nat → Nat → Prop
def Env.OldNm (E : Env) : Nm → Nat → Prop
  | .row _, _ => False
  | .box _, _ => True
  | .hp i _, k => E.XH i k
def Env.RoNm (E : Env) (m : Nm) : Prop := ∃ i n hr, m = .hp i n ∧ E.ro i = some hr
theorem ro_row {E : Env} {r : Nat} : ¬ E.RoNm (.row r) := fun ⟨_, _, _, e, _⟩ => by cases e
theorem ro_box {E : Env} {r : Nat} : ¬ E.RoNm (.box r) := fun ⟨_, _, _, e, _⟩ => by cases e
def view (E : Env) (σ : AS) (ν : Nm → Value) (O : Nat → Prop) (w : World) : View := fun key v => match key with
  | .cell a => (a.block < E.w0.heap.size ∧ E.V0 (.cell a) v) ∨ (E.w0.heap.size ≤ a.block ∧ ¬ Hid σ ν a.block ∧ ¬ O a.block ∧ w.cell? a = some v)
  | .ref h n => 1 ≤ n ∧ n ≤ hlen σ.heaps h ∧ v = ν (.hp h n)
def RvRel (V : View) (σ : AS) (ν : Nm → Value) : RV → Value → Prop
  | .cv c, v => LRel V c v
  | .agg cs, v => ∃ vs : List Value, v = .agg vs.toArray ∧ All2 (LRel V) cs vs
  | .own r, v => v = ν (.row r) ∧ (look σ.rows r).isSome = true
def BoxAt (σ : AS) (ν : Nm → Value) (b off : Nat) (v : Value) : Prop := (look σ.boxes b).isSome = true ∧ ∃ g, ν (.box b) = .pointer (some ⟨g, 0, none⟩) ∧ v = .pointer (some ⟨g, off, none⟩)
def VelAt (V : View) (cs : List CV) (v : Value) : Prop := ∃ (ad : Addr) (vs : List Value), v = .pointer (some ad) ∧ All2 (LRel V) cs vs ∧ ∀ (j : Nat) u, vs[j]? = some u → V (ad.add j) u
def CapRel (V : View) (σ : AS) (ν : Nm → Value) : Cap → Value → Prop
  | .box b, v => BoxAt σ ν b 0 v
  | .vel cs, v => VelAt V cs v
def AvRel (V : View) (σ : AS) (ν : Nm → Value) (Y : Value) : AV → Value → Prop
  | .rv x, v => RvRel V σ ν x v
  | .lit u, v => v = u
  | .box b off, v => BoxAt σ ν b off v
  | .oel r sz i off, v => ∃ row g, look σ.rows r = some row ∧ blkOf (ν (.row r)) = some g ∧ sz = row.t.size ∧ v = .pointer (some ⟨g, i * sz + off, none⟩)
  | .vel cs, v => VelAt V cs v
  | .hel h n i off, v => ∃ hr g, σ.heaps[h]? = some hr ∧ 1 ≤ n ∧ n ≤ hr.xs.length ∧ blkOf (ν (.hp h n)) = some g ∧ v = .pointer (some ⟨g, i * hr.t.size + off, none⟩)
  | .fn f caps, v => ∃ vs : List Value, v = .func (.func f) #[] vs.toArray ∧ All2 (CapRel V σ ν) caps vs
  | .yld, v => v = Y
  | .tup l, v => ∃ vs : List Value, v = .tuple vs.toArray ∧ All2 (RvRel V σ ν) l vs
  | .nil, _ => True
def RowRel (V : View) (w : World) (v : Value) (row : Row) : Prop :=
  ∃ yss : List (List Value), w.ownsRow 0 row.e row.t.size v row.xs.length yss.flatten ∧ All2 (Rel V row.t) row.xs yss
def BoxRel (V : View) (σ : AS) (ν : Nm → Value) (w : World) (v : Value) (x : BX) : Prop :=
  ∃ g, v = .pointer (some ⟨g, 0, none⟩) ∧ match x with
    | .cells cs => ∃ (cur : Array Value) (e : TypeId), w.heap[g]? = some (.cells cur e (0, 0)) ∧ All2 (LRel V) cs cur.toList
    | .own r => ∃ e : TypeId, w.heap[g]? = some (.cells #[ν (.row r)] e (0, 0)) ∧ (look σ.rows r).isSome = true
    | .nil => ∃ (u : Value) (e : TypeId), w.heap[g]? = some (.cells #[u] e (0, 0))
def HpRel (V : View) (w : World) (k : Nat) (v : Value) (row : Row) : Prop := match k with
  | 0 => isSl v ∧ RowRel V w v row
  | 1 => ∃ (g : Nat) (cur : Array Value) (ys : List Value) (x : row.t.den), v = .pointer (some ⟨g, 0, none⟩) ∧ w.heap[g]? = some (.cells cur row.e (0, 0)) ∧ cur.toList = ys ∧ row.xs = [x] ∧ Rel V row.t x ys
  | _ => False
def ObjRel (V : View) (σ : AS) (ν : Nm → Value) (w : World) (v : Value) : Obj → Prop
  | .row row => RowRel V w v row
  | .box x => BoxRel V σ ν w v x
  | .hp k row => HpRel V w k v row
def SRel (R : AV → Value → Prop) (s : Slots) (ys : List Value) (X : Nat → Value) : Prop :=
  s.n = ys.length ∧ (∀ i x, look s.l i = some x → R x (ys.getD i undef)) ∧ ∀ i x, look s.s i = some x → R x (X i)
structure Grow (C : Nat → Prop) (w w' : World) : Prop where
  os : w'.os = w.os
  tape : w'.tape = w.tape
  output : w'.output = w.output
  size : w.heap.size ≤ w'.heap.size
  block : ∀ k, k < w.heap.size → ¬ C k → w'.heap[k]? = w.heap[k]?
theorem Grow.refl (C : Nat → Prop) (w : World) : Grow C w w := ⟨rfl, rfl, rfl, Nat.le_refl _, fun _ _ _ => rfl⟩
theorem Grow.of_below {C : Nat → Prop} {w w' : World} (h : Below w.heap.size w w') : Grow C w w' := ⟨h.os, h.tape, h.output, h.size, fun k hk _ => h.block k hk⟩
theorem Grow.mono {C C' : Nat → Prop} {w w' : World} (h : Grow C w w') (hC : ∀ k, k < w.heap.size → C k → C' k) : Grow C' w w' := ⟨h.os, h.tape, h.output, h.size, fun k hk hn => h.block k hk fun hc => hn (hC k hk hc)⟩
theorem Grow.trans {C D : Nat → Prop} {a b c : World} (h : Grow C a b) (k : Grow D b c) (hD : ∀ i, i < a.heap.size → D i → C i) : Grow C a c :=
  ⟨k.os.trans h.os, k.tape.trans h.tape, k.output.trans h.output, Nat.le_trans h.size k.size, fun i hi hn =>
    (k.block i (Nat.lt_of_lt_of_le hi h.size) fun hd => hn (hD i hi hd)).trans (h.block i hi hn)⟩
theorem Grow.below {w w' : World} (h : Grow (fun _ => False) w w') : Below w.heap.size w w' := ⟨h.os, h.tape, h.output, h.size, fun k hk => h.block k hk id⟩
def HVal (k : Nat) (v : Value) : Prop := (k = 0 ∧ ∃ g n c, v = .slice (some ⟨g, 0, none⟩) n c) ∨ (k = 1 ∧ ∃ g, v = .pointer (some ⟨g, 0, none⟩))
structure SameH (hr hr' : HRow) : Prop where
  e : hr'.e = hr.e
  t : hr'.t = hr.t
  k : hr'.k = hr.k
  w : hr'.w = hr.w
theorem SameH.refl (hr : HRow) : SameH hr hr := ⟨rfl, rfl, rfl, rfl⟩
theorem SameH.trans {a b c : HRow} (h : SameH a b) (g : SameH b c) : SameH a c := ⟨g.e.trans h.e, g.t.trans h.t, g.k.trans h.k, g.w.trans h.w⟩
structure HK (h0 : List HRow) (n0 : Nat → Nat → Value) (hs : List HRow) (ν : Nm → Value) : Prop where
  num : hs.length = h0.length
  row : ∀ (h : Nat) (hr : HRow), h0[h]? = some hr → ∃ hr' : HRow, hs[h]? = some hr' ∧ SameH hr hr' ∧ hr.xs.length ≤ hr'.xs.length
  nm : ∀ h n, 1 ≤ n → n ≤ hlen h0 h → ν (.hp h n) = n0 h n
structure St (E : Env) (σ : AS) (a : Act) (w : World) (ν : Nm → Value) (O : Nat → Prop) : Prop where
  keep : Grow E.X E.w0 w
  marks : ∀ d ∈ a.defers, ∃ r, d = ⟨.collected r, #[]⟩ ∧ E.w0.heap.size ≤ r ∧ w.heap[r]? = some (.deferred (some [])) ∧ ¬ O r
  slots : SRel (AvRel (view E σ ν O w) σ ν E.Y) σ.tmps a.tmps.toList E.XS
  objs : ∀ m o, σ.obj m = some o → ObjRel (view E σ ν O w) σ ν w (ν m) o
  inj : ∀ m m' k, Own σ ν m k → Own σ ν m' k → m = m'
  bnd : ∀ m k, Own σ ν m k → (E.w0.heap.size ≤ k ∨ E.X k ∨ E.RoNm m) ∧ k < w.heap.size ∧ ¬ O k
  new : ∀ m k, Own σ ν m k → E.w0.heap.size ≤ k ∨ E.OldNm m k
  out : E.J σ.trace O w ∧ ∀ k, O k → k < w.heap.size ∧ (k < E.w0.heap.size → E.X k)
  nn : ∀ (h : Nat) (hr : HRow) (n : Nat), σ.heaps[h]? = some hr → 1 ≤ n → n ≤ hr.xs.length → HVal hr.k (ν (.hp h n))
  ro : ∀ h hr, E.ro h = some hr → σ.heaps[h]? = some hr ∧ hr.w = false
  kept : HK E.h0 E.n0 σ.heaps ν
  waits : ∀ r, E.M r → w.heap[r]? = some (.deferred (some [])) ∧ ¬ O r
  baseG : Grow E.CB E.base w
  baseH : ∀ m k, Own σ ν m k → E.RoNm m ∨ E.CB k ∨ E.base.heap.size ≤ k
  omin : ∀ k, E.Om k → O k
  nd : a.defers.Nodup
structure EnvOk (E : Env) : Prop where
  cell : ∀ ad v, E.V0 (.cell ad) v → E.w0.cell? ad = some v ∧ ¬ E.X ad.block
  stay : ∀ tr O w w' C, E.J tr O w → Grow C w w' → (∀ k, C k → ¬ O k ∧ (k < E.w0.heap.size → E.X k)) → E.J tr O w'
section
variable {E : Env} {σ σ' : AS} {a : Act} {w w' : World} {ν ν' : Nm → Value} {O : Nat → Prop}
abbrev St.V (E : Env) (σ : AS) (w : World) (ν : Nm → Value) (O : Nat → Prop) : View := view E σ ν O w
theorem view_cell (hE : EnvOk E) (hb : Grow E.X E.w0 w) {a : Addr} {v : Value} (h : view E σ ν O w a v) : w.cell? a = some v := by
  rcases h with ⟨hlt, h⟩ | ⟨_, _, _, h⟩
  · obtain ⟨h1, h2⟩ := hE.cell _ _ h
    rw [World.cell?_of_block (hb.block a.block hlt h2)]; exact h1
  · exact h
structure HSub (σ : AS) (ν : Nm → Value) (σ' : AS) (ν' : Nm → Value) : Prop where
  num : σ'.heaps.length = σ.heaps.length
  row : ∀ (h : Nat) (hr : HRow), σ.heaps[h]? = some hr → ∃ hr' : HRow, σ'.heaps[h]? = some hr' ∧ SameH hr hr' ∧ hr.xs.length ≤ hr'.xs.length
  nm : ∀ h n, 1 ≤ n → n ≤ hlen σ.heaps h → ν' (.hp h n) = ν (.hp h n)
theorem HSub.of_eq (e : σ'.heaps = σ.heaps) (hν : ∀ i n, ν' (.hp i n) = ν (.hp i n)) : HSub σ ν σ' ν' := ⟨by rw [e], fun i hr h => ⟨hr, by rw [e]; exact h, SameH.refl _, Nat.le_refl _⟩, fun i n _ _ => hν i n⟩
theorem HSub.refl (σ : AS) (ν : Nm → Value) : HSub σ ν σ ν := HSub.of_eq rfl fun _ _ => rfl
theorem HSub.len (h : HSub σ ν σ' ν') (i : Nat) : hlen σ.heaps i ≤ hlen σ'.heaps i := by
  unfold hlen
  cases hi : σ.heaps[i]? with
  | none => exact Nat.zero_le _
  | some hr =>
    obtain ⟨hr', h1, _, h2⟩ := h.row i hr hi
    simp only [h1]; exact h2
theorem HK.trans {h0 : List HRow} {n0 : Nat → Nat → Value} (h : HK h0 n0 σ.heaps ν) (hs : HSub σ ν σ' ν') : HK h0 n0 σ'.heaps ν' := by
  have hle : ∀ i n, 1 ≤ n → n ≤ hlen h0 i → n ≤ hlen σ.heaps i := fun i n h1 h2 => by
    unfold hlen at h2
    cases hi : h0[i]? with
    | none => rw [hi] at h2; dsimp only at h2; omega
    | some hr =>
      rw [hi] at h2
      obtain ⟨hr', e1, _, e2⟩ := h.row i hr hi
      unfold hlen
      rw [e1]
      exact Nat.le_trans h2 e2
  refine ⟨hs.num.trans h.num, fun i hr e => ?_, fun i n h1 h2 => (hs.nm i n h1 (hle i n h1 h2)).trans (h.nm i n h1 h2)⟩
  obtain ⟨hr1, e1, e2, e3⟩ := h.row i hr e
  obtain ⟨hr2, e4, e5, e6⟩ := hs.row i hr1 e1
  exact ⟨hr2, e4, e2.trans e5, Nat.le_trans e3 e6⟩
theorem view_mono {O' : Nat → Prop} {C : Nat → Prop} (hg : Grow C w w') (hs : HSub σ ν σ' ν')
    (hk : ∀ k, E.w0.heap.size ≤ k → k < w.heap.size → ¬ Hid σ ν k → ¬ O k → ¬ Hid σ' ν' k ∧ ¬ O' k ∧ ¬ C k) {key : Key} {v : Value}
    (h : view E σ ν O w key v) : view E σ' ν' O' w' key v := by
  cases key with
  | cell a =>
    rcases h with h | ⟨h1, h2, h3, h4⟩
    · exact .inl h
    · have hlt := World.block_lt_of_cell? w a h4
      obtain ⟨h5, h6, h7⟩ := hk _ h1 hlt h2 h3
      exact .inr ⟨h1, h5, h6, by rw [World.cell?_of_block (hg.block _ hlt h7)]; exact h4⟩
  | ref i n =>
    obtain ⟨h1, h2, h3⟩ := h
    exact ⟨h1, Nat.le_trans h2 (hs.len i), by rw [hs.nm i n h1 h2]; exact h3⟩
structure Sub (σ : AS) (ν : Nm → Value) (σ' : AS) (ν' : Nm → Value) : Prop extends HSub σ ν σ' ν' where
  rows : ∀ r row, look σ.rows r = some row → ν' (.row r) = ν (.row r) ∧ ∃ row', look σ'.rows r = some row' ∧ row'.t.size = row.t.size
  boxes : ∀ b, (look σ.boxes b).isSome = true → ν' (.box b) = ν (.box b) ∧ (look σ'.boxes b).isSome = true
theorem Sub.refl (σ : AS) (ν : Nm → Value) : Sub σ ν σ ν := ⟨HSub.refl σ ν, fun r row h => ⟨rfl, row, h, rfl⟩, fun b h => ⟨rfl, h⟩⟩
theorem Sub.rowS (h : Sub σ ν σ' ν') {r : Nat} (hr : (look σ.rows r).isSome = true) : ν' (.row r) = ν (.row r) ∧ (look σ'.rows r).isSome = true := by
  obtain ⟨row, hrow⟩ := Option.isSome_iff_exists.1 hr
  obtain ⟨h1, row', h2, _⟩ := h.rows r row hrow
  exact ⟨h1, by simp [h2]⟩
theorem RvRel.mono {V V' : View} (hV : ∀ a v, V a v → V' a v) (hs : Sub σ ν σ' ν') : ∀ (x : RV) (v : Value), RvRel V σ ν x v → RvRel V' σ' ν' x v
  | .cv c, v, h => LRel.mono hV c v h
  | .agg cs, v, ⟨vs, e, h⟩ => ⟨vs, e, h.mono (LRel.mono hV)⟩
  | .own r, v, ⟨e, h⟩ => ⟨by rw [(hs.rowS h).1]; exact e, (hs.rowS h).2⟩
theorem BoxAt.mono (hs : Sub σ ν σ' ν') {b off : Nat} {v : Value} (h : BoxAt σ ν b off v) : BoxAt σ' ν' b off v := by
  obtain ⟨h1, g, h2, h3⟩ := h
  obtain ⟨h4, h5⟩ := hs.boxes b h1
  exact ⟨h5, g, by rw [h4]; exact h2, h3⟩
theorem VelAt.mono {V V' : View} (hV : ∀ a v, V a v → V' a v) {cs : List CV} {v : Value} (h : VelAt V cs v) : VelAt V' cs v := by
  obtain ⟨ad, vs, h1, h2, h3⟩ := h; exact ⟨ad, vs, h1, h2.mono (LRel.mono hV), fun j u hj => hV _ _ (h3 j u hj)⟩
theorem CapRel.mono {V V' : View} (hV : ∀ a v, V a v → V' a v) (hs : Sub σ ν σ' ν') : ∀ (x : Cap) (v : Value), CapRel V σ ν x v → CapRel V' σ' ν' x v
  | .box b, v, h => BoxAt.mono hs h
  | .vel cs, v, h => VelAt.mono hV h
theorem AvRel.mono {V V' : View} {Y : Value} (hV : ∀ a v, V a v → V' a v) (hs : Sub σ ν σ' ν') : ∀ (x : AV) (v : Value), AvRel V σ ν Y x v → AvRel V' σ' ν' Y x v := by
  intro x v h
  cases x with
  | rv x => exact RvRel.mono hV hs x v h
  | lit u => exact h
  | box b off => exact BoxAt.mono hs h
  | oel r sz i off =>
    obtain ⟨row, g, h1, h2, h3, h4⟩ := h
    obtain ⟨h5, row', h6, h7⟩ := hs.rows r row h1
    exact ⟨row', g, h6, by rw [h5]; exact h2, by rw [h7]; exact h3, h4⟩
  | vel cs => exact VelAt.mono hV h
  | hel i n j off =>
    obtain ⟨hr, g, h1, h2, h3, h4, h5⟩ := h
    obtain ⟨hr', h6, h7, h8⟩ := hs.row i hr h1
    exact ⟨hr', g, h6, h2, Nat.le_trans h3 h8, by rw [hs.nm i n h2 (by unfold hlen; simp only [h1]; exact h3)]; exact h4, by rw [h7.t]; exact h5⟩
  | fn f caps => obtain ⟨vs, h1, h2⟩ := h; exact ⟨vs, h1, h2.mono (CapRel.mono hV hs)⟩
  | yld => exact h
  | tup l => obtain ⟨vs, h1, h2⟩ := h; exact ⟨vs, h1, h2.mono (RvRel.mono hV hs)⟩
  | nil => trivial
theorem ownsRow_block {w w' : World} {e : TypeId} {size n : Nat} {v : Value} {xs : List Value} (hk : ∀ k, blkOf v = some k → w'.heap[k]? = w.heap[k]?) (h : w.ownsRow 0 e size v n xs) : w'.ownsRow 0 e size v n xs := by
  obtain ⟨h1, h2⟩ := h
  refine ⟨h1, ?_⟩
  rcases h2 with h2 | ⟨g, cap, cur, rfl, hb, hg, rest⟩
  · exact .inl h2
  · exact .inr ⟨g, cap, cur, rfl, hb, by rw [hk g rfl]; exact hg, rest⟩
theorem RowRel.mono {V V' : View} {v : Value} {row : Row} (hV : ∀ a v, V a v → V' a v) (hk : ∀ k, blkOf v = some k → w'.heap[k]? = w.heap[k]?)
    (h : RowRel V w v row) : RowRel V' w' v row := by
  obtain ⟨yss, h1, h3⟩ := h
  exact ⟨yss, ownsRow_block hk h1, h3.mono (Rel.mono hV _)⟩
theorem HpRel.mono {V V' : View} {k : Nat} {v : Value} {row : Row} (hV : ∀ a v, V a v → V' a v) (hk : ∀ k, blkOf v = some k → w'.heap[k]? = w.heap[k]?)
    (h : HpRel V w k v row) : HpRel V' w' k v row := by
  match k, h with
  | 0, ⟨h1, h2⟩ => exact ⟨h1, h2.mono hV hk⟩
  | 1, ⟨g, cur, ys, x, h1, h2, h3, h4, h5⟩ => exact ⟨g, cur, ys, x, h1, by rw [hk g (by rw [h1]; rfl)]; exact h2, h3, h4, Rel.mono hV _ _ _ h5⟩
theorem BoxRel.mono {V V' : View} {v : Value} {x : BX} (hV : ∀ a v, V a v → V' a v) (hk : ∀ k, blkOf v = some k → w'.heap[k]? = w.heap[k]?)
    (hr : ∀ r, x = .own r → (look σ.rows r).isSome = true → ν' (.row r) = ν (.row r) ∧ (look σ'.rows r).isSome = true) (h : BoxRel V σ ν w v x) : BoxRel V' σ' ν' w' v x := by
  obtain ⟨g, h1, h2⟩ := h
  have hg := hk g (by rw [h1]; rfl)
  refine ⟨g, h1, ?_⟩
  cases x with
  | cells cs => obtain ⟨cur, e, h3, h4⟩ := h2; exact ⟨cur, e, by rw [hg]; exact h3, h4.mono (LRel.mono hV)⟩
  | own r =>
    obtain ⟨e, h3, h4⟩ := h2
    obtain ⟨h5, h6⟩ := hr r rfl h4
    exact ⟨e, by rw [hg, h5]; exact h3, h6⟩
  | nil => obtain ⟨u, e, h3⟩ := h2; exact ⟨u, e, by rw [hg]; exact h3⟩
theorem ObjRel.mono {V V' : View} {v : Value} {o : Obj} (hV : ∀ a v, V a v → V' a v) (hk : ∀ k, blkOf v = some k → w'.heap[k]? = w.heap[k]?)
    (hr : ∀ r, o = .box (.own r) → (look σ.rows r).isSome = true → ν' (.row r) = ν (.row r) ∧ (look σ'.rows r).isSome = true) (h : ObjRel V σ ν w v o) : ObjRel V' σ' ν' w' v o := by
  cases o with
  | row row => exact RowRel.mono hV hk h
  | box x => exact BoxRel.mono hV hk (fun r e => hr r (by rw [e])) h
  | hp k row => exact HpRel.mono hV hk h
theorem SRel.mono {R S : AV → Value → Prop} {s : Slots} {ys : List Value} {X : Nat → Value} (h : SRel R s ys X) (hf : ∀ x v, R x v → S x v) : SRel S s ys X :=
  ⟨h.1, fun i x hx => hf _ _ (h.2.1 i x hx), fun i x hx => hf _ _ (h.2.2 i x hx)⟩
theorem nth_rel {R : AV → Value → Prop} (hn : ∀ v, R .nil v) {s : Slots} {ys : List Value} {X : Nat → Value} (h : SRel R s ys X) (i : Nat) : R (nth s i) (ys.getD i undef) := by
  unfold nth
  cases hl : look s.l i with
  | none => exact hn _
  | some x => exact h.2.1 i x hl
theorem blt_iff (a b : Nat) : Nat.blt a b = true ↔ a < b := by simp [Nat.blt, Nat.ble_eq]; omega
theorem setN_rel {R : AV → Value → Prop} {s : Slots} {ys : List Value} {X : Nat → Value} {i : Nat} {x : AV} {y : Value} (h : SRel R s ys X) (hx : R x y) : SRel R (setN s i x) (ys.set i y) X := by
  unfold setN
  cases hb : Nat.blt i s.n with
  | true =>
    have hi : i < ys.length := by rw [← h.1]; exact (blt_iff _ _).1 hb
    refine ⟨by rw [List.length_set]; exact h.1, fun j z hz => ?_, h.2.2⟩
    have hz' : look (putD s.l i x) j = some z := hz
    rw [look_putD] at hz'
    by_cases e : i = j
    · subst e
      rw [if_pos rfl] at hz'
      obtain rfl : x = z := by simpa using hz'
      simpa [List.getD, List.getElem?_set, hi] using hx
    · rw [if_neg e] at hz'
      have := h.2.1 j z hz'
      simpa [List.getD, List.getElem?_set, e] using this
  | false =>
    have hi : ¬ i < ys.length := fun hi => by rw [← h.1, ← blt_iff, hb] at hi; cases hi
    simp only [cond_false]
    rw [List.set_eq_of_length_le (by omega)]; exact h
theorem map_rel {R S : AV → Value → Prop} {f : AV → AV} (hf : ∀ x v, R x v → S (f x) v) {s : Slots} {ys : List Value} {X : Nat → Value} (h : SRel R s ys X) : SRel S (s.map f) ys X := by
  refine ⟨h.1, fun i x hx => ?_, fun i x hx => ?_⟩
  · have hx' : look (mapD f s.l) i = some x := hx
    rw [look_mapD] at hx'
    obtain ⟨z, hz, rfl⟩ := Option.map_eq_some_iff.1 hx'
    exact hf _ _ (h.2.1 i z hz)
  · have hx' : look (mapD f s.s) i = some x := hx
    rw [look_mapD] at hx'
    obtain ⟨z, hz, rfl⟩ := Option.map_eq_some_iff.1 hx'
    exact hf _ _ (h.2.2 i z hz)
theorem putd_rel {R : AV → Value → Prop} {σ : AS} {a : Act} {X : Nat → Value} {d : Option Tmp} {x : AV} {v : Value} (h : SRel R σ.tmps a.tmps.toList X) (hx : R x v) :
    SRel R (σ.putd d x).tmps (a.put d v).tmps.toList X := by
  cases d with
  | none => exact h
  | some d => simpa [AS.putd, Act.put] using setN_rel h hx
theorem put_defers' {a : Act} {d : Option Tmp} {v : Value} : (a.put d v).defers = a.defers := by cases d <;> rfl
def Same (σ σ' : AS) : Prop := σ'.rows = σ.rows ∧ σ'.boxes = σ.boxes ∧ σ'.heaps = σ.heaps ∧ σ'.trace = σ.trace
theorem Same.obj (h : Same σ σ') : σ'.obj = σ.obj := by
  obtain ⟨h1, h2, h3, _⟩ := h
  funext m; cases m <;> simp [AS.obj, h1, h2, h3]
theorem Same.view (h : Same σ σ') : view E σ' ν O w = view E σ ν O w := by
  have := h.obj
  unfold Abs.view Hid Own; rw [this, h.2.2.1]
theorem Same.sub (h : Same σ σ') : Sub σ ν σ' ν := by
  obtain ⟨h1, h2, h3, _⟩ := h
  exact ⟨HSub.of_eq h3 (fun _ _ => rfl), fun r row h => ⟨rfl, row, by rw [h1]; exact h, rfl⟩, fun b h => ⟨rfl, by rw [h2]; exact h⟩⟩
theorem Same.av (h : Same σ σ') {V : View} {Y : Value} {x : AV} {v : Value} (hr : AvRel V σ ν Y x v) : AvRel V σ' ν Y x v := AvRel.mono (fun _ _ h => h) h.sub x v hr
theorem Same.symm (h : Same σ σ') : Same σ' σ := ⟨h.1.symm, h.2.1.symm, h.2.2.1.symm, h.2.2.2.symm⟩
theorem Same.putd {d : Option Tmp} {x : AV} : Same σ (σ.putd d x) := by cases d <;> exact ⟨rfl, rfl, rfl, rfl⟩
theorem St.reslot (h : St E σ a w ν O) (hs : Same σ σ') {a' : Act} (hd : a'.defers = a.defers) (hsl : SRel (AvRel (view E σ ν O w) σ ν E.Y) σ'.tmps a'.tmps.toList E.XS) : St E σ' a' w ν O := by
  have hv : view E σ' ν O w = view E σ ν O w := hs.view
  refine ⟨h.keep, by rw [hd]; exact h.marks, ?_, ?_, ?_, ?_, ?_, ?_, ?_, ?_, ?_, h.waits, h.baseG, ?_, h.omin, by rw [hd]; exact h.nd⟩
  · rw [hv]; exact hsl.mono fun x v hr => hs.av hr
  · intro m o ho
    rw [hs.obj] at ho
    rw [hv]
    exact (h.objs m o ho).mono (fun _ _ h => h) (fun _ _ => rfl) (fun r _ hr => ⟨rfl, by rw [hs.1]; exact hr⟩)
  · unfold Own; rw [hs.obj]; exact h.inj
  · unfold Own; rw [hs.obj]; exact h.bnd
  · unfold Own; rw [hs.obj]; exact h.new
  · rw [hs.2.2.2]; exact h.out
  · rw [hs.2.2.1]; exact h.nn
  · rw [hs.2.2.1]; exact h.ro
  · rw [hs.2.2.1]; exact h.kept
  · unfold Own; rw [hs.obj]; exact h.baseH
theorem St.slot (h : St E σ a w ν O) {d : Option Tmp} {x : AV} {v : Value} (hx : AvRel (view E σ ν O w) σ ν E.Y x v) : St E (σ.putd d x) (a.put d v) w ν O :=
  h.reslot Same.putd put_defers' (putd_rel h.slots hx)
theorem ofConst_rel {V : View} {Y : Value} (v : Value) : AvRel V σ ν Y (ofConst v) v := by
  cases v <;> first | exact rfl | (show Rel V _ _ _; rfl)
def EnvG (E : Env) : Prop := ∀ g, E.XS (gk g) = .pointer (some ⟨g, 0, none⟩)
theorem St.av (hG : EnvG E) (h : St E σ a w ν O) (x : Operand) : AvRel (view E σ ν O w) σ ν E.Y (σ.av x) (a.eval x) := by
  cases x with
  | tmp t =>
    have := nth_rel (fun v => by trivial) h.slots t
    simpa [AS.av, Slots.av, Act.eval] using this
  | const v => exact ofConst_rel v
  | global g =>
    simp only [AS.av, Slots.av]
    cases hl : look σ.tmps.s (gk g) with
    | none => trivial
    | some x => have := h.slots.2.2 _ x hl; rw [hG g] at this; exact this
  | func f => exact ⟨[], rfl, trivial⟩
theorem St.step (hE : EnvOk E) (h : St E σ a w ν O) {C : Nat → Prop} {a' : Act} (hg : Grow C w w') (hC : ∀ k, C k → ∃ m, Own σ ν m k ∧ ¬ E.RoNm m) (hs : HSub σ ν σ' ν')
    (hown : ∀ m k, Own σ' ν' m k → (∃ m', Own σ ν m' k ∧ (E.RoNm m' → E.RoNm m)) ∨ w.heap.size ≤ k) (hlt : ∀ m k, Own σ' ν' m k → k < w'.heap.size) (hinj : ∀ m m' k, Own σ' ν' m k → Own σ' ν' m' k → m = m')
    (hnew : ∀ m k, Own σ' ν' m k → E.w0.heap.size ≤ k ∨ E.OldNm m k) (htr : σ'.trace = σ.trace) (hd : a'.defers = a.defers)
    (hnn : ∀ (h : Nat) (hr : HRow) (n : Nat), σ'.heaps[h]? = some hr → 1 ≤ n → n ≤ hr.xs.length → HVal hr.k (ν' (.hp h n)))
    (hro : ∀ h hr, E.ro h = some hr → σ'.heaps[h]? = some hr)
    (hobjs : (∀ key v, view E σ ν O w key v → view E σ' ν' O w' key v) → ∀ m o, σ'.obj m = some o → ObjRel (view E σ' ν' O w') σ' ν' w' (ν' m) o)
    (hsl : (∀ key v, view E σ ν O w key v → view E σ' ν' O w' key v) → SRel (AvRel (view E σ' ν' O w') σ' ν' E.Y) σ'.tmps a'.tmps.toList E.XS) : St E σ' a' w' ν' O := by
  have hmono : ∀ key v, view E σ ν O w key v → view E σ' ν' O w' key v := fun key v hv => view_mono hg hs (fun k h1 h2 h3 h4 => ⟨fun ⟨m, hm⟩ => by
    rcases hown m k hm with ⟨m', h5, _⟩ | h5
    · exact h3 ⟨m', h5⟩
    · omega, h4, fun hc => h3 ((hC k hc).imp fun _ h => h.1)⟩) hv
  have hcell : ∀ r ds, w.heap[r]? = some (.deferred ds) → ¬ C r := fun r ds h3 hc => by
    obtain ⟨m, hm, _⟩ := hC r hc
    obtain ⟨o, ho⟩ := Option.isSome_iff_exists.1 hm.1
    have hrel := h.objs m o ho
    have hblk := hm.2
    -- an owned block holds cells
    have : ∃ cur e, w.heap[r]? = some (.cells cur e (0, 0)) := by
      cases o with
      | row row =>
        obtain ⟨yss, ⟨_, h5⟩, _⟩ := hrel
        rcases h5 with ⟨h5, _⟩ | ⟨g, cap, cur, h5, _, h6, _⟩
        · rw [h5] at hblk; cases hblk
        · rw [h5] at hblk; simp only [blkOf, Option.some.injEq] at hblk; subst hblk; exact ⟨_, _, h6⟩
      | box x =>
        obtain ⟨g, h5, h6⟩ := hrel
        rw [h5] at hblk; simp only [blkOf, Option.some.injEq] at hblk; subst hblk
        cases x with
        | cells cs => obtain ⟨cur, e, h7, _⟩ := h6; exact ⟨_, _, h7⟩
        | own q => obtain ⟨e, h7, _⟩ := h6; exact ⟨_, _, h7⟩
        | nil => obtain ⟨u, e, h7⟩ := h6; exact ⟨_, _, h7⟩
      | hp k row =>
        match k, hrel with
        | 0, ⟨_, yss, ⟨_, h5⟩, _⟩ =>
          rcases h5 with ⟨h5, _⟩ | ⟨g, cap, cur, h5, _, h6, _⟩
          · rw [h5] at hblk; cases hblk
          · rw [h5] at hblk; simp only [blkOf, Option.some.injEq] at hblk; subst hblk; exact ⟨_, _, h6⟩
        | 1, ⟨g, cur, ys, x, h5, h6, _⟩ => rw [h5] at hblk; simp only [blkOf, Option.some.injEq] at hblk; subst hblk; exact ⟨_, _, h6⟩
    obtain ⟨cur, e, h5⟩ := this
    rw [h5] at h3; cases h3
  refine ⟨h.keep.trans hg (fun k hk hc => ?_), ?_, hsl hmono, hobjs hmono, hinj, ?_, hnew, ?_, hnn, fun i hr e => ⟨hro i hr e, (h.ro i hr e).2⟩, h.kept.trans hs, fun r hr => ?_, h.baseG.trans hg (fun k hk hc => ?_), fun m k hm => ?_, h.omin, by rw [hd]; exact h.nd⟩
  · obtain ⟨m, hm, hm2⟩ := hC k hc
    rcases (h.bnd m k hm).1 with h1 | h1 | h1
    · omega
    · exact h1
    · exact absurd h1 hm2
  · rw [hd]
    intro d hdm
    obtain ⟨r, h1, h2, h3, h4⟩ := h.marks d hdm
    exact ⟨r, h1, h2, by rw [hg.block r (Array.getElem?_eq_some_iff.1 h3).1 (hcell r _ h3)]; exact h3, h4⟩
  · intro m k hm
    refine ⟨?_, hlt m k hm, ?_⟩
    · rcases hown m k hm with ⟨m', h1, h2⟩ | h1
      · exact (h.bnd m' k h1).1.imp id (Or.imp id h2)
      · exact .inl (Nat.le_trans h.keep.size h1)
    · intro ho
      rcases hown m k hm with ⟨m', h1, _⟩ | h1
      · exact (h.bnd m' k h1).2.2 ho
      · exact absurd (h.out.2 k ho).1 (by omega)
  · rw [htr]
    refine ⟨hE.stay _ _ _ _ C h.out.1 hg (fun k hc => ?_), fun k hk => ⟨Nat.lt_of_lt_of_le (h.out.2 k hk).1 hg.size, (h.out.2 k hk).2⟩⟩
    obtain ⟨m, hm, hm2⟩ := hC k hc
    refine ⟨(h.bnd m k hm).2.2, fun hk => ?_⟩
    rcases (h.bnd m k hm).1 with h1 | h1 | h1
    · omega
    · exact h1
    · exact absurd h1 hm2
  · obtain ⟨h1, h2⟩ := h.waits r hr
    exact ⟨by rw [hg.block r (Array.getElem?_eq_some_iff.1 h1).1 (hcell r _ h1)]; exact h1, h2⟩
  · obtain ⟨m, hm, hm2⟩ := hC k hc
    rcases h.baseH m k hm with h1 | h1 | h1
    · exact absurd h1 hm2
    · exact h1
    · omega
  · rcases hown m k hm with ⟨m', h1, h2⟩ | h1
    · exact (h.baseH m' k h1).imp h2 id
    · exact .inr (.inr (Nat.le_trans h.baseG.size h1))
theorem St.grow (hE : EnvOk E) (h : St E σ a w ν O) (hb : Below w.heap.size w w') : St E σ a w' ν O := by
  refine h.step hE (C := fun _ => False) (Grow.of_below hb) (fun k hk => hk.elim) (HSub.refl σ ν) (fun m k hm => .inl ⟨m, hm, id⟩) (fun m k hm => Nat.lt_of_lt_of_le (h.bnd m k hm).2.1 hb.size) h.inj h.new rfl rfl h.nn (fun i hr e => (h.ro i hr e).1) (fun hV m o ho => ?_) (fun hV => h.slots.mono (AvRel.mono hV (Sub.refl σ ν)))
  exact (h.objs m o ho).mono hV (fun k hk => hb.block k (h.bnd m k ⟨by rw [ho]; rfl, hk⟩).2.1) (fun r _ hr => ⟨rfl, hr⟩)
end
end Go.Abs
namespace Go.Abs
open Go.RowKit
def descOk (P : Program) (T : List TRow) (r : TRow) : Ty → Prop
  | .int k => P.underlying r.id = some (.int k)
  | .bool => P.underlying r.id = some .bool
  | .str => P.underlying r.id = some .string
  | .slice u => P.underlying r.id = some (.slice r.elem) ∧ ∃ re, findT T r.elem = some re ∧ re.ty = u
  | .st u => (r.arr = false ∧ ∃ fs : Array Field, P.underlying r.id = some (.struct fs) ∧ fs.toList.mapM (fun f => (P.info? f.type).map fun i => (f.offset, i.size)) = some r.flds ∧ ∀ (f off size : Nat), r.flds[f]? = some (off, size) →
      ∃ (fd : Field) (j : TypeInfo), fs[f]? = some fd ∧ fd.offset = off ∧ P.info? fd.type = some j ∧ j.size = size ∧ size ≠ 0 ∧ off + size ≤ u.size) ∨
    (r.arr = true ∧ ∃ (n e : Nat) (j : TypeInfo), P.underlying r.id = some (.array n e) ∧ P.info? e = some j ∧ r.flds = (List.range n).map (fun i => (i * j.size, j.size)) ∧ j.size ≠ 0 ∧ u.size = n * j.size)
  | .ptr _ => ∃ e, P.underlying r.id = some (.pointer e)
  | .mp _ => ∃ k e, P.underlying r.id = some (.map k e)
  | .fn => ∃ a b c, P.underlying r.id = some (.func a b c)
  | _ => False
structure TOk (P : Program) (T : List TRow) (r : TRow) : Prop where
  info : ∃ i z, P.info? r.id = some i ∧ i.size = r.ty.size ∧ i.bytes = r.bytes ∧ i.zero = some z ∧ (∀ V, Rel V r.ty r.ty.zero z.cells.toList) ∧ (z = wrap r.ty z.cells.toList) ∧ (∀ u, r.ty = .slice u → z = .slice none 0 0)
  desc : descOk P T r r.ty
  flds : (∀ u, r.ty ≠ .st u) → r.flds = []
def TabOk (P : Program) (T : List TRow) : Prop := ∀ t r, findT T t = some r → r.id = t ∧ TOk P T r
section
variable {P : Program} {T : List TRow} {V : View} {r : TRow}
theorem lrel_int {i : IntKind} {n : Int} {v : Value} (h : LRel V ⟨.int i, n⟩ v) : v = .int i n := by
  have : [v] = [Value.int i n] := h
  simpa using this
theorem lrel_bool {b : Bool} {v : Value} (h : LRel V ⟨.bool, b⟩ v) : v = .bool b := by
  have : [v] = [Value.bool b] := h
  simpa using this
theorem lrel_str {s : ByteArray} {v : Value} (h : LRel V ⟨.str, s⟩ v) : v = .string s := by
  have : [v] = [Value.string s] := h
  simpa using this
theorem lrel_slice {t : Ty} {xs : List t.den} {v : Value} (h : LRel V ⟨.slice t, xs⟩ v) : ∃ (A : Option Addr) (c : Nat) (yss : List (List Value)), v = .slice A xs.length c ∧
    xs.length ≤ c ∧ All2 (Rel V t) xs yss ∧ (A = none → c = 0) ∧ ∀ j u, yss.flatten[j]? = some u → ∃ ad, A = some ad ∧ V (ad.add j) u := by
  obtain ⟨A, c, yss, h1, h2⟩ := h
  simp only [List.cons.injEq, and_true] at h1
  exact ⟨A, c, yss, h1, h2⟩
theorem rel_int {i : IntKind} {n : Int} : LRel V ⟨.int i, n⟩ (.int i n) := by show [Value.int i n] = [Value.int i n]; rfl
theorem rel_bool {b : Bool} : LRel V ⟨.bool, b⟩ (.bool b) := by show [Value.bool b] = [Value.bool b]; rfl
theorem rel_str {s : ByteArray} : LRel V ⟨.str, s⟩ (.string s) := by show [Value.string s] = [Value.string s]; rfl
theorem flatten_length {t : Ty} : ∀ {xs : List t.den} {yss : List (List Value)}, All2 (Rel V t) xs yss → yss.flatten.length = xs.length * t.size
  | [], [], _ => by simp
  | x :: xs, y :: ys, h => by
    simp [Rel.length h.1, flatten_length h.2, Nat.add_mul]; omega
  | [], _ :: _, h => h.elim
  | _ :: _, [], h => h.elim
theorem flatten_at {t : Ty} : ∀ {xs : List t.den} {yss : List (List Value)}, All2 (Rel V t) xs yss → ∀ (i : Nat) x, xs[i]? = some x →
    ∃ ys, yss[i]? = some ys ∧ Rel V t x ys ∧ ∀ j u, ys[j]? = some u → yss.flatten[i * t.size + j]? = some u
  | [], [], _, i, x, hx => by simp at hx
  | a :: xs, b :: yss, h, 0, x, hx => by
    simp at hx; subst hx
    refine ⟨b, by simp, h.1, fun j u hj => ?_⟩
    have hlt : j < b.length := (List.getElem?_eq_some_iff.1 hj).1
    simp [List.getElem?_append_left hlt, hj]
  | a :: xs, b :: yss, h, i + 1, x, hx => by
    obtain ⟨ys, h1, h2, h3⟩ := flatten_at h.2 i x (by simpa using hx)
    refine ⟨ys, by simpa using h1, h2, fun j u hj => ?_⟩
    have hb := Rel.length h.1
    have := h3 j u hj
    rw [List.flatten_cons, List.getElem?_append_right (by rw [hb, Nat.succ_mul]; omega)]
    rw [← this]; congr 1; rw [hb, Nat.succ_mul]; omega
  | [], _ :: _, h, _, _, _ => h.elim
  | _ :: _, [], h, _, _, _ => h.elim
theorem add_add (a : Addr) (m n : Nat) : (a.add m).add n = a.add (m + n) := by
  unfold Addr.add
  by_cases h1 : m = 0 <;> by_cases h2 : n = 0 <;> simp [h1, h2, Nat.add_assoc]
theorem idx_some {α : Type} {xs : List α} {n : Int} {x : α} (h : idx xs n = some x) : 0 ≤ n ∧ n < xs.length ∧ xs[n.toNat]? = some x := by
  cases n with
  | ofNat m =>
    simp only [idx] at h
    have := (List.getElem?_eq_some_iff.1 h).1
    exact ⟨by simp, by simp; exact this, by simpa using h⟩
  | negSucc m => simp [idx] at h
theorem take_get {vs : List Value} {n j : Nat} {u : Value} (h : (vs.take n)[j]? = some u) : vs[j]? = some u := by
  rw [List.getElem?_take] at h
  split at h
  · exact h
  · cases h
theorem drop_get {vs : List Value} {n j : Nat} {u : Value} (h : (vs.drop n)[j]? = some u) : vs[n + j]? = some u := by
  rwa [List.getElem?_drop] at h
theorem isAgg_run (hr : TOk P T r) (w : World) : (isAgg r.id).run P w = .ok (match r.ty with | .st _ => true | _ => false) w := by
  have h := hr.desc
  cases ht : r.ty with
  | int k => rw [ht] at h; simp [isAgg, run_underlying (show P.underlying r.id = some (.int k) from h)]
  | bool => rw [ht] at h; simp [isAgg, run_underlying (show P.underlying r.id = some .bool from h)]
  | str => rw [ht] at h; simp [isAgg, run_underlying (show P.underlying r.id = some .string from h)]
  | slice u => rw [ht] at h; simp [isAgg, run_underlying h.1]
  | st u => rw [ht] at h; rcases h with ⟨_, fs, h1, _, _⟩ | ⟨_, n, e, j, h1, _⟩ <;> simp [isAgg, run_underlying h1]
  | ptr _ => rw [ht] at h; obtain ⟨e, h1⟩ := h; simp [isAgg, run_underlying h1]
  | mp _ => rw [ht] at h; obtain ⟨e, e', h1⟩ := h; simp [isAgg, run_underlying h1]
  | fn => rw [ht] at h; obtain ⟨e, e', e'', h1⟩ := h; simp [isAgg, run_underlying h1]
  | ref _ => rw [ht] at h; exact h.elim
  | nsl _ => rw [ht] at h; exact h.elim
  | unit => rw [ht] at h; exact h.elim
  | pair a b => rw [ht] at h; exact h.elim
theorem size_run (hr : TOk P T r) (w : World) : (sizeOf r.id).run P w = .ok r.ty.size w := by
  obtain ⟨i, z, h1, h2, _⟩ := hr.info
  simp [sizeOf, typeInfo, h1, h2]
theorem load_run (hr : TOk P T r) {w : World} {ad : Addr} {vs : List Value} {cs : List CV} {x : AV} {σ : AS} {ν : Nm → Value} {Y : Value}
    (hc : ∀ j u, vs[j]? = some u → w.cell? (ad.add j) = some u) (hcs : All2 (LRel V) cs vs) (hx : mkVal r.ty cs = some x) :
    ∃ v, (loadVar r.id ad).run P w = .ok v w ∧ AvRel V σ ν Y x v := by
  have one : (match r.ty with | .st _ => true | _ => false) = false → (∀ c l, cs = c :: l → x = .rv (.cv c)) → cs ≠ [] → ∃ v, (loadVar r.id ad).run P w = .ok v w ∧ AvRel V σ ν Y x v := by
    intro h1 h2 h3
    cases cs with
    | nil => exact absurd rfl h3
    | cons c l =>
      cases vs with
      | nil => exact hcs.elim
      | cons v vs =>
        refine ⟨v, ?_, ?_⟩
        · have := hc 0 v (by simp)
          have h0 : ad.add 0 = ad := rfl
          rw [h0] at this
          simp [loadVar, isAgg_run hr, h1, this]
        · rw [h2 c l rfl]; exact hcs.1
  cases ht : r.ty with
  | st t =>
    rw [ht] at hx
    simp only [mkVal] at hx
    cases hle : Nat.ble t.size cs.length with
    | false => simp [hle] at hx
    | true =>
      simp only [hle, cond_true, Option.some.injEq] at hx
      have hlen := hcs.length
      have hle' : t.size ≤ vs.length := by rw [← hlen]; exact Nat.le_of_ble_eq_true hle
      refine ⟨.agg (vs.take t.size).toArray, ?_, ?_⟩
      · have hl := run_loadCells_list (P := P) w ad (vs.take t.size) (fun j v hj => hc j v (take_get hj))
        rw [List.length_take, Nat.min_eq_left hle'] at hl
        have hs : Ty.size (.st t) = t.size := rfl
        simp [loadVar, isAgg_run hr, ht, size_run hr, hl, hs]
      · subst hx; exact ⟨_, rfl, hcs.take _⟩
  | int k => rw [ht] at hx; exact one (by simp [ht]) (fun c l e => by subst e; simpa [mkVal] using hx.symm) (fun e => by subst e; simp [mkVal] at hx)
  | bool => rw [ht] at hx; exact one (by simp [ht]) (fun c l e => by subst e; simpa [mkVal] using hx.symm) (fun e => by subst e; simp [mkVal] at hx)
  | str => rw [ht] at hx; exact one (by simp [ht]) (fun c l e => by subst e; simpa [mkVal] using hx.symm) (fun e => by subst e; simp [mkVal] at hx)
  | slice u => rw [ht] at hx; exact one (by simp [ht]) (fun c l e => by subst e; simpa [mkVal] using hx.symm) (fun e => by subst e; simp [mkVal] at hx)
  | ptr _ => rw [ht] at hx; exact one (by simp [ht]) (fun c l e => by subst e; simpa [mkVal] using hx.symm) (fun e => by subst e; simp [mkVal] at hx)
  | mp _ => rw [ht] at hx; exact one (by simp [ht]) (fun c l e => by subst e; simpa [mkVal] using hx.symm) (fun e => by subst e; simp [mkVal] at hx)
  | fn => rw [ht] at hx; exact one (by simp [ht]) (fun c l e => by subst e; simpa [mkVal] using hx.symm) (fun e => by subst e; simp [mkVal] at hx)
  | ref _ => rw [ht] at hx; exact one (by simp [ht]) (fun c l e => by subst e; simpa [mkVal] using hx.symm) (fun e => by subst e; simp [mkVal] at hx)
  | nsl _ => rw [ht] at hx; exact one (by simp [ht]) (fun c l e => by subst e; simpa [mkVal] using hx.symm) (fun e => by subst e; simp [mkVal] at hx)
  | unit => exact absurd hr.desc (by rw [ht]; exact id)
  | pair a b => exact absurd hr.desc (by rw [ht]; exact id)
theorem litFlat_rel : ∀ {t : Ty} {l : List Value} {cs : List CV} {r : List Value}, litFlat t l = some (cs, r) → ∃ l1, l = l1 ++ r ∧ All2 (LRel V) cs l1
  | .unit, l, cs, r, h => by simp only [litFlat, Option.some.injEq, Prod.mk.injEq] at h; obtain ⟨rfl, rfl⟩ := h; exact ⟨[], rfl, trivial⟩
  | .pair a b, l, cs, r, h => by
    simp only [litFlat] at h
    split at h
    · rename_i x l' h1
      split at h
      · rename_i y l'' h2
        simp only [Option.some.injEq, Prod.mk.injEq] at h
        obtain ⟨rfl, rfl⟩ := h
        obtain ⟨m1, e1, r1⟩ := litFlat_rel h1
        obtain ⟨m2, e2, r2⟩ := litFlat_rel h2
        exact ⟨m1 ++ m2, by rw [e1, e2, List.append_assoc], r1.append r2⟩
      · cases h
    · cases h
  | .st t, l, cs, r, h => litFlat_rel (t := t) h
  | .int k, .int k' n :: l, cs, r, h => by
    simp only [litFlat] at h
    split at h
    · rename_i e
      subst e
      simp only [Option.some.injEq, Prod.mk.injEq] at h
      obtain ⟨rfl, rfl⟩ := h
      exact ⟨[_], rfl, rel_int, trivial⟩
    · cases h
  | .bool, .bool b :: l, cs, r, h => by
    simp only [litFlat, Option.some.injEq, Prod.mk.injEq] at h
    obtain ⟨rfl, rfl⟩ := h
    exact ⟨[_], rfl, rel_bool, trivial⟩
  | .str, .string s :: l, cs, r, h => by
    simp only [litFlat, Option.some.injEq, Prod.mk.injEq] at h
    obtain ⟨rfl, rfl⟩ := h
    exact ⟨[_], rfl, rel_str, trivial⟩
  | .slice t, .slice none 0 0 :: l, cs, r, h => by
    simp only [litFlat, Option.some.injEq, Prod.mk.injEq] at h
    obtain ⟨rfl, rfl⟩ := h
    exact ⟨[_], rfl, ⟨none, 0, [], rfl, Nat.le_refl _, trivial, fun _ => rfl, fun j u hj => by simp at hj⟩, trivial⟩
  | .ref t, .slice none 0 0 :: l, cs, r, h => by
    simp only [litFlat, Option.some.injEq, Prod.mk.injEq] at h
    obtain ⟨rfl, rfl⟩ := h
    exact ⟨[_], rfl, (show [_] = [_] from rfl), trivial⟩
  | .ptr t, .pointer none :: l, cs, r, h => by
    simp only [litFlat, Option.some.injEq, Prod.mk.injEq] at h
    obtain ⟨rfl, rfl⟩ := h
    exact ⟨[_], rfl, (show [_] = [_] from rfl), trivial⟩
  | .mp t, .map none :: l, cs, r, h => by
    simp only [litFlat, Option.some.injEq, Prod.mk.injEq] at h
    obtain ⟨rfl, rfl⟩ := h
    exact ⟨[_], rfl, (show [_] = [_] from rfl), trivial⟩
  | .nsl t, .slice none 0 0 :: l, cs, r, h => by
    simp only [litFlat, Option.some.injEq, Prod.mk.injEq] at h
    obtain ⟨rfl, rfl⟩ := h
    exact ⟨[_], rfl, (show [_] = [_] from rfl), trivial⟩
  | .fn, .nilFunc :: l, cs, r, h => by
    simp only [litFlat, Option.some.injEq, Prod.mk.injEq] at h
    obtain ⟨rfl, rfl⟩ := h
    exact ⟨[_], rfl, (show [_] = [_] from rfl), trivial⟩
end
end Go.Abs
namespace Go.Abs
open Go.RowKit Go.Lib
section
variable {T : Tab} {α : Type} {Φ : PhiT T} {σ : AS}
def Q.val (Φ : PhiT T) (σ : AS) : Q T α → Option α
  | .ret a => some a
  | .fail => none
  | .opt o q => o.bind fun y => (q y).val Φ σ
  | .chk b q => bif b then q.val Φ σ else none
  | .ite b x y => bif b then x.val Φ σ else y.val Φ σ
  | .row r q => match look σ.rows r with
    | some x => (q x).val Φ σ
    | none => none
  | .len r q => match look σ.rows r with
    | some x => (q (List.length x.xs)).val Φ σ
    | none => none
  | .box b q => match look σ.boxes b with
    | some x => (q x).val Φ σ
    | none => none
  | .heap h q => match σ.heaps[h]? with
    | some x => (q x).val Φ σ
    | none => none
  | .freeR r q => match look σ.rows r with
    | none => q.val Φ σ
    | some _ => none
  | .freeB b q => match look σ.boxes b with
    | none => q.val Φ σ
    | some _ => none
  | .call v x q => (Φ v x).bind fun y => (q y).val Φ σ
  | .all q => (q σ).val Φ σ
  | .on σ' q => q.val Φ σ'
theorem val_ret {a r : α} : (Q.ret (T := T) a).val Φ σ = some r ↔ a = r := by simp [Q.val]
theorem val_fail {r : α} : (Q.fail (T := T)).val Φ σ = some r ↔ False := by simp [Q.val]
theorem val_opt {β : Type} {o : Option β} {k : β → Q T α} {r : α} : (Q.opt o k).val Φ σ = some r ↔ ∃ y, o = some y ∧ (k y).val Φ σ = some r := by
  simp [Q.val, Option.bind_eq_some_iff]
theorem val_chk {b : Bool} {q : Q T α} {r : α} : (Q.chk b q).val Φ σ = some r ↔ b = true ∧ q.val Φ σ = some r := by cases b <;> simp [Q.val]
theorem val_ite {b : Bool} {x y : Q T α} {r : α} : (Q.ite b x y).val Φ σ = some r ↔ (b = true ∧ x.val Φ σ = some r) ∨ (b = false ∧ y.val Φ σ = some r) := by cases b <;> simp [Q.val]
theorem val_row {q : Nat} {k : Row → Q T α} {r : α} : (Q.row q k).val Φ σ = some r ↔ ∃ x, look σ.rows q = some x ∧ (k x).val Φ σ = some r := by
  simp only [Q.val]; cases look σ.rows q <;> simp
theorem val_len {q : Nat} {k : Nat → Q T α} {r : α} : (Q.len q k).val Φ σ = some r ↔ ∃ x, look σ.rows q = some x ∧ (k x.xs.length).val Φ σ = some r := by
  simp only [Q.val]; cases look σ.rows q <;> simp
theorem val_box {q : Nat} {k : BX → Q T α} {r : α} : (Q.box q k).val Φ σ = some r ↔ ∃ x, look σ.boxes q = some x ∧ (k x).val Φ σ = some r := by
  simp only [Q.val]; cases look σ.boxes q <;> simp
theorem val_heap {q : Nat} {k : HRow → Q T α} {r : α} : (Q.heap q k).val Φ σ = some r ↔ ∃ x, σ.heaps[q]? = some x ∧ (k x).val Φ σ = some r := by
  simp only [Q.val]; cases σ.heaps[q]? <;> simp
theorem val_freeR {q : Nat} {k : Q T α} {r : α} : (Q.freeR q k).val Φ σ = some r ↔ look σ.rows q = none ∧ k.val Φ σ = some r := by
  simp only [Q.val]; cases look σ.rows q <;> simp
theorem val_freeB {q : Nat} {k : Q T α} {r : α} : (Q.freeB q k).val Φ σ = some r ↔ look σ.boxes q = none ∧ k.val Φ σ = some r := by
  simp only [Q.val]; cases look σ.boxes q <;> simp
theorem val_call {v : Nat} {x : InT T v} {k : OutT T v → Q T α} {r : α} : (Q.call v x k).val Φ σ = some r ↔ ∃ y, Φ v x = some y ∧ (k y).val Φ σ = some r := by
  simp [Q.val, Option.bind_eq_some_iff]
theorem val_on {σ' : AS} {q : Q T α} {r : α} : (Q.on σ' q).val Φ σ = some r ↔ q.val Φ σ' = some r := by simp [Q.val]
theorem val_all {k : AS → Q T α} {r : α} : (Q.all k).val Φ σ = some r ↔ (k σ).val Φ σ = some r := by simp [Q.val]
theorem val_pv {z : AV} {r : Res} : (pv (T := T) z).val Φ σ = some r ↔ (z, Eff.upd []) = r := by simp [pv, Q.val]
theorem val_cvr {t : Ty} {x : t.den} {r : Res} : (cvr (T := T) t x).val Φ σ = some r ↔ (AV.rv (.cv ⟨t, x⟩), Eff.upd []) = r := by simp [cvr, val_pv]
theorem val_orFail {β : Type} {f : β → Q T Res} {o : Option β} {r : Res} : (orFail f o).val Φ σ = some r ↔ ∃ y, o = some y ∧ (f y).val Φ σ = some r := by
  cases o <;> simp [orFail, Q.val]
theorem val_map {β : Type} {f : α → β} : ∀ {q : Q T α} {r : β}, (q.map f).val Φ σ = some r ↔ ∃ y, q.val Φ σ = some y ∧ f y = r := by
  intro q
  induction q generalizing σ with
  | ret a => intro r; simp [Q.map, Q.val]
  | fail => intro r; simp [Q.map, Q.val]
  | opt o k ih => intro r; simp only [Q.map, val_opt, ih]; constructor
                  · rintro ⟨y, h1, z, h2, h3⟩; exact ⟨z, ⟨y, h1, h2⟩, h3⟩
                  · rintro ⟨z, ⟨y, h1, h2⟩, h3⟩; exact ⟨y, h1, z, h2, h3⟩
  | chk b k ih => intro r; simp only [Q.map, val_chk, ih]; constructor
                  · rintro ⟨h1, z, h2, h3⟩; exact ⟨z, ⟨h1, h2⟩, h3⟩
                  · rintro ⟨z, ⟨h1, h2⟩, h3⟩; exact ⟨h1, z, h2, h3⟩
  | ite b x y ihx ihy => intro r; cases b <;> simp only [Q.map, Q.val, cond_true, cond_false]
                         · exact ihy
                         · exact ihx
  | row q k ih => intro r; simp only [Q.map, val_row, ih]; constructor
                  · rintro ⟨y, h1, z, h2, h3⟩; exact ⟨z, ⟨y, h1, h2⟩, h3⟩
                  · rintro ⟨z, ⟨y, h1, h2⟩, h3⟩; exact ⟨y, h1, z, h2, h3⟩
  | len q k ih => intro r; simp only [Q.map, val_len, ih]; constructor
                  · rintro ⟨y, h1, z, h2, h3⟩; exact ⟨z, ⟨y, h1, h2⟩, h3⟩
                  · rintro ⟨z, ⟨y, h1, h2⟩, h3⟩; exact ⟨y, h1, z, h2, h3⟩
  | box q k ih => intro r; simp only [Q.map, val_box, ih]; constructor
                  · rintro ⟨y, h1, z, h2, h3⟩; exact ⟨z, ⟨y, h1, h2⟩, h3⟩
                  · rintro ⟨z, ⟨y, h1, h2⟩, h3⟩; exact ⟨y, h1, z, h2, h3⟩
  | heap q k ih => intro r; simp only [Q.map, val_heap, ih]; constructor
                   · rintro ⟨y, h1, z, h2, h3⟩; exact ⟨z, ⟨y, h1, h2⟩, h3⟩
                   · rintro ⟨z, ⟨y, h1, h2⟩, h3⟩; exact ⟨y, h1, z, h2, h3⟩
  | freeR b k ih => intro r; simp only [Q.map, val_freeR, ih]; constructor
                    · rintro ⟨h1, z, h2, h3⟩; exact ⟨z, ⟨h1, h2⟩, h3⟩
                    · rintro ⟨z, ⟨h1, h2⟩, h3⟩; exact ⟨h1, z, h2, h3⟩
  | freeB b k ih => intro r; simp only [Q.map, val_freeB, ih]; constructor
                    · rintro ⟨h1, z, h2, h3⟩; exact ⟨z, ⟨h1, h2⟩, h3⟩
                    · rintro ⟨z, ⟨h1, h2⟩, h3⟩; exact ⟨h1, z, h2, h3⟩
  | call v x k ih => intro r; simp only [Q.map, val_call, ih]; constructor
                     · rintro ⟨y, h1, z, h2, h3⟩; exact ⟨z, ⟨y, h1, h2⟩, h3⟩
                     · rintro ⟨z, ⟨y, h1, h2⟩, h3⟩; exact ⟨y, h1, z, h2, h3⟩
  | all k ih => intro r; simp only [Q.map, val_all, ih]
  | on σ' k ih => intro r; simp only [Q.map, val_on, ih]
theorem run_val {R : Type} {k : Cls → α → Option R} {y : R} : ∀ (q : Q T α) (c : Cls), q.run Φ σ c k = some y → ∃ c' r, q.val Φ σ = some r ∧ k c' r = some y := by
  intro q
  induction q generalizing σ with
  | ret a => intro c h; exact ⟨c, a, rfl, h⟩
  | fail => intro c h; cases h
  | opt o q ih =>
    intro c h
    simp only [Q.run, Option.bind_eq_some_iff] at h
    obtain ⟨z, h1, h2⟩ := h
    obtain ⟨c', r, h3, h4⟩ := ih z c h2
    exact ⟨c', r, val_opt.2 ⟨z, h1, h3⟩, h4⟩
  | chk b q ih =>
    intro c h
    cases b
    · cases h
    · exact ih c h
  | ite b x z ihx ihz =>
    intro c h
    cases b
    · exact ihz c h
    · exact ihx c h
  | row q k ih => intro c h; simp only [Q.run] at h; split at h
                  · rename_i x hx; obtain ⟨c', r, h3, h4⟩ := ih x _ h; exact ⟨c', r, val_row.2 ⟨x, hx, h3⟩, h4⟩
                  · cases h
  | len q k ih => intro c h; simp only [Q.run] at h; split at h
                  · rename_i x hx; obtain ⟨c', r, h3, h4⟩ := ih _ _ h; exact ⟨c', r, val_len.2 ⟨x, hx, h3⟩, h4⟩
                  · cases h
  | box q k ih => intro c h; simp only [Q.run] at h; split at h
                  · rename_i x hx; obtain ⟨c', r, h3, h4⟩ := ih x _ h; exact ⟨c', r, val_box.2 ⟨x, hx, h3⟩, h4⟩
                  · cases h
  | heap q k ih => intro c h; simp only [Q.run] at h; split at h
                   · rename_i x hx; obtain ⟨c', r, h3, h4⟩ := ih x _ h; exact ⟨c', r, val_heap.2 ⟨x, hx, h3⟩, h4⟩
                   · cases h
  | freeR q k ih => intro c h; simp only [Q.run] at h; split at h
                    · rename_i hx; obtain ⟨c', r, h3, h4⟩ := ih _ h; exact ⟨c', r, val_freeR.2 ⟨hx, h3⟩, h4⟩
                    · cases h
  | freeB q k ih => intro c h; simp only [Q.run] at h; split at h
                    · rename_i hx; obtain ⟨c', r, h3, h4⟩ := ih _ h; exact ⟨c', r, val_freeB.2 ⟨hx, h3⟩, h4⟩
                    · cases h
  | call v x q ih =>
    intro c h
    simp only [Q.run, Option.bind_eq_some_iff] at h
    obtain ⟨z, h1, h2⟩ := h
    obtain ⟨c', r, h3, h4⟩ := ih z c h2
    exact ⟨c', r, val_call.2 ⟨z, h1, h3⟩, h4⟩
  | all q ih => intro c h; obtain ⟨c', r, h3, h4⟩ := ih σ _ h; exact ⟨c', r, val_all.2 h3, h4⟩
  | on σ' q ih => intro c h; obtain ⟨c', r, h3, h4⟩ := ih _ h; exact ⟨c', r, val_on.2 h3, h4⟩
end
section
variable {P : Program} {Tb : Tab} {T : List TRow} {E : Env} {σ : AS} {a : Act} {w w' : World} {ν : Nm → Value} {O : Nat → Prop} {Φ : PhiT Tb}
theorem addr0 (g j : Nat) : (⟨g, 0, none⟩ : Addr).add j = ⟨g, j, none⟩ := by unfold Addr.add; split <;> simp_all
theorem addr1 (g i j : Nat) : (⟨g, i, none⟩ : Addr).add j = ⟨g, i + j, none⟩ := by unfold Addr.add; split <;> simp_all
theorem av_int {V : View} {Y u : Value} {x : AV} {i : IntKind} {n : Int} (h : AvRel V σ ν Y x u) (he : x = .rv (.cv ⟨.int i, n⟩)) : u = .int i n := by subst he; exact lrel_int (V := V) h
theorem av_bool {V : View} {Y u : Value} {x : AV} {b : Bool} (h : AvRel V σ ν Y x u) (he : x = .rv (.cv ⟨.bool, b⟩)) : u = .bool b := by subst he; exact lrel_bool (V := V) h
theorem av_str {V : View} {Y u : Value} {x : AV} {s : ByteArray} (h : AvRel V σ ν Y x u) (he : x = .rv (.cv ⟨.str, s⟩)) : u = .string s := by subst he; exact lrel_str (V := V) h
theorem rel_avint {V : View} {Y : Value} {i : IntKind} {n : Int} : AvRel V σ ν Y (.rv (.cv ⟨.int i, n⟩)) (.int i n) := rel_int (V := V)
theorem rel_avbool {V : View} {Y : Value} {b : Bool} : AvRel V σ ν Y (.rv (.cv ⟨.bool, b⟩)) (.bool b) := rel_bool (V := V)
theorem rel_avstr {V : View} {Y : Value} {s : ByteArray} : AvRel V σ ν Y (.rv (.cv ⟨.str, s⟩)) (.string s) := rel_str (V := V)
theorem lrel_ref {V : View} {h n : Nat} {v : Value} (hr : LRel V ⟨.ref h, n⟩ v) : (n = 0 ∧ v = .slice none 0 0) ∨ (1 ≤ n ∧ isSl v ∧ V (.ref h n) v) := by
  cases n with
  | zero => have : [v] = _ := hr; simp at this; exact .inl ⟨rfl, this⟩
  | succ m => obtain ⟨u, e, h1, h2⟩ := hr; simp at e; subst e; exact .inr ⟨by omega, h1, h2⟩
theorem lrel_ptr {V : View} {h n : Nat} {v : Value} (hr : LRel V ⟨.ptr h, n⟩ v) : (n = 0 ∧ v = .pointer none) ∨ (1 ≤ n ∧ isPt v ∧ V (.ref h n) v) := by
  cases n with
  | zero => have : [v] = _ := hr; simp at this; exact .inl ⟨rfl, this⟩
  | succ m => obtain ⟨u, e, h1, h2⟩ := hr; simp at e; subst e; exact .inr ⟨by omega, h1, h2⟩
theorem lrel_mp {V : View} {h n : Nat} {v : Value} (hr : LRel V ⟨.mp h, n⟩ v) : (n = 0 ∧ v = .map none) ∨ (1 ≤ n ∧ isMp v ∧ V (.ref h n) v) := by
  cases n with
  | zero => have : [v] = _ := hr; simp at this; exact .inl ⟨rfl, this⟩
  | succ m => obtain ⟨u, e, h1, h2⟩ := hr; simp at e; subst e; exact .inr ⟨by omega, h1, h2⟩
theorem rel_ref {V : View} {h n : Nat} {v : Value} (h0 : 1 ≤ n) (h1 : isSl v) (h2 : V (.ref h n) v) : LRel V ⟨.ref h, n⟩ v := by
  cases n with
  | zero => omega
  | succ m => exact ⟨v, rfl, h1, h2⟩
theorem rel_ptr {V : View} {h n : Nat} {v : Value} (h0 : 1 ≤ n) (h1 : isPt v) (h2 : V (.ref h n) v) : LRel V ⟨.ptr h, n⟩ v := by
  cases n with
  | zero => omega
  | succ m => exact ⟨v, rfl, h1, h2⟩
theorem lrel_lst {V : View} {t : Ty} {o : Option (List t.den)} {v : Value} (hr : LRel V ⟨.nsl t, o⟩ v) : LRel V ⟨.slice t, lst o⟩ v := by
  cases o with
  | none =>
    have : [v] = _ := hr
    simp at this; subst this
    exact ⟨none, 0, [], rfl, Nat.le_refl _, trivial, fun _ => rfl, fun j u hj => by simp at hj⟩
  | some xs =>
    obtain ⟨ad, c, yss, h1, h2, h3, h4⟩ := hr
    exact ⟨some ad, c, yss, h1, h2, h3, (fun e => by cases e), fun j u hj => ⟨ad, rfl, h4 j u hj⟩⟩
theorem co_rel {V : View} {Y : Value} {x : AV} {u : Value} (h : AvRel V σ ν Y x u) : AvRel V σ ν Y (co x) u := by
  unfold co
  split
  · exact lrel_lst h
  · exact h
theorem row_val {V : View} {v : Value} {row : Row} (h : RowRel V w v row) : ∃ (A : Option Addr) (c : Nat), v = .slice A row.xs.length c ∧ row.xs.length ≤ c ∧ (A = none → c = 0) ∧ ∀ ad, A = some ad → ad.off = 0 ∧ ad.spot = none := by
  obtain ⟨yss, ⟨h1, h2⟩, h3⟩ := h
  rcases h2 with ⟨h2, h4⟩ | ⟨g, cap, cur, h2, _, _, h4, _⟩
  · exact ⟨none, 0, by rw [h2, h4], by rw [h4]; exact Nat.le_refl _, fun _ => rfl, fun _ e => by cases e⟩
  · exact ⟨some ⟨g, 0, none⟩, cap, h2, h4, (fun e => by cases e), fun ad e => by cases e; exact ⟨rfl, rfl⟩⟩
theorem ownsRow_cells {e : TypeId} {size n : Nat} {v : Value} {xs : List Value} (h : w.ownsRow 0 e size v n xs) {g : Nat} (hg : blkOf v = some g) {j : Nat} {u : Value} (hj : xs[j]? = some u) : w.cell? ⟨g, j, none⟩ = some u := by
  obtain ⟨h1, h2⟩ := h
  rcases h2 with ⟨rfl, _⟩ | ⟨g', cap, cur, rfl, _, h3, h4, h5, h6, h7⟩
  · cases hg
  · simp only [blkOf, Option.some.injEq] at hg
    subst hg
    rw [cell_of_row w _ _ cur e (0, 0) h3]
    rw [← h7] at hj
    simpa using take_get hj
theorem row_cells {V : View} {v : Value} {row : Row} (h : RowRel V w v row) :
    ∃ yss : List (List Value), All2 (Rel V row.t) row.xs yss ∧ ∀ g, blkOf v = some g → ∀ (j : Nat) u, yss.flatten[j]? = some u → w.cell? ⟨g, j, none⟩ = some u := by
  obtain ⟨yss, h1, h3⟩ := h
  exact ⟨yss, h3, fun g hg j u hj => ownsRow_cells h1 hg hj⟩
theorem hp_cells {V : View} {k : Nat} {v : Value} {row : Row} (h : HpRel V w k v row) :
    ∃ yss : List (List Value), All2 (Rel V row.t) row.xs yss ∧ ∀ g, blkOf v = some g → ∀ (j : Nat) u, yss.flatten[j]? = some u → w.cell? ⟨g, j, none⟩ = some u := by
  match k, h with
  | 0, ⟨_, h⟩ => exact row_cells h
  | 1, ⟨g, cur, ys, x, h1, h2, h3, h4, h5⟩ =>
    refine ⟨[ys], by rw [h4]; exact ⟨h5, trivial⟩, fun g' hg j u hj => ?_⟩
    rw [h1] at hg
    simp only [blkOf, Option.some.injEq] at hg
    subst hg
    rw [cell_of_row w _ _ cur _ (0, 0) h2]
    subst h3
    simpa using hj
theorem St.row (h : St E σ a w ν O) {r : Nat} {row : Row} (hr : look σ.rows r = some row) : RowRel (view E σ ν O w) w (ν (.row r)) row := h.objs (.row r) (.row row) (by simp [AS.obj, hr])
theorem St.box (h : St E σ a w ν O) {b : Nat} {x : BX} (hb : look σ.boxes b = some x) : BoxRel (view E σ ν O w) σ ν w (ν (.box b)) x := h.objs (.box b) (.box x) (by simp [AS.obj, hb])
theorem obj_hp {heaps : List HRow} {h n : Nat} {hr : HRow} {l : List hr.t.den} (hh : heaps[h]? = some hr) (hn : 1 ≤ n) (hl : hget hr.xs n = some l) : hobj heaps h n = some (.hp hr.k ⟨hr.e, hr.t, l⟩) := by
  cases n with
  | zero => omega
  | succ m =>
    simp only [hget] at hl
    simp only [hobj, hh]
    split at hl
    · rename_i o ho; rw [ho, hl]; rfl
    · cases hl
theorem hget_le {α : Type} {xs : List (Option (List α))} {n : Nat} {l : List α} (hl : hget xs n = some l) : n ≤ xs.length := by
  cases n with
  | zero => omega
  | succ m =>
    simp only [hget] at hl
    split at hl
    · rename_i o ho; exact (List.getElem?_eq_some_iff.1 ho).1
    · cases hl
theorem St.hp (hst : St E σ a w ν O) {h n : Nat} {hr : HRow} {l : List hr.t.den} (hh : σ.heaps[h]? = some hr) (hn : 1 ≤ n) (hl : hget hr.xs n = some l) : HpRel (view E σ ν O w) w hr.k (ν (.hp h n)) ⟨hr.e, hr.t, l⟩ :=
  hst.objs (.hp h n) (.hp hr.k ⟨hr.e, hr.t, l⟩) (obj_hp hh hn hl)
def PV (P : Program) (o : Oper) (E : Env) (σ : AS) (a : Act) (w : World) (ν : Nm → Value) (O : Nat → Prop) (r : Res) : Prop :=
  r.2 = .upd [] ∧ ∃ v w', (execOp a.eval o).run P w = .ok (.value v) w' ∧ Below w.heap.size w w' ∧ AvRel (view E σ ν O w') σ ν E.Y r.1 v
theorem PV.same {o : Oper} {z : AV} {r : Res} {v : Value} (hr : (z, Eff.upd []) = r) (h1 : (execOp a.eval o).run P w = .ok (.value v) w)
    (h2 : AvRel (view E σ ν O w) σ ν E.Y z v) : PV P o E σ a w ν O r := by subst hr; exact ⟨rfl, v, w, h1, Below.refl _ _, h2⟩
theorem val_load (hE : EnvOk E) (hT : TabOk P T) (h : St E σ a w ν O) {t : TypeId} {x : AV} {u : Value} (hx : AvRel (view E σ ν O w) σ ν E.Y x u) {r : Res}
    (he : (loadV (T := Tb) T t x).val Φ σ = some r) : r.2 = .upd [] ∧ ∃ v, (Instr.loadAt t u).run P w = .ok v w ∧ AvRel (view E σ ν O w) σ ν E.Y r.1 v := by
  unfold loadV at he
  split at he
  · cases he
  · rename_i tr hr
    obtain ⟨rfl, hr'⟩ := hT t tr hr
    have fin : ∀ {cs : List CV} {vs : List Value} {ad : Addr}, u = .pointer (some ad) → (∀ (j : Nat) u, vs[j]? = some u → w.cell? (ad.add j) = some u) → All2 (LRel (view E σ ν O w)) cs vs →
        (orFail pv (mkVal tr.ty cs)).val Φ σ = some r → r.2 = .upd [] ∧ ∃ v, (Instr.loadAt tr.id u).run P w = .ok v w ∧ AvRel (view E σ ν O w) σ ν E.Y r.1 v := by
      intro cs vs ad hu hc hcs he
      rw [val_orFail] at he
      obtain ⟨z, hz, he⟩ := he
      rw [val_pv] at he
      subst he
      obtain ⟨v', h1, h2⟩ := load_run (P := P) hr' hc hcs hz (σ := σ) (ν := ν) (Y := E.Y)
      exact ⟨rfl, v', by simp only [Instr.loadAt, hu, Instr.sureAddr, Sem.run_bind, Sem.run_pure, Result.andThen_ok, h1], h2⟩
    have finR : ∀ {t : Ty} {xs : List t.den} {yss : List (List Value)} {g i off : Nat} {z : t.den}, All2 (Rel (view E σ ν O w) t) xs yss → (∀ (j : Nat) u, yss.flatten[j]? = some u → w.cell? ⟨g, j, none⟩ = some u) →
        u = .pointer (some ⟨g, i * t.size + off, none⟩) → xs[i]? = some z → (orFail pv (mkVal tr.ty ((flat t z).drop off))).val Φ σ = some r →
        r.2 = .upd [] ∧ ∃ v, (Instr.loadAt tr.id u).run P w = .ok v w ∧ AvRel (view E σ ν O w) σ ν E.Y r.1 v := by
      intro t xs yss g i off z h1 h2 hu hz he
      obtain ⟨ys, h3, h4, h5⟩ := flatten_at h1 i z hz
      refine fin hu (fun j u hj => ?_) ((rel_flat h4).drop off) he
      rw [addr1, Nat.add_assoc]
      exact h2 _ u (h5 _ u (drop_get hj))
    split at he
    · rename_i b off
      rw [val_box] at he
      obtain ⟨bx, hbx, he⟩ := he
      obtain ⟨_, g, hg, hu⟩ := hx
      obtain ⟨g', e1, hrel⟩ := h.box hbx
      rw [hg] at e1
      simp only [Value.pointer.injEq, Option.some.injEq, Addr.mk.injEq, and_true] at e1
      subst e1
      cases bx with
      | cells cs =>
        obtain ⟨cur, e, hgc, hcs⟩ := hrel
        refine fin hu (vs := cur.toList.drop off) (fun j u hj => ?_) (hcs.drop off) he
        rw [addr1, cell_of_row w _ _ cur e (0, 0) hgc]
        simpa using drop_get hj
      | own q =>
        obtain ⟨e, hgc, hq⟩ := hrel
        simp only at he
        split at he
        · rename_i ut hty
          rw [val_chk, val_pv] at he
          obtain ⟨h0, rfl⟩ := he
          have := (beq_iff _ _).1 h0
          subst this
          refine ⟨rfl, ν (.row q), ?_, rfl, hq⟩
          have hc : w.cell? ⟨g, 0, none⟩ = some (ν (.row q)) := by rw [cell_of_row w _ _ _ e (0, 0) hgc]; rfl
          have ha := isAgg_run hr' w
          rw [hty] at ha
          simp [Instr.loadAt, hu, Instr.sureAddr, loadVar, ha, hc]
        · cases he
      | nil => cases he
    · rename_i q sz i off
      rw [val_row] at he
      obtain ⟨row, hrow, he⟩ := he
      rw [val_opt] at he
      obtain ⟨z, hz, he⟩ := he
      obtain ⟨row', g, hrow', hg, rfl, hu⟩ := hx
      rw [hrow] at hrow'
      obtain rfl : row = row' := by simpa using hrow'
      obtain ⟨yss, h1, h2⟩ := row_cells (h.row hrow)
      exact finR h1 (fun j u hj => h2 g hg j u hj) hu hz he
    · rename_i cs
      obtain ⟨ad, vs, hu, h1, h2⟩ := hx
      exact fin hu (fun j u hj => view_cell hE h.keep (h2 j u hj)) h1 he
    · rename_i i n j off
      simp only [val_heap, val_opt] at he
      obtain ⟨hr, hh, l, hl, z, hz, he⟩ := he
      obtain ⟨hr', g, hh', hn, _, hg, hu⟩ := hx
      rw [hh] at hh'
      obtain rfl : hr = hr' := by simpa using hh'
      obtain ⟨yss, h1, h2⟩ := hp_cells (h.hp hh hn hl)
      exact finR h1 (fun j u hj => h2 g hg j u hj) hu hz he
    · rename_i i n
      simp only [val_heap, val_opt] at he
      obtain ⟨hr, hh, l, hl, z, hz, he⟩ := he
      rcases lrel_ptr hx with ⟨rfl, _⟩ | ⟨hn, ⟨ad, rfl⟩, _, _, hu⟩
      · simp [hget] at hl; subst hl; simp at hz
      · have hrel := h.hp hh hn hl
        obtain ⟨yss, h1, h2⟩ := hp_cells hrel
        rw [← hu] at h2
        have had : ad = ⟨ad.block, 0, none⟩ := by
          rw [← hu] at hrel
          generalize hr.k = k at hrel
          match k, hrel with
          | 0, ⟨⟨_, _, _, e⟩, _⟩ => cases e
          | 1, ⟨g, _, _, _, e, _⟩ => simp at e; rw [e]
        exact finR (i := 0) (off := 0) h1 (fun j u hj => h2 _ rfl j u hj) (by rw [Nat.zero_mul, ← had]) hz (by simpa using he)
    · cases he
theorem val_moveV {Y : Value} {V : View} {ty : TypeId} {x : AV} {u : Value} (hx : AvRel V σ ν Y x u) {r : Res}
    (he : (moveV (T := Tb) T ty x).val Φ σ = some r) : r.2 = .upd [] ∧ AvRel V σ ν Y r.1 u := by
  unfold moveV at he
  split at he
  · rename_i v
    split at he
    · split at he
      · split at he
        · rename_i vs
          split at he
          · rename_i cs hl
            rw [val_pv] at he
            subst he
            obtain ⟨l1, e1, h1⟩ := litFlat_rel (V := V) hl
            refine ⟨rfl, vs.toList, ?_, ?_⟩
            · have : u = .agg vs := hx
              simpa using this
            · rw [e1, List.append_nil]; exact h1
          · cases he
        · cases he
      · rw [val_pv] at he; subst he; exact ⟨rfl, hx⟩
    · cases he
  · cases he
  · rw [val_pv] at he; subst he; exact ⟨rfl, hx⟩
end
end Go.Abs
namespace Go.Abs
open Go.RowKit Go.Lib
def EqOk (P : Program) (T : Tab) : Prop := ∀ t, T.eqs.any (Nat.beq t) = true → ∀ r u, findT T.rows t = some r → r.ty = .st u →
  ∀ (V : View) (x y : u.den) (vs us : List Value) (w : World) (op : BinOp) (ox oy : Operand), Rel V u x vs → Rel V u y us →
    (eqGuard op t ox oy (.agg vs.toArray) (.agg us.toArray)).run P w = .ok () w ∧ (Op.equal t (.agg vs.toArray) (.agg us.toArray)).run P w = .ok (denEq u x y) w
section
variable {P : Program} {Tb : Tab} {T : List TRow} {E : Env} {σ : AS} {a : Act} {w w' : World} {ν : Nm → Value} {O : Nat → Prop} {Φ : PhiT Tb} {V : View} {Y : Value}
theorem cmpInt_run {op : BinOp} {x y : Int} {b : Bool} (h : cmpInt op x y = some b) : (Op.intCmp op x y).run P w = .ok (.bool b) w := by
  cases op <;> simp [cmpInt] at h <;> subst h <;> simp [Op.intCmp]
theorem strCmp_run {op : BinOp} {x y : ByteArray} {b : Bool} (h : strCmp op x y = some b) : (Op.stringOp op x y).run P w = .ok (.bool b) w := by
  cases op <;> simp only [strCmp, Option.some.injEq, reduceCtorEq] at h <;> subst h <;> simp [Op.stringOp]
theorem val_eqV {op : BinOp} {b : Bool} {r : Res} (he : (eqV (T := Tb) op b).val Φ σ = some r) : (op = .eql ∧ (AV.rv (.cv ⟨.bool, b⟩), Eff.upd []) = r) ∨ (op = .neq ∧ (AV.rv (.cv ⟨.bool, !b⟩), Eff.upd []) = r) := by
  unfold eqV at he
  split at he
  · rw [val_cvr] at he; exact .inl ⟨rfl, he⟩
  · rw [val_cvr] at he; exact .inr ⟨rfl, he⟩
  · cases he
theorem eq_run {op : BinOp} {t : TypeId} {u v : Value} {b : Bool} {r : Res} (ox oy : Operand) (hg : ∀ op, (eqGuard op t ox oy u v).run P w = .ok () w) (hb : (Op.equal t u v).run P w = .ok b w)
    (h1 : binOp .eql t u v = (do pure (.bool (← Op.equal t u v)))) (h2 : binOp .neq t u v = (do pure (.bool (!(← Op.equal t u v)))))
    (he : (eqV (T := Tb) op b).val Φ σ = some r) : r.2 = .upd [] ∧ ∃ z, (do eqGuard op t ox oy u v; binOp op t u v : Sem Value).run P w = .ok z w ∧ AvRel V σ ν Y r.1 z := by
  rcases val_eqV he with ⟨rfl, rfl⟩ | ⟨rfl, rfl⟩
  · refine ⟨rfl, .bool b, ?_, rel_avbool⟩
    simp [Sem.run_bind, hg, h1, hb]
  · refine ⟨rfl, .bool (!b), ?_, rel_avbool⟩
    simp [Sem.run_bind, hg, h2, hb]
theorem val_binV {op : BinOp} {t : TypeId} {x y : AV} {u v : Value} (ox oy : Operand) (hx : AvRel V σ ν Y x u) (hy : AvRel V σ ν Y y v) {r : Res} (he : (binV (T := Tb) op x y).val Φ σ = some r) :
    r.2 = .upd [] ∧ ∃ z, (do eqGuard op t ox oy u v; binOp op t u v : Sem Value).run P w = .ok z w ∧ AvRel V σ ν Y r.1 z := by
  unfold binV at he
  split at he
  · rename_i i n j m
    have ex := av_int hx rfl
    have ey := av_int hy rfl
    subst ex ey
    have hg : eqGuard op t ox oy (.int i n) (.int j m) = pure () := eqGuard_at_int ..
    have fin : ∀ {k : IntKind} {q : Int}, (AV.rv (.cv ⟨.int k, q⟩), Eff.upd []) = r → (binOp op t (.int i n) (.int j m)).run P w = .ok (.int k q) w →
        r.2 = .upd [] ∧ ∃ z, (do eqGuard op t ox oy (.int i n) (.int j m); binOp op t (.int i n) (.int j m) : Sem Value).run P w = .ok z w ∧ AvRel V σ ν Y r.1 z := fun e hrun => by
      subst e
      refine ⟨rfl, _, ?_, rel_avint⟩
      rw [hg]
      simpa using hrun
    split at he
    · rw [val_chk, val_cvr] at he
      obtain ⟨hc, he⟩ := he
      have hc' : ¬ m < 0 := by simpa using hc
      exact fin he (by simp [binOp, Op.shift, hc', shl])
    · rw [val_chk, val_cvr] at he
      obtain ⟨hc, he⟩ := he
      have hc' : ¬ m < 0 := by simpa using hc
      exact fin he (by simp [binOp, Op.shift, hc', shr])
    · rename_i hn1 hn2
      split at he
      · rename_i e; subst e
        split at he
        · rw [val_cvr] at he; exact fin he (by simp [binOp, Op.intArith])
        · rw [val_cvr] at he; exact fin he (by simp [binOp, Op.intArith])
        · rw [val_cvr] at he; exact fin he (by simp [binOp, Op.intArith])
        · rw [val_chk, val_cvr] at he
          obtain ⟨hc, he⟩ := he
          have hc' : ¬ m = 0 := by simpa using hc
          exact fin he (by simp [binOp, Op.intDiv, hc'])
        · rw [val_chk, val_cvr] at he
          obtain ⟨hc, he⟩ := he
          have hc' : ¬ m = 0 := by simpa using hc
          exact fin he (by simp [binOp, Op.intDiv, hc'])
        · rw [val_cvr] at he; exact fin he (by simp [binOp, Op.intBits, bits])
        · rw [val_cvr] at he; exact fin he (by simp [binOp, Op.intBits, bits])
        · rw [val_cvr] at he; exact fin he (by simp [binOp, Op.intBits, bits])
        · rw [val_cvr] at he; exact fin he (by simp [binOp, Op.intBits, bits])
        · rw [val_orFail] at he
          obtain ⟨b, hb, he⟩ := he
          rw [val_cvr] at he
          subst he
          refine ⟨rfl, .bool b, ?_, rel_avbool⟩
          rw [hg]
          have := cmpInt_run (P := P) (w := w) hb
          cases op <;> first | (exfalso; simp_all; done) | simpa [binOp] using this
      · cases he
  · rename_i n m
    have ex := av_str hx rfl
    have ey := av_str hy rfl
    subst ex ey
    have hg : eqGuard op t ox oy (.string n) (.string m) = pure () := eqGuard_at_string ..
    split at he
    · rw [val_chk, val_cvr] at he
      obtain ⟨hb, rfl⟩ := he
      have hle := Nat.le_of_ble_eq_true hb
      refine ⟨rfl, .string (n ++ m), ?_, rel_avstr⟩
      rw [hg]
      have hn : ¬ (((n.size + m.size : Nat) : Int) > IntKind.i64.max) := by rw [IntKind.max_i64]; omega
      simp only [binOp, Op.stringOp, Sem.run_bind, Sem.run_pure, Result.andThen_ok, if_neg hn]
    · rw [val_orFail] at he
      obtain ⟨b, hb, he⟩ := he
      rw [val_cvr] at he
      subst he
      refine ⟨rfl, .bool b, ?_, rel_avbool⟩
      rw [hg]
      have := strCmp_run (P := P) (w := w) hb
      cases op <;> first | (simp [strCmp] at hb; done) | simpa [binOp] using this
  · cases he
theorem val_binB {op : BinOp} {t : TypeId} {x y : AV} {u v : Value} (ox oy : Operand) (ht : P.underlying t = some .bool) (hx : AvRel V σ ν Y x u) (hy : AvRel V σ ν Y y v) {r : Res} (he : (binB (T := Tb) op x y).val Φ σ = some r) :
    r.2 = .upd [] ∧ ∃ z, (do eqGuard op t ox oy u v; binOp op t u v : Sem Value).run P w = .ok z w ∧ AvRel V σ ν Y r.1 z := by
  unfold binB at he
  split at he
  · rename_i n m
    have ex := av_bool hx rfl
    have ey := av_bool hy rfl
    subst ex ey
    exact eq_run ox oy (fun op => by rw [eqGuard_at_bool]; rfl) (run_equalIn_bool w 9999 t n m ht) (by rfl) (by rfl) he
  · cases he
theorem run_equalIn_slice (d : Nat) {t : TypeId} {e : TypeId} (ht : P.underlying t = some (.slice e)) (A : Option Addr) (n c : Nat) : (Op.equalIn (d + 1) t (.slice A n c) (.slice none 0 0)).run P w = .ok A.isNone w := by
  cases A <;> simp [Op.equalIn, run_underlying ht]
theorem run_equalIn_ptr (d : Nat) {t : TypeId} {e : TypeId} (ht : P.underlying t = some (.pointer e)) (A : Option Addr) : (Op.equalIn (d + 1) t (.pointer A) (.pointer none)).run P w = .ok A.isNone w := by
  cases A <;> simp [Op.equalIn, run_underlying ht]
theorem run_equalIn_map (d : Nat) {t k e : TypeId} (ht : P.underlying t = some (.map k e)) (A : Option Nat) : (Op.equalIn (d + 1) t (.map A) (.map none)).run P w = .ok A.isNone w := by
  cases A <;> simp [Op.equalIn, run_underlying ht]
theorem run_equal_slice {t : TypeId} {e : TypeId} (ht : P.underlying t = some (.slice e)) (A : Option Addr) (n c : Nat) : (Op.equal t (.slice A n c) (.slice none 0 0)).run P w = .ok A.isNone w := by
  exact run_equalIn_slice 9999 ht A n c
theorem run_equal_ptr {t : TypeId} {e : TypeId} (ht : P.underlying t = some (.pointer e)) (A : Option Addr) : (Op.equal t (.pointer A) (.pointer none)).run P w = .ok A.isNone w := by
  exact run_equalIn_ptr 9999 ht A
theorem run_equal_map {t k e : TypeId} (ht : P.underlying t = some (.map k e)) (A : Option Nat) : (Op.equal t (.map A) (.map none)).run P w = .ok A.isNone w := by
  exact run_equalIn_map 9999 ht A
theorem beq_zero (n : Nat) : Nat.beq n 0 = decide (n = 0) := by cases n <;> rfl
theorem val_nilB (hT : TabOk P T) {tr : TRow} (htr : TOk P T tr) {op : BinOp} {x y : AV} {u v : Value} (ox oy : Operand) (hx : AvRel V σ ν Y x u) (hy : AvRel V σ ν Y y v) {r : Res} (he : (nilB (T := Tb) tr.ty op x y).val Φ σ = some r) :
    r.2 = .upd [] ∧ ∃ z, (do eqGuard op tr.id ox oy u v; binOp op tr.id u v : Sem Value).run P w = .ok z w ∧ AvRel V σ ν Y r.1 z := by
  unfold nilB at he
  have hd := htr.desc
  have sl : ∀ {A : Option Addr} {n c : Nat} {b : Bool}, (∃ e, P.underlying tr.id = some (.slice e)) → u = .slice A n c → A.isNone = b → v = .slice none 0 0 → (eqV (T := Tb) op b).val Φ σ = some r →
      r.2 = .upd [] ∧ ∃ z, (do eqGuard op tr.id ox oy u v; binOp op tr.id u v : Sem Value).run P w = .ok z w ∧ AvRel V σ ν Y r.1 z := by
    intro A n c b ⟨e, ht⟩ hu hb hv he
    subst hu hv
    exact eq_run ox oy (fun op => by rw [eqGuard_at_slice]; rfl) (by rw [run_equal_slice ht, hb]) (by rfl) (by rfl) he
  have pt : ∀ {A : Option Addr} {b : Bool}, (∃ e, P.underlying tr.id = some (.pointer e)) → u = .pointer A → A.isNone = b → v = .pointer none → (eqV (T := Tb) op b).val Φ σ = some r →
      r.2 = .upd [] ∧ ∃ z, (do eqGuard op tr.id ox oy u v; binOp op tr.id u v : Sem Value).run P w = .ok z w ∧ AvRel V σ ν Y r.1 z := by
    intro A b ⟨e, ht⟩ hu hb hv he
    subst hu hv
    exact eq_run ox oy (fun op => by rw [eqGuard_at_pointer]; rfl) (by rw [run_equal_ptr ht, hb]) (by rfl) (by rfl) he
  have mp : ∀ {A : Option Nat} {b : Bool}, (∃ k e, P.underlying tr.id = some (.map k e)) → u = .map A → A.isNone = b → v = .map none → (eqV (T := Tb) op b).val Φ σ = some r →
      r.2 = .upd [] ∧ ∃ z, (do eqGuard op tr.id ox oy u v; binOp op tr.id u v : Sem Value).run P w = .ok z w ∧ AvRel V σ ν Y r.1 z := by
    intro A b ⟨k, e, ht⟩ hu hb hv he
    subst hu hv
    exact eq_run ox oy (fun op => by rw [eqGuard_at_map]; rfl) (by rw [run_equal_map ht, hb]) (by rfl) (by rfl) he
  split at he
  · rename_i ut h n hty
    rw [hty] at hd
    have hs : ∃ e, P.underlying tr.id = some (.slice e) := ⟨_, hd.1⟩
    rcases lrel_ref hx with ⟨rfl, hu⟩ | ⟨hn, ⟨ad, m, c, hu⟩, _⟩
    · exact sl hs hu rfl hy he
    · refine sl hs hu ?_ hy he
      rw [beq_zero, decide_eq_false (by omega)]; rfl
  · rename_i ut h n hty
    rw [hty] at hd
    rcases lrel_ptr hx with ⟨rfl, hu⟩ | ⟨hn, ⟨ad, hu⟩, _⟩
    · exact pt hd hu rfl hy he
    · refine pt hd hu ?_ hy he
      rw [beq_zero, decide_eq_false (by omega)]; rfl
  · rename_i ut h n hty
    rw [hty] at hd
    rcases lrel_mp hx with ⟨rfl, hu⟩ | ⟨hn, ⟨ad, hu⟩, _⟩
    · exact mp hd hu rfl hy he
    · refine mp hd hu ?_ hy he
      rw [beq_zero, decide_eq_false (by omega)]; rfl
  · rename_i ut t' o hty
    rw [hty] at hd
    have hs : ∃ e, P.underlying tr.id = some (.slice e) := ⟨_, hd.1⟩
    cases o with
    | none =>
      have : [u] = _ := hx
      simp at this
      exact sl hs this rfl hy he
    | some xs =>
      obtain ⟨ad, c, yss, h1, _⟩ := hx
      simp at h1
      exact sl hs h1 rfl hy he
  · cases he
theorem val_un {op : UnOp} {x : AV} {u : Value} (hx : AvRel V σ ν Y x u) {r : Res}
    (he : (match op, x with
    | .not, .rv (.cv ⟨.bool, b⟩) => cvr (T := Tb) .bool (!b)
    | .neg, .rv (.cv ⟨.int i, a⟩) => cvr (.int i) (i.wrap (0 - a))
    | _, _ => .fail).val Φ σ = some r) : r.2 = .upd [] ∧ ∃ z, (Op.unary op u).run P w = .ok z w ∧ AvRel V σ ν Y r.1 z := by
  split at he
  · have ex := av_bool hx rfl
    rw [val_cvr] at he; subst he ex
    exact ⟨rfl, _, by simp [Op.unary], rel_avbool⟩
  · have ex := av_int hx rfl
    rw [val_cvr] at he; subst he ex
    exact ⟨rfl, _, by simp [Op.unary, Op.intArith], rel_avint⟩
  · cases he
theorem val_lenV (hT : TabOk P T) {tr : TRow} (htr : TOk P T tr) {x : AV} {u : Value} (h : St E σ a w ν O) (hx : AvRel (view E σ ν O w) σ ν E.Y x u) {r : Res} (ty : TypeId)
    (he : (lenV (T := Tb) tr.ty x).val Φ σ = some r) :
    r.2 = .upd [] ∧ ∃ z, (Builtin.len_ #[tr.id] ty #[u]).run P w = .ok z w ∧ AvRel (view E σ ν O w) σ ν E.Y r.1 z := by
  have hc := co_rel hx
  have hd := htr.desc
  unfold lenV at he
  have sl : ∀ {ut : Ty} {A : Option Addr} {n c m : Nat}, tr.ty = .slice ut → u = .slice A n c → n = m → (AV.rv (.cv ⟨.int .i64, (m : Int)⟩), Eff.upd []) = r → r.2 = .upd [] ∧ ∃ z, (Builtin.len_ #[tr.id] ty #[u]).run P w = .ok z w ∧ AvRel (view E σ ν O w) σ ν E.Y r.1 z := by
    intro ut A n c m hty hu hm he
    rw [hty] at hd
    subst hu hm he
    exact ⟨rfl, .int .i64 n, by simp [Builtin.len_, run_underlying hd.1, goInt], rel_avint⟩
  split at he
  · rename_i ut t' xs hty hb
    rw [hb] at hc
    rw [val_cvr] at he
    obtain ⟨A, cc, yss, ex, _⟩ := lrel_slice hc
    exact sl hty ex rfl he
  · rename_i s hty hb
    rw [hb] at hc
    rw [hty] at hd
    rw [val_cvr] at he
    have ex := av_str hc rfl
    subst ex he
    exact ⟨rfl, .int .i64 s.size, by simp [Builtin.len_, run_underlying (show P.underlying tr.id = some .string from hd), goInt], rel_avint⟩
  · rename_i ut q hty hb
    rw [hb] at hc
    rw [val_len] at he
    obtain ⟨row, hrow, he⟩ := he
    rw [val_cvr] at he
    obtain ⟨A, cc, er, _⟩ := row_val (h.row hrow)
    exact sl hty (by rw [hc.1, er]) rfl he
  · rename_i ut hty hb
    rw [hb] at hc
    rw [val_cvr] at he
    exact sl hty (show u = .slice none 0 0 from hc) rfl he
  · rename_i ut i n hty hb
    rw [hb] at hc
    simp only [val_heap, val_opt] at he
    obtain ⟨hr, hh, l, hl, he⟩ := he
    rw [val_cvr] at he
    rcases lrel_ref hc with ⟨rfl, hu⟩ | ⟨hn, hsl, _, _, hu⟩
    · simp only [hget, Option.some.injEq] at hl
      subst hl
      exact sl hty hu rfl he
    · have hrel := h.hp hh hn hl
      rw [← hu] at hrel
      generalize hr.k = k at hrel
      match k, hrel with
      | 0, ⟨_, hrow⟩ =>
        obtain ⟨A, cc, er, _⟩ := row_val hrow
        exact sl hty er rfl he
      | 1, ⟨g, _, _, _, e, _⟩ => obtain ⟨_, _, _, e'⟩ := hsl; rw [e] at e'; cases e'
  · cases he
end
end Go.Abs
namespace Go.Abs
open Go.RowKit Go.Lib
section
variable {P : Program} {Tb : Tab} {T : List TRow} {E : Env} {σ : AS} {a : Act} {w w' : World} {ν : Nm → Value} {O : Nat → Prop} {Φ : PhiT Tb} {V : View} {Y : Value}
theorem hlen_of {heaps : List HRow} {h : Nat} {hr : HRow} (e : heaps[h]? = some hr) : hlen heaps h = hr.xs.length := by unfold hlen; rw [e]
theorem heap_of_len {heaps : List HRow} {h n : Nat} (h1 : 1 ≤ n) (h2 : n ≤ hlen heaps h) : ∃ hr, heaps[h]? = some hr ∧ n ≤ hr.xs.length := by
  unfold hlen at h2
  cases hh : heaps[h]? with
  | none => rw [hh] at h2; simp at h2; omega
  | some hr => rw [hh] at h2; exact ⟨hr, rfl, h2⟩
theorem ptr_hel (h : St E σ a w ν O) {i n : Nat} {u : Value} (hx : LRel (view E σ ν O w) ⟨.ptr i, n⟩ u) (hn : n ≠ 0) : ∃ hr g, σ.heaps[i]? = some hr ∧ 1 ≤ n ∧ n ≤ hr.xs.length ∧ blkOf (ν (.hp i n)) = some g ∧ u = .pointer (some ⟨g, 0, none⟩) := by
  rcases lrel_ptr hx with ⟨rfl, _⟩ | ⟨h1, ⟨ad, hu⟩, h2, h3, h4⟩
  · exact absurd rfl hn
  · obtain ⟨hr, h5, h6⟩ := heap_of_len h2 h3
    rcases h.nn i hr n h5 h1 h6 with ⟨_, g, m, c, e⟩ | ⟨_, g, e⟩
    · rw [← h4, hu] at e; cases e
    · exact ⟨hr, g, h5, h1, h6, by rw [e]; rfl, by rw [h4, e]⟩
theorem val_nilCheck (h : St E σ a w ν O) {x : AV} {u : Value} (hx : AvRel (view E σ ν O w) σ ν E.Y x u) {r : Res}
    (he : (match x with
    | .rv (.cv ⟨.ptr h, n⟩) => Q.chk (T := Tb) (!(Nat.beq n 0)) (pv (.rv (.cv ⟨.ptr h, n⟩)))
    | .box b off => pv (.box b off)
    | .oel r sz i off => pv (.oel r sz i off)
    | .vel cs => pv (.vel cs)
    | .hel h n i off => pv (T := Tb) (.hel h n i off)
    | _ => .fail).val Φ σ = some r) : r.2 = .upd [] ∧ (∃ ad, u = .pointer (some ad)) ∧ AvRel (view E σ ν O w) σ ν E.Y r.1 u := by
  split at he
  · rename_i i n
    rw [val_chk, val_pv] at he
    obtain ⟨hn, rfl⟩ := he
    have hn' : n ≠ 0 := fun e => by rw [e] at hn; cases hn
    obtain ⟨hr, g, _, _, _, _, e⟩ := ptr_hel h hx hn'
    exact ⟨rfl, ⟨_, e⟩, hx⟩
  · rw [val_pv] at he; subst he; obtain ⟨_, g, _, e⟩ := hx; exact ⟨rfl, ⟨_, e⟩, ⟨by assumption, g, by assumption, e⟩⟩
  · rw [val_pv] at he; subst he; obtain ⟨row, g, e1, e2, e3, e4⟩ := hx; exact ⟨rfl, ⟨_, e4⟩, ⟨row, g, e1, e2, e3, e4⟩⟩
  · rw [val_pv] at he; subst he; obtain ⟨ad, vs, e1, e2⟩ := hx; exact ⟨rfl, ⟨_, e1⟩, ⟨ad, vs, e1, e2⟩⟩
  · rw [val_pv] at he; subst he; obtain ⟨hr, g, e1, e2, e3, e4, e5⟩ := hx; exact ⟨rfl, ⟨_, e5⟩, ⟨hr, g, e1, e2, e3, e4, e5⟩⟩
  · cases he
theorem ptr_off (h : St E σ a w ν O) {x : AV} {u : Value} (hx : AvRel (view E σ ν O w) σ ν E.Y x u) {off : Nat} {r : Res}
    (he : (match x with
      | .box b o => pv (.box b (o + off))
      | .oel q sz i o => pv (.oel q sz i (o + off))
      | .vel cs => pv (.vel (cs.drop off))
      | .hel h n i o => pv (.hel h n i (o + off))
      | .rv (.cv ⟨.ptr h, n⟩) => .chk (!(Nat.beq n 0)) (pv (T := Tb) (.hel h n 0 off))
      | _ => .fail).val Φ σ = some r) : r.2 = .upd [] ∧ ∃ ad, u = .pointer (some ad) ∧ AvRel (view E σ ν O w) σ ν E.Y r.1 (.pointer (some (ad.add off))) := by
  split at he
  · rw [val_pv] at he; subst he
    obtain ⟨h1, g, h2, h3⟩ := hx
    exact ⟨rfl, _, h3, h1, g, h2, by rw [addr1]⟩
  · rw [val_pv] at he; subst he
    obtain ⟨row, g, e1, e2, e3, e4⟩ := hx
    exact ⟨rfl, _, e4, row, g, e1, e2, e3, by rw [addr1, Nat.add_assoc]⟩
  · rw [val_pv] at he; subst he
    obtain ⟨ad, vs, e1, e2, e3⟩ := hx
    exact ⟨rfl, _, e1, _, vs.drop off, rfl, e2.drop off, fun j u hj => by rw [add_add]; exact e3 _ u (drop_get hj)⟩
  · rw [val_pv] at he; subst he
    obtain ⟨hr, g, e1, e2, e3, e4, e5⟩ := hx
    exact ⟨rfl, _, e5, hr, g, e1, e2, e3, e4, by rw [addr1, Nat.add_assoc]⟩
  · rename_i i n
    rw [val_chk, val_pv] at he
    obtain ⟨hn, rfl⟩ := he
    have hn' : n ≠ 0 := fun e => by rw [e] at hn; cases hn
    obtain ⟨hr, g, h1, h2, h3, h4, h5⟩ := ptr_hel h hx hn'
    exact ⟨rfl, _, h5, hr, g, h1, h2, h3, h4, by rw [addr0, Nat.zero_mul, Nat.zero_add]⟩
  · cases he
theorem val_fieldA (hT : TabOk P T) (h : St E σ a w ν O) {s : TypeId} {x : AV} {u : Value} {f : Nat} (hx : AvRel (view E σ ν O w) σ ν E.Y x u) {r : Res} (he : (fieldA (T := Tb) T s x f).val Φ σ = some r) :
    r.2 = .upd [] ∧ ∃ v, (Instr.fieldAt s u f).run P w = .ok v w ∧ AvRel (view E σ ν O w) σ ν E.Y r.1 v := by
  unfold fieldA at he
  split at he
  · rename_i tr hr
    obtain ⟨rfl, hr'⟩ := hT s tr hr
    rw [val_chk] at he
    obtain ⟨harr, he⟩ := he
    split at he
    · rename_i off size hf
      have hd := hr'.desc
      have hfld : ∃ (fs : Array Field) (fd : Field) (j : TypeInfo), P.underlying tr.id = some (.struct fs) ∧ fs[f]? = some fd ∧ fd.offset = off ∧ P.info? fd.type = some j ∧ j.size ≠ 0 := by
        cases hty : tr.ty with
        | st u =>
          rw [hty] at hd
          rcases hd with ⟨_, fs, h1, _, h2⟩ | ⟨ha, n, e, j, h1, _⟩
          · obtain ⟨fd, j, h3, h4, h5, h6, h7, _⟩ := h2 f off size hf
            exact ⟨fs, fd, j, h1, h3, h4, h5, by rw [h6]; exact h7⟩
          · rw [ha] at harr; cases harr
        | _ => rw [hr'.flds (by rw [hty]; simp)] at hf; simp at hf
      obtain ⟨fs, fd, j, h1, h2, h3, h4, h5⟩ := hfld
      obtain ⟨e1, ad, hu, hrel⟩ := ptr_off h hx he
      refine ⟨e1, _, ?_, hrel⟩
      subst hu
      simp [Instr.fieldAt, run_underlying h1, h2, Instr.sureAddr, fieldPlace, sizeOf, typeInfo, h4, h5, h3]
    · cases he
  · cases he
theorem elem_of (hT : TabOk P T) {r : TRow} (hr : TOk P T r) {u : Ty} (hty : r.ty = .slice u) :
    P.underlying r.id = some (.slice r.elem) ∧ ∃ re, TOk P T re ∧ re.id = r.elem ∧ re.ty = u := by
  have hd := hr.desc
  rw [hty] at hd
  obtain ⟨h1, re, h2, h3⟩ := hd
  obtain ⟨h4, h5⟩ := hT _ re h2
  exact ⟨h1, re, h5, h4, h3⟩
theorem val_indexA (hT : TabOk P T) (h : St E σ a w ν O) {t : TypeId} {x i : AV} {u v : Value} (hx : AvRel (view E σ ν O w) σ ν E.Y x u) (hi : AvRel (view E σ ν O w) σ ν E.Y i v)
    {r : Res} (he : (indexA (T := Tb) T t x i).val Φ σ = some r) :
    r.2 = .upd [] ∧ ∃ z, (Instr.indexAt t u v).run P w = .ok z w ∧ AvRel (view E σ ν O w) σ ν E.Y r.1 z := by
  unfold indexA at he
  split at he
  · rename_i tr hr
    obtain ⟨rfl, hr'⟩ := hT t tr hr
    split at he
    · rename_i k n
      have ei := av_int hi rfl
      have hc := co_rel hx
      have run : ∀ {ut : Ty} {ad : Addr} {m cc : Nat}, tr.ty = .slice ut → u = .slice (some ad) m cc → 0 ≤ n → n < m →
          (Instr.indexAt tr.id u v).run P w = .ok (.pointer (some (ad.add (n.toNat * ut.size)))) w := fun {ut ad m cc} hty hu h0 h1 => by
        obtain ⟨hd, re, hre, hid, hre2⟩ := elem_of hT hr' hty
        have hsz : (sizeOf tr.elem).run P w = .ok ut.size w := by rw [← hid, ← hre2]; exact size_run hre w
        simp [Instr.indexAt, ei, asIntOf, run_underlying hd, hu, h0, h1, hsz]
      split at he
      · rename_i ut u' xs hty hb
        rw [hb] at hc
        simp only [val_chk, val_opt, val_pv] at he
        obtain ⟨hsu, y, hy, rfl⟩ := he
        have hsu' := (beq_iff _ _).1 hsu
        obtain ⟨h0, h1, h2⟩ := idx_some hy
        obtain ⟨A, cc, yss, ex, hlen, hall, hnone, hcells⟩ := lrel_slice hc
        cases A with
        | none => have := hnone rfl; omega
        | some ad =>
          obtain ⟨ys, h3, h4, h5⟩ := flatten_at hall n.toNat y h2
          refine ⟨rfl, _, run hty ex h0 h1, _, ys, rfl, rel_flat h4, fun j v hj => ?_⟩
          obtain ⟨ad', e, hv⟩ := hcells _ v (h5 j v hj)
          obtain rfl : ad = ad' := by simpa using e
          rw [add_add, hsu']
          exact hv
      · rename_i ut q hty hb
        rw [hb] at hc
        simp only [val_row, val_chk, val_opt, val_pv] at he
        obtain ⟨row, hrow, hsu, y, hy, rfl⟩ := he
        have hsu' := (beq_iff _ _).1 hsu
        obtain ⟨h0, h1, h2⟩ := idx_some hy
        obtain ⟨A, cc, er, _, _, hA⟩ := row_val (h.row hrow)
        cases A with
        | none =>
          obtain ⟨yss, ⟨h3, h4⟩, _⟩ := h.row hrow
          rcases h4 with ⟨_, h6⟩ | ⟨g, cap, cur, h4, _⟩
          · omega
          · rw [er] at h4; cases h4
        | some ad =>
          obtain ⟨hA1, hA2⟩ := hA ad rfl
          refine ⟨rfl, _, run hty (by rw [hc.1, er]) h0 h1, row, ad.block, hrow, by rw [er]; rfl, rfl, ?_⟩
          obtain ⟨b, o, sp⟩ := ad
          simp only at hA1 hA2
          subst hA1 hA2
          rw [addr0, hsu']; rfl
      · rename_i ut j m hty hb
        rw [hb] at hc
        simp only [val_heap, val_chk, val_opt, val_pv] at he
        obtain ⟨hr, hh, hsu, l, hl, y, hy, rfl⟩ := he
        have hsu' := (beq_iff _ _).1 hsu
        obtain ⟨h0, h1, h2⟩ := idx_some hy
        rcases lrel_ref hc with ⟨rfl, _⟩ | ⟨hm, hsl, _, hle, hu⟩
        · simp [hget] at hl; subst hl; simp at h2
        · have hle' : m ≤ hr.xs.length := by rw [hlen_of hh] at hle; exact hle
          rcases h.nn j hr m hh hm hle' with ⟨hk, g, m', c', e⟩ | ⟨_, g, e⟩
          · have hrel := h.hp hh hm hl
            rw [hk] at hrel
            obtain ⟨_, hrow⟩ := hrel
            obtain ⟨A, cc, er, _⟩ := row_val hrow
            rw [e] at er
            simp only [Value.slice.injEq] at er
            obtain ⟨rfl, rfl, rfl⟩ := er
            exact ⟨rfl, _, run hty (by rw [hu, e]) h0 h1, hr, g, hh, hm, hle', by rw [e]; rfl, by rw [addr0, hsu']; rfl⟩
          · obtain ⟨_, _, _, e'⟩ := hsl; rw [hu, e] at e'; cases e'
      · rename_i ut hty
        split at he
        · rename_i m
          rw [val_chk] at he
          obtain ⟨harr, he⟩ := he
          split at he
          · rename_i off size hf
            have hd := hr'.desc
            rw [hty] at hd
            rcases hd with ⟨ha, fs, h1, _⟩ | ⟨_, len, e, j, h1, h2, h3, h4, h5⟩
            · rw [ha] at harr; cases harr
            · have hm : m < len ∧ off = m * j.size := by
                rw [h3, List.getElem?_map] at hf
                simp only [Option.map_eq_some_iff, Prod.mk.injEq] at hf
                obtain ⟨k', hk, h6, h7⟩ := hf
                obtain ⟨h8, h9⟩ := List.getElem?_eq_some_iff.1 hk
                simp at h8 h9
                exact ⟨h8, by rw [← h6, h9]⟩
              have he' : (match co x with
                | .box b o => pv (.box b (o + off))
                | .oel q sz i o => pv (.oel q sz i (o + off))
                | .vel cs => pv (.vel (cs.drop off))
                | .hel h n i o => pv (.hel h n i (o + off))
                | .rv (.cv ⟨.ptr h, n⟩) => .chk (!(Nat.beq n 0)) (pv (T := Tb) (.hel h n 0 off))
                | _ => .fail).val Φ σ = some r := by
                revert he
                cases co x with
                | rv z => intro he; cases he
                | _ => exact id
              obtain ⟨e1, ad, hu, hrel⟩ := ptr_off h hc he'
              refine ⟨e1, _, ?_, hrel⟩
              subst hu
              have h0 : (0 : Int) ≤ Int.ofNat m := by simp
              have h6 : (Int.ofNat m : Int) < len := by simp; exact hm.1
              simp only [Int.ofNat_eq_natCast] at ei h6 h0
              simp [Instr.indexAt, ei, asIntOf, run_underlying h1, Instr.sureAddr, hm.1, sizeOf, typeInfo, h2, hm.2]
          · cases he
        · cases he
      · cases he
    · cases he
  · cases he
end
end Go.Abs
namespace Go.Abs
open Go.RowKit Go.Lib
section
variable {P : Program} {Tb : Tab} {T : List TRow} {E : Env} {σ : AS} {a : Act} {w w' : World} {ν : Nm → Value} {O : Nat → Prop} {Φ : PhiT Tb} {V : View} {Y : Value} {σ' : AS}
theorem flatten_int {V : View} {k : IntKind} : ∀ {xs : List Int} {yss : List (List Value)}, All2 (Rel V (.int k)) xs yss → yss.flatten = xs.map (Value.int k)
  | [], [], _ => rfl
  | x :: xs, y :: ys, h => by
    have h1 : y = [Value.int k x] := h.1
    have h2 := flatten_int h.2
    simp [h1, h2]
  | [], _ :: _, h => h.elim
  | _ :: _, [], h => h.elim
theorem strOf_foldl (xs : List Int) : ∀ (s : ByteArray), (xs.foldl (fun r n => r.push (UInt8.ofNat n.toNat)) s).data = s.data ++ (xs.map fun n => UInt8.ofNat n.toNat).toArray := by
  induction xs with
  | nil => intro s; simp
  | cons x xs ih =>
    intro s
    simp only [List.foldl_cons, ih, List.map_cons]
    show (s.data.push _) ++ _ = _
    apply Array.ext'
    simp
theorem strOf_eq (xs : List Int) : xs.foldl (fun r n => r.push (UInt8.ofNat n.toNat)) ByteArray.empty = strOf xs := by
  have h := strOf_foldl xs ByteArray.empty
  have h2 : (ByteArray.empty).data = #[] := rfl
  rw [h2, Array.empty_append] at h
  cases hh : xs.foldl (fun r n => r.push (UInt8.ofNat n.toNat)) ByteArray.empty with
  | mk d => rw [hh] at h; simp only at h; subst h; rfl
theorem bytesStr_run {xs : List Int} {A : Option Addr} {c : Nat} (hA : A = none → xs = []) (hc : ∀ ad, A = some ad → ∀ j u, (xs.map (Value.int .u8))[j]? = some u → w.cell? (ad.add j) = some u) :
    (Conv.bytesToString (.slice A xs.length c)).run P w = .ok (.string (strOf xs)) w := by
  cases A with
  | none => rw [hA rfl]; rfl
  | some ad =>
    have hl := run_loadCells_list (P := P) w ad (xs.map (Value.int .u8)) (hc ad rfl)
    rw [List.length_map] at hl
    rw [run_bytesToString w ad xs.length c xs hl, strOf_eq]
theorem val_convV (hE : EnvOk E) (hT : TabOk P T) (h : St E σ a w ν O) {s d : TypeId} {x : AV} {u : Value} (hx : AvRel (view E σ ν O w) σ ν E.Y x u) {r : Res} (he : (convV (T := Tb) T s d x).val Φ σ = some r) :
    r.2 = .upd [] ∧ ∃ v w', (convert s d u).run P w = .ok v w' ∧ Below w.heap.size w w' ∧ AvRel (view E σ ν O w') σ ν E.Y r.1 v := by
  unfold convV at he
  split at he
  · rename_i rs rd hrs hrd
    obtain ⟨rfl, hs'⟩ := hT s rs hrs
    obtain ⟨rfl, hd'⟩ := hT d rd hrd
    have hs := hs'.desc
    have hd := hd'.desc
    have same : ∀ {z : AV} {v : Value}, (z, Eff.upd []) = r → (convert rs.id rd.id u).run P w = .ok v w → AvRel (view E σ ν O w) σ ν E.Y z v →
        r.2 = .upd [] ∧ ∃ v w', (convert rs.id rd.id u).run P w = .ok v w' ∧ Below w.heap.size w w' ∧ AvRel (view E σ ν O w') σ ν E.Y r.1 v := fun e h1 h2 => by subst e; exact ⟨rfl, _, w, h1, Below.refl _ _, h2⟩
    split at he
    · rename_i k j i n hty1 hty2
      have ex := av_int hx rfl
      rw [hty1] at hs; rw [hty2] at hd
      rw [val_cvr] at he
      refine same he ?_ rel_avint
      simp [convert, run_underlying (show P.underlying rs.id = some (.int _) from hs), run_underlying (show P.underlying rd.id = some (.int _) from hd), ex, Conv.intToInt]
    · rename_i n hty1 hty2
      have ex := av_str hx rfl
      rw [hty1] at hs; rw [hty2] at hd
      rw [val_cvr] at he
      refine same (v := .string n) he ?_ rel_avstr
      simp [convert, run_underlying (show P.underlying rs.id = some .string from hs), run_underlying (show P.underlying rd.id = some .string from hd), ex]
    · rename_i xs hty1 hty2
      rw [hty1] at hs; rw [hty2] at hd
      obtain ⟨hs1, re, hre, hre2⟩ := hs
      obtain ⟨hid, hre'⟩ := hT _ re hre
      have hdre := hre'.desc
      rw [hre2] at hdre
      have hue : P.underlying rs.elem = some (.int .u8) := by rw [← hid]; exact hdre
      rw [val_cvr] at he
      obtain ⟨A, cc, yss, ex, hlen, hall, hnone, hcells⟩ := lrel_slice hx
      refine same (v := .string (strOf xs)) he ?_ rel_avstr
      have hb := bytesStr_run (P := P) (w := w) (xs := xs) (A := A) (c := cc) (fun e => by
          have := hnone e
          cases xs with
          | nil => rfl
          | cons y ys => simp at hlen; omega) (fun ad e j u hj => by
          rw [← flatten_int hall] at hj
          obtain ⟨ad', e', hv⟩ := hcells j u hj
          rw [e] at e'
          obtain rfl : ad = ad' := by simpa using e'
          exact view_cell hE h.keep hv)
      rw [ex]
      cases A with
      | none => simp [convert, run_underlying hs1, run_underlying (show P.underlying rd.id = some .string from hd), run_underlying hue, hb]
      | some ad => simp [convert, run_underlying hs1, run_underlying (show P.underlying rd.id = some .string from hd), run_underlying hue, hb]
    · rename_i q hty1 hty2
      rw [hty1] at hs; rw [hty2] at hd
      obtain ⟨hs1, re, hre, hre2⟩ := hs
      obtain ⟨hid, hre'⟩ := hT _ re hre
      have hdre := hre'.desc
      rw [hre2] at hdre
      have hue : P.underlying rs.elem = some (.int .u8) := by rw [← hid]; exact hdre
      rw [val_row] at he
      obtain ⟨row, hrow, he⟩ := he
      split at he
      · rename_i e xs
        rw [val_cvr] at he
        have hR := h.row hrow
        obtain ⟨A, cc, er, hlen, hnone, hA⟩ := row_val hR
        obtain ⟨yss, h1, h2⟩ := row_cells hR
        refine same (v := .string (strOf xs)) he ?_ rel_avstr
        have hb := bytesStr_run (P := P) (w := w) (xs := xs) (A := A) (c := cc) (fun e => by
            have := hnone e
            cases xs with
            | nil => rfl
            | cons y ys => simp at hlen; omega) (fun ad e j u hj => by
            rw [← flatten_int h1] at hj
            obtain ⟨e1, e2⟩ := hA ad e
            have := h2 ad.block (by rw [er, e]; rfl) j u hj
            obtain ⟨b, o, sp⟩ := ad
            simp only at e1 e2 this
            subst e1 e2
            rw [addr0]; exact this)
        rw [hx.1, er]
        cases A with
        | none => simp [convert, run_underlying hs1, run_underlying (show P.underlying rd.id = some .string from hd), run_underlying hue, hb]
        | some ad => simp [convert, run_underlying hs1, run_underlying (show P.underlying rd.id = some .string from hd), run_underlying hue, hb]
      · cases he
    · rename_i n hty1 hty2
      have ex := av_str hx rfl
      rw [hty1] at hs; rw [hty2] at hd
      obtain ⟨hd1, re, hre, hre2⟩ := hd
      obtain ⟨hid, hre'⟩ := hT _ re hre
      have hdre := hre'.desc
      rw [hre2] at hdre
      have hue : P.underlying rd.elem = some (.int .u8) := by rw [← hid]; exact hdre
      rw [val_chk, val_cvr] at he
      obtain ⟨hle, rfl⟩ := he
      refine ⟨rfl, _, bytesWorld w rd.elem n, by rw [ex]; exact run_convert_string_bytes w rs.id rd.id rd.elem n (show P.underlying rs.id = some .string from hs) hd1 hue, ?_, ?_⟩
      · refine ⟨rfl, rfl, rfl, by rw [bytesWorld_size]; omega, fun k hk => bytesWorld_at_old w rd.elem n k hk⟩
      · refine ⟨some ⟨w.heap.size, 0, none⟩, grownCap w n.size 0 rd.elem, (bytesOf n).map fun n => [Value.int .u8 n], ?_, ?_, ?_, fun e => (by cases e), ?_⟩
        · have : List.length (bytesOf n) = n.size := by simp [bytesOf]
          rw [this]
        · have : List.length (bytesOf n) = n.size := by simp [bytesOf]
          rw [this]
          exact grownCap_ge w n.size 0 rd.elem
        · have : ∀ l : List Int, All2 (Rel (view E σ ν O (bytesWorld w rd.elem n)) (.int .u8)) l (l.map fun n => [Value.int .u8 n]) := by
            intro l
            induction l with
            | nil => trivial
            | cons y ys ih => exact ⟨rfl, ih⟩
          exact this _
        · intro j v hj
          have hfl : ∀ l : List Int, (l.map fun n => [Value.int .u8 n]).flatten = l.map (Value.int .u8) := by
            intro l
            induction l with
            | nil => rfl
            | cons y ys ih => simp [ih]
          rw [hfl] at hj
          refine ⟨_, rfl, .inr ⟨?_, ?_, ?_, ?_⟩⟩
          · rw [addr0]; exact h.keep.size
          · rw [addr0]
            rintro ⟨m, hm⟩
            have := (h.bnd m _ hm).2.1
            simp at this
          · rw [addr0]
            intro ho
            have := (h.out.2 _ ho).1
            simp at this
          · rw [addr0]
            simp only [bytesOf, List.getElem?_map, List.map_map] at hj
            cases hb : n.data.toList[j]? with
            | none => simp [hb] at hj
            | some y =>
              have hlt : j < n.size := by
                have := (List.getElem?_eq_some_iff.1 hb).1
                simpa using this
              rw [bytesWorld_cell w rd.elem n j hlt]
              simp [hb] at hj
              simp [List.getD, hb, ← hj]
    · cases he
  · cases he
theorem flatten_drop {V : View} {t : Ty} : ∀ {xs : List t.den} {yss : List (List Value)} (n : Nat), All2 (Rel V t) xs yss → (yss.drop n).flatten = yss.flatten.drop (n * t.size)
  | xs, yss, 0, h => by simp
  | [], [], n + 1, h => by simp
  | x :: xs, y :: yss, n + 1, h => by
    have := Rel.length h.1
    rw [List.drop_succ_cons, flatten_drop n h.2, List.flatten_cons, List.drop_append, Nat.succ_mul, this]
    have e : List.drop (n * t.size + t.size) y = [] := by apply List.drop_eq_nil_of_le; omega
    rw [e, List.nil_append]
    congr 1; omega
  | [], _ :: _, _, h => h.elim
  | _ :: _, [], _, h => h.elim
theorem flatten_take {V : View} {t : Ty} : ∀ {xs : List t.den} {yss : List (List Value)} (n : Nat), All2 (Rel V t) xs yss → (yss.take n).flatten = yss.flatten.take (n * t.size)
  | xs, yss, 0, h => by simp
  | [], [], n + 1, h => by simp
  | x :: xs, y :: yss, n + 1, h => by
    have := Rel.length h.1
    rw [List.take_succ_cons, List.flatten_cons, flatten_take n h.2, List.flatten_cons, List.take_append, Nat.succ_mul, this]
    have e : List.take (n * t.size + t.size) y = y := by apply List.take_of_length_le; omega
    rw [e]
    congr 2; omega
  | [], _ :: _, _, h => h.elim
  | _ :: _, [], _, h => h.elim
theorem inCut_iff {n : Nat} {l h : Int} : inCut n l h = true ↔ 0 ≤ l ∧ l ≤ h ∧ h ≤ n := by simp [inCut, and_assoc]
theorem cut_length {α : Type} {xs : List α} {l h : Int} (hc : inCut xs.length l h = true) : (cut xs l h).length = h.toNat - l.toNat := by
  obtain ⟨h1, h2, h3⟩ := inCut_iff.1 hc
  simp [cut]; omega
theorem optInt_some {av : Operand → AV} (hav : ∀ x, AvRel V σ ν Y (av x) (a.eval x)) {d : Int} {x : Option Operand} {n : Int} (he : optInt av d x = some n) :
    (x = none ∧ n = d) ∨ ∃ y k, x = some y ∧ a.eval y = .int k n := by
  cases x with
  | none => simp [optInt] at he; exact .inl ⟨rfl, he.symm⟩
  | some y =>
    simp only [optInt] at he
    split at he
    · rename_i k m hy
      simp only [Option.some.injEq] at he
      subst he
      have := hav y
      rw [hy] at this
      exact .inr ⟨y, _, rfl, av_int this rfl⟩
    · cases he
theorem run_bound {x : Value} {k : IntKind} {n : Int} {y : Nat} {code : BoundsCode} (hx : x = .int k n) (h0 : 0 ≤ n) (h1 : n ≤ y) :
    (Instr.sliceBound x y code).run P w = .ok n.toNat w := by
  subst hx
  simp [Instr.sliceBound, asIntOf, h0, h1]
theorem run_bounds2 {av : Operand → AV} (hav : ∀ x, AvRel V σ ν Y (av x) (a.eval x)) {s : Bool} {len cap : Nat} {lo hi : Option Operand} {l r : Int} (hl : optInt av 0 lo = some l) (hh : optInt av len hi = some r)
    (h0 : 0 ≤ l) (h1 : l ≤ r) (h2 : r ≤ cap) :
    (Instr.sliceBounds s len cap (lo.map a.eval) (hi.map a.eval) none).run P w = .ok (l.toNat, r.toNat, cap) w := by
  rcases optInt_some hav hl with ⟨rfl, rfl⟩ | ⟨y, k, rfl, ey⟩ <;> rcases optInt_some hav hh with ⟨rfl, rfl⟩ | ⟨z, k', rfl, ez⟩
  · simp [Instr.sliceBounds]
  · have hz := fun c => run_bound (P := P) (w := w) (code := c) ez (by omega) h2
    simp [Instr.sliceBounds, hz]
  · have hy := fun c => run_bound (P := P) (w := w) (code := c) (y := len) ey h0 (by omega)
    simp [Instr.sliceBounds, hy]
  · have hz := fun c => run_bound (P := P) (w := w) (code := c) ez (by omega) h2
    have hy := fun c => run_bound (P := P) (w := w) (code := c) (y := r.toNat) ey h0 (by omega)
    simp [Instr.sliceBounds, hz, hy]
theorem rel_cut {V : View} {t : Ty} {xs : List t.den} {A : Option Addr} {c : Nat} {yss : List (List Value)} (hlen : xs.length ≤ c) (hall : All2 (Rel V t) xs yss) (hnone : A = none → c = 0)
    (hcells : ∀ j u, yss.flatten[j]? = some u → ∃ ad, A = some ad ∧ V (ad.add j) u) {l r : Int} (hc : inCut xs.length l r = true) {m : Nat} (hm : r.toNat ≤ m) (hmc : m ≤ c) :
    LRel V ⟨.slice t, cut xs l r⟩ (.slice (if m = l.toNat then A else A.map (·.add (l.toNat * t.size))) (r.toNat - l.toNat) (m - l.toNat)) := by
  obtain ⟨h1, h2, h3⟩ := inCut_iff.1 hc
  refine ⟨_, _, (yss.take r.toNat).drop l.toNat, by rw [cut_length hc], by rw [cut_length hc]; omega, (hall.take _).drop _, ?_, ?_⟩
  · intro e
    split at e
    · have := hnone e; omega
    · have : A = none := by simpa using e
      have := hnone this; omega
  · intro j u hj
    rw [flatten_drop l.toNat (hall.take _), flatten_take r.toNat hall] at hj
    have h4 := take_get (drop_get hj)
    obtain ⟨ad, e, hv⟩ := hcells _ u h4
    subst e
    by_cases hml : m = l.toNat
    · have hlt := (List.getElem?_eq_some_iff.1 hj).1
      have : r.toNat = l.toNat := by omega
      simp [this] at hlt
    · exact ⟨ad.add (l.toNat * t.size), by simp [hml], by rw [add_add]; exact hv⟩
theorem val_sliceV (hT : TabOk P T) {av : Operand → AV} (hav : ∀ x, AvRel V σ ν Y (av x) (a.eval x)) {t : TypeId} {x : AV} {u : Value} (hx : AvRel V σ ν Y x u) {lo hi mx : Option Operand} {r : Res}
    (he : (sliceV (T := Tb) T av t x lo hi mx).val Φ σ' = some r) :
    r.2 = .upd [] ∧ ∃ v, (Instr.sliceAt t u (lo.map a.eval) (hi.map a.eval) (mx.map a.eval)).run P w = .ok v w ∧ AvRel V σ ν Y r.1 v := by
  unfold sliceV at he
  have hc := co_rel hx
  split at he
  · rename_i tr hr
    obtain ⟨rfl, hr'⟩ := hT t tr hr
    have hd := hr'.desc
    split at he
    · split at he
      · rename_i s hty hb
        rw [hb] at hc
        rw [hty] at hd
        have hd' : P.underlying tr.id = some .string := hd
        have ex := av_str hc rfl
        split at he
        · rename_i l r' hl hh
          rw [val_chk, val_cvr] at he
          obtain ⟨hc, rfl⟩ := he
          obtain ⟨h1, h2, h3⟩ := inCut_iff.1 hc
          have hb := run_bounds2 (P := P) (w := w) (s := false) hav hl hh h1 h2 h3
          refine ⟨rfl, .string (s.extract l.toNat r'.toNat), ?_, rel_avstr⟩
          simp [Instr.sliceAt, Instr.slice, run_underlying hd', ex, hb]
        · cases he
      · rename_i ut u' xs hty hb
        rw [hb] at hc
        obtain ⟨hu, re, hre, hid, hre2⟩ := elem_of hT hr' hty
        have hsz : (sizeOf tr.elem).run P w = .ok ut.size w := by rw [← hid, ← hre2]; exact size_run hre w
        obtain ⟨A, cc, yss, ex, hlen, hall, hnone, hcells⟩ := lrel_slice hc
        split at he
        · rename_i l r' hl hh
          rw [val_chk, val_cvr] at he
          obtain ⟨hc, rfl⟩ := he
          rw [Bool.and_eq_true] at hc
          obtain ⟨hsu, hc⟩ := hc
          have hsu' := (beq_iff _ _).1 hsu
          obtain ⟨h1, h2, h3⟩ := inCut_iff.1 hc
          have hb := run_bounds2 (P := P) (w := w) (s := true) hav hl hh h1 h2 (show r' ≤ (cc : Int) by omega)
          refine ⟨rfl, _, ?_, rel_cut (m := cc) hlen hall hnone hcells hc (by omega) (Nat.le_refl _)⟩
          simp [Instr.sliceAt, Instr.slice, run_underlying hu, ex, hb, hsz, hsu']
        · cases he
      · cases he
    · rename_i mx
      split at he
      · rename_i ut u' xs hty hb
        rw [hb] at hc
        obtain ⟨hu, re, hre, hid, hre2⟩ := elem_of hT hr' hty
        have hsz : (sizeOf tr.elem).run P w = .ok ut.size w := by rw [← hid, ← hre2]; exact size_run hre w
        obtain ⟨A, cc, yss, ex, hlen, hall, hnone, hcells⟩ := lrel_slice hc
        split at he
        · rename_i hx'
          split at he
          · rename_i l r' m hl hh hm
            rw [val_chk, val_cvr] at he
            obtain ⟨hc, rfl⟩ := he
            simp only [Bool.and_eq_true, decide_eq_true_eq] at hc
            obtain ⟨⟨⟨hsu, hc⟩, hrm⟩, hml⟩ := hc
            have hsu' := (beq_iff _ _).1 hsu
            obtain ⟨h1, h2, h3⟩ := inCut_iff.1 hc
            obtain ⟨_, k1, e1, ez⟩ := (optInt_some hav hh).resolve_left (by simp)
            obtain ⟨_, k2, e2, em⟩ := (optInt_some hav hm).resolve_left (by simp)
            cases e1; cases e2
            have hbm := fun c => run_bound (P := P) (w := w) (code := c) (y := cc) em (by omega) (by omega)
            have hbz := fun c => run_bound (P := P) (w := w) (code := c) (y := m.toNat) ez (by omega) (by omega)
            refine ⟨rfl, _, ?_, rel_cut (m := m.toNat) hlen hall hnone hcells hc (by omega) (by omega)⟩
            rcases optInt_some hav hl with ⟨rfl, rfl⟩ | ⟨y, k, rfl, ey⟩
            · simp [Instr.sliceAt, Instr.slice, Instr.sliceBounds, run_underlying hu, ex, hbm, hbz, hsz, hsu']
            · have hby := fun c => run_bound (P := P) (w := w) (code := c) (y := r'.toNat) ey h1 (by omega)
              simp [Instr.sliceAt, Instr.slice, Instr.sliceBounds, run_underlying hu, ex, hbm, hbz, hby, hsz, hsu']
          · cases he
        · cases he
      · cases he
  · cases he
theorem foldl_cells : ∀ (vs : List Value) (k off : Nat) (cells : Array Value), off + k + vs.length ≤ cells.size →
    ((vs.zipIdx k).foldl (fun cs (p : Value × Nat) => cs.setIfInBounds (off + p.2) p.1) cells).toList = cells.toList.take (off + k) ++ vs ++ cells.toList.drop (off + k + vs.length)
  | [], k, off, cells, h => by simp
  | v :: vs, k, off, cells, h => by
    simp only [List.length_cons] at h
    rw [List.zipIdx_cons, List.foldl_cons, foldl_cells vs (k + 1) off _ (by simp; omega)]
    have := list_seg_step cells.toList (off + k) v vs (by simp; omega)
    simp only [Array.toList_setIfInBounds]
    have e1 : off + (k + 1) = off + k + 1 := by omega
    rw [e1, this]
    congr 2
theorem fill_rel {V : View} {flds : List (Nat × Nat)} {av : Operand → AV} (hav : ∀ x, AvRel V σ ν Y (av x) (a.eval x)) : ∀ (parts : List (Nat × Operand)) (cs cs' : List CV) (cells : Array Value), partsOf av flds parts cs = some cs' → All2 (LRel V) cs cells.toList →
    ∃ cells', Instr.fill (flds.toArray[·]?) cells (parts.map fun (i, x) => (i, a.eval x)) = some cells' ∧ All2 (LRel V) cs' cells'.toList
  | [], cs, cs', cells, h, hr => by simp only [partsOf, Option.some.injEq] at h; subst h; exact ⟨cells, rfl, hr⟩
  | (i, x) :: parts, cs, cs', cells, h, hr => by
    simp only [partsOf] at h
    have hlen := hr.length
    have go : ∀ (vs : List CV) (off size : Nat) (ws : List Value), flds[i]? = some (off, size) → (a.eval x).cells = ws.toArray → All2 (LRel V) vs ws → size = vs.length → off + vs.length ≤ cs.length →
        partsOf av flds parts (splice cs off vs) = some cs' → ∃ cells', Instr.fill (flds.toArray[·]?) cells (((i, x) :: parts).map fun (i, x) => (i, a.eval x)) = some cells' ∧ All2 (LRel V) cs' cells'.toList := by
      intro vs off size ws hf hc hvs hs hle hp
      have hl2 := hvs.length
      have hfo := foldl_cells ws 0 off cells (by simp at hlen; omega)
      obtain ⟨cells', h1, h2⟩ := fill_rel hav parts (splice cs off vs) cs' (ws.toArray.zipIdx.foldl (fun cs (p : Value × Nat) => cs.setIfInBounds (off + p.2) p.1) cells) hp (by
        have e : (ws.toArray.zipIdx.foldl (fun cs (p : Value × Nat) => cs.setIfInBounds (off + p.2) p.1) cells).toList = cells.toList.take off ++ ws ++ cells.toList.drop (off + ws.length) := by
          rw [← Array.foldl_toList]
          simpa using hfo
        rw [e, splice, hl2]
        exact ((hr.take off).append hvs).append (hr.drop _))
      refine ⟨cells', ?_, h2⟩
      have hc2 : (a.eval x).cells.size = size := by rw [hc]; simp; omega
      have hb : ¬ off + size > cells.size := by simp at hlen; omega
      simp only [List.map_cons, Instr.fill]
      rw [show flds.toArray[i]? = some (off, size) by simpa using hf]
      simp only [hc2, ne_eq, not_true_eq_false, false_or]
      rw [if_neg (by simpa [hc2] using hb)]
      rw [hc]
      exact h1
    split at h
    · rename_i off size hf
      have hx := hav x
      split at h
      · rename_i c hc
        rw [hc] at hx
        cases hb : (Nat.beq size 1 && Nat.blt off cs.length) with
        | false => simp [hb] at h
        | true =>
          simp only [hb, cond_true] at h
          rw [Bool.and_eq_true] at hb
          have h1 := (beq_iff _ _).1 hb.1
          have h2 : off + 1 ≤ cs.length := Nat.le_of_ble_eq_true hb.2
          exact go [c] off size [a.eval x] hf (lrel_cells hx) ⟨hx, trivial⟩ h1 h2 h
      · rename_i vs hc
        rw [hc] at hx
        obtain ⟨ws, e, hx⟩ := hx
        cases hb : (Nat.beq size vs.length && Nat.ble (off + vs.length) cs.length) with
        | false => simp [hb] at h
        | true =>
          simp only [hb, cond_true] at h
          rw [Bool.and_eq_true] at hb
          have h1 := (beq_iff _ _).1 hb.1
          have h2 := Nat.le_of_ble_eq_true hb.2
          exact go vs off size ws hf (by rw [e]; rfl) hx h1 h2 h
      · cases h
    · cases h
theorem fill_congr {f g : Nat → Option (Nat × Nat)} : ∀ (l : List (Nat × Value)) (cells cells' : Array Value), (∀ i p, g i = some p → f i = some p) → Instr.fill g cells l = some cells' → Instr.fill f cells l = some cells'
  | [], _, _, _, h => h
  | (i, v) :: l, cells, cells', hfg, h => by
    simp only [Instr.fill] at h ⊢
    split at h
    · cases h
    · rename_i off size hg
      rw [hfg i _ hg]
      simp only
      split at h
      · cases h
      · rename_i hn
        rw [if_neg hn]
        exact fill_congr l _ _ hfg h
theorem val_buildV (hT : TabOk P T) {av : Operand → AV} (hav : ∀ x, AvRel V σ ν Y (av x) (a.eval x)) {t : TypeId} {parts : Array (Nat × Operand)} {r : Res}
    (he : (buildV (T := Tb) T av t parts.toList).val Φ σ' = some r) :
    r.2 = .upd [] ∧ ∃ v, (Instr.build t (parts.map fun (i, x) => (i, a.eval x))).run P w = .ok v w ∧ AvRel V σ ν Y r.1 v := by
  unfold buildV at he
  split at he
  · rename_i tr hr
    obtain ⟨rfl, hr'⟩ := hT t tr hr
    split at he
    · rename_i u hty
      simp only [val_orFail, val_pv] at he
      obtain ⟨cs, hcs, rfl⟩ := he
      have hd := hr'.desc
      rw [hty] at hd
      obtain ⟨i, zz, hi, hsz, _, hz, hrel, _⟩ := hr'.info
      have hz2 := rel_flat (hrel V)
      rw [hty] at hz2
      obtain ⟨cells', h1, h2⟩ := fill_rel (V := V) hav parts.toList _ cs zz.cells hcs hz2
      rcases hd with ⟨_, fs, hu, hm, _⟩ | ⟨_, n, e, j, hu, hj, hf, h0, _⟩
      · have hb : P.built tr.id (parts.map fun (i, x) => (i, a.eval x)).toList = some cells' := by
          simp only [Program.built, hi, hu, hz, hm, Array.toList_map]
          exact h1
        exact ⟨rfl, .agg cells', run_build w tr.id _ _ hb, cells'.toList, by simp, h2⟩
      · refine ⟨rfl, .agg cells', ?_, cells'.toList, by simp, h2⟩
        have h3 : Instr.fill (fun i => some (i * j.size, j.size)) zz.cells (parts.toList.map fun (i, x) => (i, a.eval x)) = some cells' := by
          refine fill_congr _ _ _ (fun i p hp => ?_) h1
          rw [hf] at hp
          simp only [List.getElem?_toArray, List.getElem?_map, Option.map_eq_some_iff] at hp
          obtain ⟨k, hk, rfl⟩ := hp
          obtain ⟨_, h9⟩ := List.getElem?_eq_some_iff.1 hk
          simp at h9
          rw [h9]
        simp [Instr.build, zeroValue, typeInfo, hi, hz, run_underlying hu, sizeOf, hj, h3]
    · cases he
  · cases he
theorem val_index (hT : TabOk P T) {t : TypeId} {x i : AV} {u v : Value} (hx : AvRel V σ ν Y x u) (hi : AvRel V σ ν Y i v) {r : Res}
    (he : (match findT T t with
    | some r => match r.ty, i, x with
      | .str, .rv (.cv ⟨.int _, n⟩), .rv (.cv ⟨.str, s⟩) => Q.opt (T := Tb) (sidx s n) fun b => cvr (.int .u8) b
      | _, _, _ => .fail
    | none => .fail).val Φ σ' = some r) : r.2 = .upd [] ∧ ∃ z, (Instr.index t u v).run P w = .ok z w ∧ AvRel V σ ν Y r.1 z := by
  split at he
  · rename_i tr hr
    obtain ⟨rfl, hr'⟩ := hT t tr hr
    split at he
    · rename_i k n s hty
      have ei := av_int hi rfl
      have ex := av_str hx rfl
      have hd := hr'.desc
      rw [hty] at hd
      rw [val_opt] at he
      obtain ⟨b, hb, he⟩ := he
      rw [val_cvr] at he
      subst he
      cases n with
      | negSucc m => simp [sidx] at hb
      | ofNat m =>
        simp only [sidx, Option.map_eq_some_iff] at hb
        obtain ⟨u, hu, rfl⟩ := hb
        refine ⟨rfl, .int .u8 u.toNat, ?_, rel_avint⟩
        have h0 : (0 : Int) ≤ Int.ofNat m := by simp
        simp [Instr.index, ei, ex, asIntOf, run_underlying (show P.underlying tr.id = some .string from hd), hu]
    · cases he
  · cases he
end
end Go.Abs
namespace Go.Abs
open Go.RowKit Go.Lib
section
variable {P : Program} {E : Env} {σ σ' : AS} {a : Act} {w w' : World} {ν ν' : Nm → Value} {O : Nat → Prop} {V V' : View} {Y : Value}
theorem mapR_rel {R S : RV → Value → Prop} {f : RV → RV} (hf : ∀ x v, R x v → S (f x) v) : ∀ {xs : List RV} {ys : List Value}, All2 R xs ys → All2 S (xs.map f) ys
  | [], [], _ => trivial
  | _ :: _, _ :: _, h => ⟨hf _ _ h.1, mapR_rel hf h.2⟩
  | [], _ :: _, h => h.elim
  | _ :: _, [], h => h.elim
theorem all2_mem {α β : Type} {R S : α → β → Prop} : ∀ {xs : List α} {ys : List β}, (∀ x ∈ xs, ∀ y, R x y → S x y) → All2 R xs ys → All2 S xs ys
  | [], [], _, _ => trivial
  | x :: xs, y :: ys, hf, h => ⟨hf x (by simp) y h.1, all2_mem (fun z hz => hf z (by simp [hz])) h.2⟩
  | [], _ :: _, _, h => h.elim
  | _ :: _, [], _, h => h.elim
theorem isSome_of {α : Type} {o : Option α} {x : α} (h : o = some x) : o.isSome = true := by simp [h]
theorem AvRel.keep (hV : ∀ a v, V a v → V' a v) (hh : HSub σ ν σ' ν') (x : AV) (v : Value)
    (hr : ∀ r, x.knowsRow r = true → ∀ row, look σ.rows r = some row → ν' (.row r) = ν (.row r) ∧ ∃ row', look σ'.rows r = some row' ∧ row'.t.size = row.t.size)
    (hb : ∀ b, x.knowsBox b = true → (look σ.boxes b).isSome = true → ν' (.box b) = ν (.box b) ∧ (look σ'.boxes b).isSome = true) (h : AvRel V σ ν Y x v) : AvRel V' σ' ν' Y x v := by
  have rv : ∀ (y : RV) u, (∀ r, y.isOwn r = true → ∀ row, look σ.rows r = some row → ν' (.row r) = ν (.row r) ∧ ∃ row', look σ'.rows r = some row' ∧ row'.t.size = row.t.size) → RvRel V σ ν y u → RvRel V' σ' ν' y u := fun y u hy h => by
    cases y with
    | cv c => exact LRel.mono hV c u h
    | agg cs => obtain ⟨vs, e, h⟩ := h; exact ⟨vs, e, h.mono (LRel.mono hV)⟩
    | own r =>
      obtain ⟨row, hrow⟩ := Option.isSome_iff_exists.1 h.2
      obtain ⟨h1, row', h2, _⟩ := hy r (beq_refl r) row hrow
      exact ⟨by rw [h1]; exact h.1, by rw [h2]; rfl⟩
  have ba : ∀ b off u, ((look σ.boxes b).isSome = true → ν' (.box b) = ν (.box b) ∧ (look σ'.boxes b).isSome = true) → BoxAt σ ν b off u → BoxAt σ' ν' b off u := fun b off u hb h => by
    obtain ⟨h1, g, h2, h3⟩ := h
    obtain ⟨h4, h5⟩ := hb h1
    exact ⟨h5, g, by rw [h4]; exact h2, h3⟩
  cases x with
  | rv x => exact rv x v hr h
  | lit u => exact h
  | box b off => exact ba b off v (hb b (beq_refl b)) h
  | oel r sz i off =>
    obtain ⟨row, g, h1, h2, h3, h4⟩ := h
    obtain ⟨h5, row', h6, h7⟩ := hr r (beq_refl r) row h1
    exact ⟨row', g, h6, by rw [h5]; exact h2, by rw [h7]; exact h3, h4⟩
  | vel cs => exact VelAt.mono hV h
  | hel i n j off =>
    obtain ⟨hr, g, h1, h2, h3, h4, h5⟩ := h
    obtain ⟨hr', h6, h7, h8⟩ := hh.row i hr h1
    exact ⟨hr', g, h6, h2, Nat.le_trans h3 h8, by rw [hh.nm i n h2 (by rw [hlen_of h1]; exact h3)]; exact h4, by rw [h7.t]; exact h5⟩
  | fn f caps =>
    obtain ⟨vs, h1, h2⟩ := h
    refine ⟨vs, h1, all2_mem (fun c hc u hu => ?_) h2⟩
    cases c with
    | box b => exact ba b 0 u (hb b (List.any_eq_true.2 ⟨_, hc, beq_refl b⟩)) hu
    | vel cs => exact VelAt.mono hV hu
  | yld => exact h
  | tup l =>
    obtain ⟨vs, h1, h2⟩ := h
    exact ⟨vs, h1, all2_mem (fun y hy u hu => rv y u (fun r hyr => hr r (List.any_eq_true.2 ⟨y, hy, hyr⟩)) hu) h2⟩
  | nil => trivial
theorem hobj_hp {heaps : List HRow} {h n : Nat} {o : Obj} (ho : hobj heaps h n = some o) : ∃ k row, o = .hp k row := by
  cases n with
  | zero => cases ho
  | succ m =>
    simp only [hobj] at ho
    split at ho
    · unfold hslot at ho
      split at ho
      · simp only [Option.some.injEq] at ho; exact ⟨_, _, ho.symm⟩
      · cases ho
    · cases ho
theorem St.less (hE : EnvOk E) (h : St E σ a w ν O) {a' : Act} (hrow : ∀ r row, look σ'.rows r = some row → look σ.rows r = some row) (hbox : ∀ b, (look σ'.boxes b).isSome = true → (look σ.boxes b).isSome = true)
    (hh : σ'.heaps = σ.heaps) (htr : σ'.trace = σ.trace) (hd : a'.defers = a.defers)
    (hboxR : (∀ key v, view E σ ν O w key v → view E σ' ν O w key v) → ∀ b x, look σ'.boxes b = some x → BoxRel (view E σ' ν O w) σ' ν w (ν (.box b)) x)
    (hsl : (∀ key v, view E σ ν O w key v → view E σ' ν O w key v) → SRel (AvRel (view E σ' ν O w) σ' ν E.Y) σ'.tmps a'.tmps.toList E.XS) : St E σ' a' w ν O := by
  have hown : ∀ m k, Own σ' ν m k → Own σ ν m k := fun m k hm => by
    refine ⟨?_, hm.2⟩
    have h1 := hm.1
    cases m with
    | row r =>
      simp only [AS.obj, Option.isSome_map] at h1 ⊢
      obtain ⟨row, e⟩ := Option.isSome_iff_exists.1 h1
      exact isSome_of (hrow r row e)
    | box b => simp only [AS.obj, Option.isSome_map] at h1 ⊢; exact hbox b h1
    | hp i n => simp only [AS.obj, hh] at h1 ⊢; exact h1
  refine h.step hE (C := fun _ => False) (Grow.refl _ _) (fun k hk => hk.elim) (HSub.of_eq hh (fun _ _ => rfl)) (fun m k hm => .inl ⟨m, hown m k hm, id⟩) (fun m k hm => (h.bnd m k (hown m k hm)).2.1) (fun m m' k h1 h2 => h.inj m m' k (hown _ _ h1) (hown _ _ h2)) (fun m k hk => h.new m k (hown _ _ hk)) htr hd (by rw [hh]; exact h.nn) (fun i hr e => by rw [hh]; exact (h.ro i hr e).1) (fun hV m o ho => ?_) hsl
  cases m with
  | row r =>
    simp only [AS.obj, Option.map_eq_some_iff] at ho
    obtain ⟨row, e, rfl⟩ := ho
    exact RowRel.mono hV (fun _ _ => rfl) (h.row (hrow r row e))
  | box b =>
    simp only [AS.obj, Option.map_eq_some_iff] at ho
    obtain ⟨x, e, rfl⟩ := ho
    exact hboxR hV b x e
  | hp i n =>
    have ho' : σ.obj (.hp i n) = some o := by simp only [AS.obj, hh] at ho ⊢; exact ho
    obtain ⟨k, row, rfl⟩ := hobj_hp ho'
    exact HpRel.mono hV (fun _ _ => rfl) (h.objs _ _ ho')
theorem look_del_some {α : Type} {l : List (Nat × α)} {j k : Nat} {x : α} (h : look (del l j) k = some x) : look l k = some x := by
  rw [look_del] at h; split at h
  · cases h
  · exact h
theorem St.freeze (hE : EnvOk E) (h : St E σ a w ν O) (r : Nat) : St E (σ.freeze r) a w ν O := by
  unfold AS.freeze
  cases hrow : look σ.rows r with
  | none => exact h
  | some row =>
    show St E ({ σ with tmps := σ.tmps.map (AV.thaw r ⟨.slice row.t, row.xs⟩), rows := del σ.rows r, boxes := mapB (BX.thaw r ⟨.slice row.t, row.xs⟩) σ.boxes } : AS) a w ν O
    generalize hσ' : ({ σ with tmps := σ.tmps.map (AV.thaw r ⟨.slice row.t, row.xs⟩), rows := del σ.rows r, boxes := mapB (BX.thaw r ⟨.slice row.t, row.xs⟩) σ.boxes } : AS) = σ'
    have e1 : σ'.rows = del σ.rows r := by rw [← hσ']
    have e2 : σ'.boxes = mapB (BX.thaw r ⟨.slice row.t, row.xs⟩) σ.boxes := by rw [← hσ']
    have e3 : σ'.heaps = σ.heaps := by rw [← hσ']
    have hne : ∀ k, k ≠ r → look σ'.rows k = look σ.rows k := fun k hk => by rw [e1, look_del, if_neg (Ne.symm hk)]
    have hcv : (∀ key v, view E σ ν O w key v → view E σ' ν O w key v) → LRel (view E σ' ν O w) ⟨.slice row.t, row.xs⟩ (ν (.row r)) := fun hV => by
      obtain ⟨yss, ⟨e4, e5⟩, hall⟩ := h.row hrow
      rcases e5 with ⟨e5, e6⟩ | ⟨g, cap, cur, e5, _, hg, hn, hm, hcs, htake⟩
      · have hx : row.xs = [] := List.eq_nil_of_length_eq_zero e6
        rw [e5, hx]
        exact ⟨none, 0, [], rfl, Nat.le_refl _, trivial, fun _ => rfl, fun j u hj => by simp at hj⟩
      · have hb := h.bnd (.row r) g ⟨by simp [AS.obj, hrow], by rw [e5]; rfl⟩
        rw [e5]
        refine ⟨some ⟨g, 0, none⟩, cap, yss, rfl, hn, hall.mono (Rel.mono hV _), (fun e => by cases e), fun j u hj => ⟨_, rfl, ?_⟩⟩
        have hcell : w.cell? ⟨g, j, none⟩ = some u := by
          rw [cell_of_row w g j cur row.e (0, 0) hg]
          rw [← htake] at hj
          simpa using take_get hj
        rw [addr0]
        have hB := (h.new (.row r) g ⟨by simp [AS.obj, hrow], by rw [e5]; rfl⟩).resolve_right id
        · refine .inr ⟨hB, ?_, hb.2.2, hcell⟩
          rintro ⟨m, hm1, hm2⟩
          have : m = .row r := h.inj m (.row r) g ⟨by
            cases m with
            | row k => simp only [AS.obj, Option.isSome_map] at hm1 ⊢; obtain ⟨_, e⟩ := Option.isSome_iff_exists.1 hm1; rw [e1] at e; exact isSome_of (look_del_some e)
            | box b => simp only [AS.obj, Option.isSome_map, e2, look_mapB] at hm1 ⊢; exact hm1
            | hp i n => simp only [AS.obj, e3] at hm1 ⊢; exact hm1, hm2⟩ ⟨by simp [AS.obj, hrow], by rw [e5]; rfl⟩
          subst this
          simp [AS.obj, e1, look_del] at hm1
    refine h.less hE (a' := a) (fun k row' h1 => look_del_some (by rw [← e1]; exact h1)) (fun b h1 => by rw [e2, look_mapB, Option.isSome_map] at h1; exact h1) e3 (by rw [← hσ']) rfl (fun hV b x hx => ?_) (fun hV => ?_)
    · rw [e2, look_mapB, Option.map_eq_some_iff] at hx
      obtain ⟨x0, hx0, rfl⟩ := hx
      have hbr := h.box hx0
      obtain ⟨g, hg1, hg2⟩ := hbr
      refine ⟨g, hg1, ?_⟩
      cases x0 with
      | cells cs => obtain ⟨cur, e, h3, h4⟩ := hg2; exact ⟨cur, e, h3, h4.mono (LRel.mono hV)⟩
      | own k =>
        obtain ⟨e, h3, h4⟩ := hg2
        simp only [BX.thaw]
        cases hk : Nat.beq k r with
        | true => have := (beq_iff _ _).1 hk; subst this; exact ⟨_, e, h3, hcv hV, trivial⟩
        | false => exact ⟨e, h3, by rw [hne k (beq_ff.1 hk)]; exact h4⟩
      | nil => exact hg2
    · have hsl : σ'.tmps = σ.tmps.map (AV.thaw r ⟨.slice row.t, row.xs⟩) := by rw [← hσ']
      rw [hsl]
      refine map_rel (fun x v hx => ?_) h.slots
      have hrv : ∀ x v, RvRel (view E σ ν O w) σ ν x v → RvRel (view E σ' ν O w) σ' ν (x.thaw r ⟨.slice row.t, row.xs⟩) v := by
        intro x v hx
        cases x with
        | cv c => exact LRel.mono hV c v hx
        | agg cs => obtain ⟨vs, h1, h2⟩ := hx; exact ⟨vs, h1, h2.mono (LRel.mono hV)⟩
        | own k =>
          obtain ⟨h1, h2⟩ := hx
          simp only [RV.thaw]
          cases hk : Nat.beq k r with
          | true => have := (beq_iff _ _).1 hk; subst this; rw [h1]; exact hcv hV
          | false => exact ⟨h1, by rw [hne k (beq_ff.1 hk)]; exact h2⟩
      have hbk : ∀ b, (look σ'.boxes b).isSome = (look σ.boxes b).isSome := fun b => by rw [e2, look_mapB, Option.isSome_map]
      cases x with
      | rv x => exact hrv x v hx
      | oel k sz i off =>
        simp only [AV.thaw]
        cases hk : Nat.beq k r with
        | true => trivial
        | false =>
          obtain ⟨row', g, h1, h2⟩ := hx
          exact ⟨row', g, by rw [hne k (beq_ff.1 hk)]; exact h1, h2⟩
      | tup l => obtain ⟨vs, h1, h2⟩ := hx; exact ⟨vs, h1, mapR_rel hrv h2⟩
      | lit u => exact hx
      | box b off => exact AvRel.keep hV (HSub.of_eq e3 (fun _ _ => rfl)) (.box b off) v (fun r hr => by cases hr) (fun b _ hs => ⟨rfl, by rw [hbk b]; exact hs⟩) hx
      | vel cs => exact VelAt.mono hV hx
      | hel i n j off => exact AvRel.keep hV (HSub.of_eq e3 (fun _ _ => rfl)) (.hel i n j off) v (fun r hr => by cases hr) (fun b _ hs => ⟨rfl, by rw [hbk b]; exact hs⟩) hx
      | fn f caps => exact AvRel.keep hV (HSub.of_eq e3 (fun _ _ => rfl)) (.fn f caps) v (fun r hr => by cases hr) (fun b _ hs => ⟨rfl, by rw [hbk b]; exact hs⟩) hx
      | yld => exact hx
      | nil => trivial
theorem St.frz (hE : EnvOk E) (h : St E σ a w ν O) (x : Operand) : St E (σ.frz x) a w ν O := by
  unfold AS.frz
  split
  · exact h.freeze hE _
  · exact h
theorem St.frzs (hE : EnvOk E) (h : St E σ a w ν O) : ∀ xs, St E (σ.frzs xs) a w ν O := by
  intro xs
  induction xs generalizing σ with
  | nil => exact h
  | cons x xs ih => exact ih (h.frz hE x)
theorem loseRow_look (r k : Nat) : look (σ.loseRow r).rows k = if r = k then none else look σ.rows k := look_del _ _ _
theorem loseBox_look (r k : Nat) : look (σ.loseBox r).boxes k = if r = k then none else look σ.boxes k := look_del _ _ _
theorem box_lose {w w' : World} {r : Nat} {x : BX} {v : Value} (hV : ∀ a v, V a v → V' a v) (hr : ∀ k, k ≠ r → (look σ.rows k).isSome = true → ν' (.row k) = ν (.row k) ∧ look σ'.rows k = look σ.rows k)
    (hk : ∀ k, blkOf v = some k → w'.heap[k]? = w.heap[k]?) (h : BoxRel V σ ν w v x) : BoxRel V' σ' ν' w' v (x.loseRow r) := by
  obtain ⟨g, h1, h2⟩ := h
  have hg := hk g (by rw [h1]; rfl)
  refine ⟨g, h1, ?_⟩
  unfold BX.loseRow
  cases x with
  | cells cs => obtain ⟨cur, e, h3, h4⟩ := h2; exact ⟨cur, e, by rw [hg]; exact h3, h4.mono (LRel.mono hV)⟩
  | own k =>
    obtain ⟨e, h3, h4⟩ := h2
    simp only [BX.knowsRow]
    cases hb : Nat.beq r k with
    | true => exact ⟨_, e, by rw [hg]; exact h3⟩
    | false =>
      have hne := Ne.symm (beq_ff.1 hb)
      obtain ⟨i1, i2⟩ := hr k hne h4
      exact ⟨e, by rw [hg, i1]; exact h3, by rw [i2]; exact h4⟩
  | nil => obtain ⟨u, e, h3⟩ := h2; exact ⟨u, e, by rw [hg]; exact h3⟩
theorem av_lose {r : Nat} (hV : ∀ a v, V a v → V' a v) (hh : HSub σ ν σ' ν') (hr : ∀ k, k ≠ r → (look σ.rows k).isSome = true → ν' (.row k) = ν (.row k) ∧ look σ'.rows k = look σ.rows k)
    (hb : ∀ b, (look σ.boxes b).isSome = true → ν' (.box b) = ν (.box b) ∧ (look σ'.boxes b).isSome = true) (x : AV) (v : Value)
    (h : AvRel V σ ν Y x v) : AvRel V' σ' ν' Y (x.loseRow r) v := by
  unfold AV.loseRow
  cases hk : x.knowsRow r with
  | true => trivial
  | false => exact h.keep hV hh x v (fun k hkk row hrow => by
      obtain ⟨i1, i2⟩ := hr k (fun e => by rw [e, hk] at hkk; cases hkk) (isSome_of hrow)
      exact ⟨i1, row, by rw [i2]; exact hrow, rfl⟩) (fun b _ => hb b)
theorem St.loseRow (hE : EnvOk E) (h : St E σ a w ν O) (r : Nat) : St E (σ.loseRow r) a w ν O := by
  have hne : ∀ k, k ≠ r → look (σ.loseRow r).rows k = look σ.rows k := fun k hk => by rw [loseRow_look, if_neg (Ne.symm hk)]
  have hbs : ∀ b, (look (σ.loseRow r).boxes b).isSome = (look σ.boxes b).isSome := fun b => by show (look (mapB _ _) b).isSome = _; rw [look_mapB, Option.isSome_map]
  refine h.less hE (σ' := σ.loseRow r) (a' := a) (fun k row h1 => look_del_some h1) (fun b h1 => by rw [← hbs]; exact h1) rfl rfl rfl (fun hV b x hx => ?_) (fun hV => map_rel (av_lose (σ := σ) (σ' := σ.loseRow r) hV (HSub.of_eq rfl (fun _ _ => rfl)) (fun k hk _ => ⟨rfl, hne k hk⟩) (fun b hs => ⟨rfl, by rw [hbs]; exact hs⟩)) h.slots)
  have hx' : look (mapB (BX.loseRow r) σ.boxes) b = some x := hx
  rw [look_mapB, Option.map_eq_some_iff] at hx'
  obtain ⟨x0, hx0, rfl⟩ := hx'
  exact box_lose hV (fun k hk _ => ⟨rfl, hne k hk⟩) (fun _ _ => rfl) (h.box hx0)
theorem St.loseBox (hE : EnvOk E) (h : St E σ a w ν O) (d : Nat) : St E (σ.loseBox d) a w ν O := by
  have hne : ∀ k, k ≠ d → look (σ.loseBox d).boxes k = look σ.boxes k := fun k hk => by rw [loseBox_look, if_neg (Ne.symm hk)]
  refine h.less hE (σ' := σ.loseBox d) (a' := a) (fun k row h1 => h1) (fun b h1 => ?_) rfl rfl rfl (fun hV b x hx => ?_) (fun hV => map_rel (fun x v hx => ?_) h.slots)
  · obtain ⟨x, e⟩ := Option.isSome_iff_exists.1 h1; exact isSome_of (look_del_some e)
  · exact (h.box (look_del_some hx)).mono hV (fun _ _ => rfl) (fun r _ hr => ⟨rfl, hr⟩)
  · unfold AV.loseBox
    cases hk : x.knowsBox d with
    | true => trivial
    | false => exact AvRel.keep (σ := σ) (σ' := σ.loseBox d) hV (HSub.of_eq rfl (fun _ _ => rfl)) x v (fun _ _ row hrow => ⟨rfl, row, hrow, rfl⟩) (fun b hb hs => ⟨rfl, by rw [hne b (fun e => by rw [e, hk] at hb; cases hb)]; exact hs⟩) hx
theorem St.loseR (hE : EnvOk E) (h : St E σ a w ν O) : ∀ ds, St E (σ.loseR ds) a w ν O := by
  intro ds
  induction ds generalizing σ with
  | nil => exact h
  | cons d ds ih => exact ih (h.loseRow hE d)
theorem St.loseB (hE : EnvOk E) (h : St E σ a w ν O) : ∀ ds, St E (σ.loseB ds) a w ν O := by
  intro ds
  induction ds generalizing σ with
  | nil => exact h
  | cons d ds ih => exact ih (h.loseBox hE d)
theorem St.share (hE : EnvOk E) (h : St E σ a w ν O) : ∀ (hs : List (Nat × Bool)), St E (σ.share hs) a w ν O := by
  intro hs
  induction hs generalizing σ with
  | nil => exact h
  | cons p hs ih =>
    obtain ⟨j, b⟩ := p
    cases b
    · exact ih h
    · exact ih (h.frz hE _)
theorem St.forget (hE : EnvOk E) (h : St E σ a w ν O) (hs : List (Nat × Bool)) : St E (σ.forget hs) a w ν O := by
  have h1 := h.share hE hs
  unfold AS.forget
  generalize σ.share hs = σ1 at h1
  dsimp only
  generalize hl : keepL σ1.tmps.l hs = l
  generalize hbs : (σ1.boxes.filter fun p => l.any (fun q => q.2.knowsBox p.1) || σ1.tmps.s.any fun q => q.2.knowsBox p.1) = bs
  generalize hrs : (σ1.rows.filter fun p => (l.any fun q => q.2.knowsRow p.1) || (σ1.tmps.s.any fun q => q.2.knowsRow p.1) || bs.any fun q => q.2.knowsRow p.1) = rs
  have hbl : ∀ b, look bs b = if (l.any (fun q => q.2.knowsBox b) || σ1.tmps.s.any fun q => q.2.knowsBox b) then look σ1.boxes b else none := fun b => by
    rw [← hbs]; exact look_filter σ1.boxes (fun k => l.any (fun q => q.2.knowsBox k) || σ1.tmps.s.any fun q => q.2.knowsBox k) b
  have hrl : ∀ r, look rs r = if ((l.any fun q => q.2.knowsRow r) || (σ1.tmps.s.any fun q => q.2.knowsRow r) || bs.any fun q => q.2.knowsRow r) then look σ1.rows r else none := fun r => by
    rw [← hrs]; exact look_filter σ1.rows (fun k => (l.any fun q => q.2.knowsRow k) || (σ1.tmps.s.any fun q => q.2.knowsRow k) || bs.any fun q => q.2.knowsRow k) r
  refine h1.less hE (a' := a) (fun r row e => ?_) (fun b e => ?_) rfl rfl rfl (fun hV b x hx => ?_) (fun hV => ⟨h1.slots.1, fun i x hx => ?_, fun i x hx => ?_⟩)
  · have e' : look rs r = some row := e
    rw [hrl] at e'; split at e'
    · exact e'
    · cases e'
  · have e' : (look bs b).isSome = true := e
    rw [hbl] at e'; split at e'
    · exact e'
    · cases e'
  · have hx' : look bs b = some x := hx
    have hm := look_mem hx'
    rw [hbl] at hx'; split at hx'
    · refine (h1.box hx').mono hV (fun _ _ => rfl) (fun r e hr => ⟨rfl, ?_⟩)
      show (look rs r).isSome = true
      have hk : (bs.any fun q => q.2.knowsRow r) = true := List.any_eq_true.2 ⟨(b, x), hm, by rw [e]; exact beq_refl r⟩
      rw [hrl, if_pos (by rw [hk, Bool.or_true])]
      exact hr
    · cases hx'
  · have hx' : look l i = some x := hx
    have hm := look_mem hx'
    have hv : look σ1.tmps.l i = some x := by
      rw [← hl] at hx'
      unfold keepL at hx'
      rw [look_filter σ1.tmps.l (fun k => hs.any fun p => Nat.beq p.1 k) i] at hx'
      split at hx'
      · exact hx'
      · cases hx'
    refine AvRel.keep (σ := σ1) hV (HSub.of_eq (by rfl) (fun _ _ => rfl)) x _ (fun r hk row hrow => ⟨rfl, row, ?_, rfl⟩) (fun b hk hs => ⟨rfl, ?_⟩) (h1.slots.2.1 i x hv)
    · show look rs r = _
      rw [hrl, if_pos (by rw [show (l.any fun q => q.2.knowsRow r) = true from List.any_eq_true.2 ⟨(i, x), hm, hk⟩]; rfl)]; exact hrow
    · show (look bs b).isSome = _
      rw [hbl, if_pos (by rw [show (l.any fun q => q.2.knowsBox b) = true from List.any_eq_true.2 ⟨(i, x), hm, hk⟩]; rfl)]; exact hs
  · have hx' : look σ1.tmps.s i = some x := hx
    have hm := look_mem hx'
    refine AvRel.keep (σ := σ1) hV (HSub.of_eq (by rfl) (fun _ _ => rfl)) x _ (fun r hk row hrow => ⟨rfl, row, ?_, rfl⟩) (fun b hk hs => ⟨rfl, ?_⟩) (h1.slots.2.2 i x hx')
    · show look rs r = _
      rw [hrl, if_pos (by rw [show (σ1.tmps.s.any fun q => q.2.knowsRow r) = true from List.any_eq_true.2 ⟨(i, x), hm, hk⟩]; simp)]; exact hrow
    · show (look bs b).isSome = _
      rw [hbl, if_pos (by rw [show (σ1.tmps.s.any fun q => q.2.knowsBox b) = true from List.any_eq_true.2 ⟨(i, x), hm, hk⟩]; simp)]; exact hs
def updR (ν : Nm → Value) (d : Nat) (v : Value) : Nm → Value
  | .row k => if k = d then v else ν (.row k)
  | m => ν m
def updB (ν : Nm → Value) (d : Nat) (v : Value) : Nm → Value
  | .box k => if k = d then v else ν (.box k)
  | m => ν m
def updH (ν : Nm → Value) (h n : Nat) (v : Value) : Nm → Value
  | .hp i k => if i = h ∧ k = n then v else ν (.hp i k)
  | m => ν m
theorem obj_row_some {r : Nat} {k : Nat} (h : Own σ ν (.row r) k) : (look σ.rows r).isSome = true := by have := h.1; simpa [AS.obj] using this
theorem own_row {r : Nat} {row : Row} {k : Nat} (h : look σ.rows r = some row) (hb : blkOf (ν (.row r)) = some k) : Own σ ν (.row r) k := ⟨by simp [AS.obj, h], hb⟩
def unren (r d : Nat) : Nm → Nm
  | .row k => if k = d then .row r else .row k
  | m => m
theorem unren_ro {r d : Nat} {m : Nm} (h : E.RoNm (unren r d m)) : E.RoNm m := by
  cases m with
  | row k => simp only [unren] at h; split at h <;> exact absurd h ro_row
  | _ => exact h
theorem St.rename (hE : EnvOk E) (h : St E σ a w ν O) {r d : Nat} (hd : look σ.rows d = none) : ∃ ν', St E (σ.rename r d) a w ν' O ∧ (∀ m, (∀ k, m ≠ .row k) → ν' m = ν m) ∧ ((look σ.rows r).isSome = true → ν' (.row d) = ν (.row r) ∧ (look (σ.rename r d).rows d).isSome = true) := by
  unfold AS.rename
  cases hrow : look σ.rows r with
  | none => exact ⟨ν, h, fun _ _ => rfl, by simp⟩
  | some row =>
    have hrd : r ≠ d := fun e => by rw [e, hd] at hrow; cases hrow
    generalize hσ' : ({ σ with tmps := σ.tmps.map (AV.ren r d), rows := put (del σ.rows r) d row, boxes := mapB (BX.ren r d) σ.boxes } : AS) = σ'
    have e1 : σ'.rows = put (del σ.rows r) d row := by rw [← hσ']
    have e2 : σ'.boxes = mapB (BX.ren r d) σ.boxes := by rw [← hσ']
    have e3 : σ'.heaps = σ.heaps := by rw [← hσ']
    have hlook : ∀ k, look σ'.rows k = if d = k then some row else if r = k then none else look σ.rows k := fun k => by rw [e1, look_put, look_del]
    have hd1 : look σ'.rows d = some row := by rw [hlook, if_pos rfl]
    have hν : ∀ m, (updR ν d (ν (.row r))) m = ν (unren r d m) := fun m => by
      cases m with
      | row k => simp only [updR, unren]; split <;> rfl
      | _ => rfl
    have hobj : ∀ m, (σ'.obj m).isSome = true → (σ.obj (unren r d m)).isSome = true ∧ unren r d m ≠ .row d ∧ m ≠ .row r := fun m hm => by
      cases m with
      | row k =>
        simp only [AS.obj, Option.isSome_map, hlook] at hm
        simp only [unren]
        by_cases hk : d = k
        · subst hk
          rw [if_pos rfl]
          exact ⟨by simp [AS.obj, hrow], fun e => hrd (by injection e), fun e => hrd (by injection e with e; exact e.symm)⟩
        · rw [if_neg hk] at hm
          rw [if_neg (Ne.symm hk)]
          split at hm
          · cases hm
          · rename_i hk2
            exact ⟨by simpa [AS.obj] using hm, fun e => hk (by injection e with e; exact e.symm), fun e => hk2 (by injection e with e; exact e.symm)⟩
      | box b => simp only [AS.obj, Option.isSome_map, e2, look_mapB] at hm; exact ⟨by simpa [AS.obj, unren] using hm, fun e => (by cases e), fun e => (by cases e)⟩
      | hp i n => simp only [AS.obj, e3] at hm; exact ⟨by simpa [AS.obj, unren] using hm, fun e => (by cases e), fun e => (by cases e)⟩
    have hown : ∀ m k, Own σ' (updR ν d (ν (.row r))) m k → Own σ ν (unren r d m) k := fun m k hm => ⟨(hobj m hm.1).1, by rw [← hν]; exact hm.2⟩
    have hinj0 : ∀ m m', (σ'.obj m).isSome = true → (σ'.obj m').isSome = true → unren r d m = unren r d m' → m = m' := fun m m' h1 h2 he => by
      have a1 := (hobj m h1).2.2
      have a2 := (hobj m' h2).2.2
      cases m with
      | row k =>
        cases m' with
        | row k' =>
          simp only [unren] at he
          by_cases q1 : k = d <;> by_cases q2 : k' = d
          · rw [q1, q2]
          · rw [if_pos q1, if_neg q2] at he; injection he with he; exact absurd (by rw [he]) a2
          · rw [if_neg q1, if_pos q2] at he; injection he with he; exact absurd (by rw [he]) a1
          · rw [if_neg q1, if_neg q2] at he; exact he
        | box b => simp only [unren] at he; split at he <;> cases he
        | hp i n => simp only [unren] at he; split at he <;> cases he
      | box b => cases m' with
        | row k' => simp only [unren] at he; split at he <;> cases he
        | _ => exact he
      | hp i n => cases m' with
        | row k' => simp only [unren] at he; split at he <;> cases he
        | _ => exact he
    have hr2 : ∀ k, k ≠ r → (look σ.rows k).isSome = true → updR ν d (ν (.row r)) (.row k) = ν (.row k) ∧ look σ'.rows k = look σ.rows k := fun k hk hs => by
      have hkd : k ≠ d := fun e => by rw [e, hd] at hs; cases hs
      exact ⟨by simp only [updR, if_neg hkd], by rw [hlook, if_neg (Ne.symm hkd), if_neg (Ne.symm hk)]⟩
    have hdν : updR ν d (ν (.row r)) (.row d) = ν (.row r) := by simp only [updR, if_pos]
    refine ⟨updR ν d (ν (.row r)), ?_, fun m hm => ?_, fun _ => ⟨hdν, ?_⟩⟩
    · show St E ({ σ with tmps := σ.tmps.map (AV.ren r d), rows := put (del σ.rows r) d row, boxes := mapB (BX.ren r d) σ.boxes } : AS) a w _ O
      rw [hσ']
      refine h.step hE (C := fun _ => False) (Grow.refl _ _) (fun k hk => hk.elim) (HSub.of_eq e3 (fun _ _ => rfl)) (fun m k hm => .inl ⟨_, hown m k hm, fun e => unren_ro e⟩) (fun m k hm => (h.bnd _ k (hown m k hm)).2.1)
        (fun m m' k h1 h2 => hinj0 m m' h1.1 h2.1 (h.inj _ _ k (hown _ _ h1) (hown _ _ h2))) (fun m' k hk => ?_) (by rw [← hσ']) rfl (by rw [e3]; exact h.nn) (fun i hr e => by rw [e3]; exact (h.ro i hr e).1) (fun hV m o ho => ?_) (fun hV => ?_)
      · have h9 := h.new _ k (hown _ _ hk)
        refine h9.imp id (fun h10 => ?_)
        cases m' with
        | row q => simp only [unren] at h10; split at h10 <;> exact h10
        | box q => trivial
        | hp i n => simp only [unren] at h10; exact h10
      · cases m with
        | row k =>
          simp only [AS.obj, Option.map_eq_some_iff] at ho
          obtain ⟨row', e, rfl⟩ := ho
          rw [hlook] at e
          split at e
          · rename_i hk
            subst hk
            obtain rfl : row = row' := by simpa using e
            rw [hdν]
            exact RowRel.mono hV (fun _ _ => rfl) (h.row hrow)
          · rename_i hk
            split at e
            · cases e
            · rename_i hk2
              rw [(hr2 k (Ne.symm hk2) (isSome_of e)).1]
              exact RowRel.mono hV (fun _ _ => rfl) (h.row e)
        | box b =>
          simp only [AS.obj, Option.map_eq_some_iff] at ho
          obtain ⟨x, e, rfl⟩ := ho
          rw [e2, look_mapB, Option.map_eq_some_iff] at e
          obtain ⟨x0, hx0, rfl⟩ := e
          obtain ⟨g, hg1, hg2⟩ := h.box hx0
          refine ⟨g, hg1, ?_⟩
          cases x0 with
          | cells cs => obtain ⟨cur, e, h3, h4⟩ := hg2; exact ⟨cur, e, h3, h4.mono (LRel.mono hV)⟩
          | own k =>
            obtain ⟨e, h3, h4⟩ := hg2
            simp only [BX.ren]
            cases hk : Nat.beq k r with
            | true => have := (beq_iff _ _).1 hk; subst this; exact ⟨e, by rw [cond_true, hdν]; exact h3, by rw [cond_true, hd1]; rfl⟩
            | false =>
              obtain ⟨i1, i2⟩ := hr2 k (beq_ff.1 hk) h4
              exact ⟨e, by rw [cond_false, i1]; exact h3, by rw [cond_false, i2]; exact h4⟩
          | nil => exact hg2
        | hp i n =>
          have ho' : σ.obj (.hp i n) = some o := by simp only [AS.obj, e3] at ho ⊢; exact ho
          obtain ⟨k, row, rfl⟩ := hobj_hp ho'
          exact HpRel.mono hV (fun _ _ => rfl) (h.objs _ _ ho')
      · have hsl : σ'.tmps = σ.tmps.map (AV.ren r d) := by rw [← hσ']
        rw [hsl]
        refine map_rel (fun x v hx => ?_) h.slots
        have hrv : ∀ x v, RvRel (view E σ ν O w) σ ν x v → RvRel (view E σ' (updR ν d (ν (.row r))) O w) σ' (updR ν d (ν (.row r))) (x.ren r d) v := by
          intro x v hx
          cases x with
          | cv c => exact LRel.mono hV c v hx
          | agg cs => obtain ⟨vs, h1, h2⟩ := hx; exact ⟨vs, h1, h2.mono (LRel.mono hV)⟩
          | own k =>
            obtain ⟨h1, h2⟩ := hx
            simp only [RV.ren]
            cases hk : Nat.beq k r with
            | true => have := (beq_iff _ _).1 hk; subst this; exact ⟨by rw [cond_true, hdν]; exact h1, by rw [cond_true, hd1]; rfl⟩
            | false =>
              obtain ⟨i1, i2⟩ := hr2 k (beq_ff.1 hk) h2
              exact ⟨by rw [cond_false, i1]; exact h1, by rw [cond_false, i2]; exact h2⟩
        have hba : ∀ b off v, BoxAt σ ν b off v → BoxAt σ' (updR ν d (ν (.row r))) b off v := fun b off v hb => ⟨by rw [e2, look_mapB, Option.isSome_map]; exact hb.1, hb.2⟩
        cases x with
        | rv x => exact hrv x v hx
        | oel k sz i off =>
          obtain ⟨row', g, h1, h2, h3⟩ := hx
          simp only [AV.ren]
          cases hk : Nat.beq k r with
          | true =>
            have := (beq_iff _ _).1 hk; subst this
            rw [hrow] at h1
            obtain rfl : row = row' := by simpa using h1
            exact ⟨row, g, by rw [cond_true]; exact hd1, by rw [cond_true, hdν]; exact h2, h3⟩
          | false =>
            obtain ⟨i1, i2⟩ := hr2 k (beq_ff.1 hk) (isSome_of h1)
            exact ⟨row', g, by rw [cond_false, i2]; exact h1, by rw [cond_false, i1]; exact h2, h3⟩
        | tup l => obtain ⟨vs, h1, h2⟩ := hx; exact ⟨vs, h1, mapR_rel hrv h2⟩
        | lit u => exact hx
        | box b off => exact hba b off v hx
        | vel cs => exact VelAt.mono hV hx
        | hel i n j off => obtain ⟨hr', g, h1, h2⟩ := hx; exact ⟨hr', g, by rw [e3]; exact h1, h2⟩
        | fn f caps =>
          obtain ⟨vs, h1, h2⟩ := hx
          refine ⟨vs, h1, h2.mono (fun c u hc => ?_)⟩
          cases c with
          | box b => exact hba b 0 u hc
          | vel cs => exact VelAt.mono hV hc
        | yld => exact hx
        | nil => trivial
    · cases m with
      | row k => exact absurd rfl (hm k)
      | _ => rfl
    · show (look (put (del σ.rows r) d row) d).isSome = true
      rw [look_put, if_pos rfl]; rfl
end
end Go.Abs
namespace Go.Abs
open Go.RowKit Go.Lib
section
variable {P : Program} {E : Env} {σ σ' : AS} {a : Act} {w w' : World} {ν ν' : Nm → Value} {O : Nat → Prop} {V V' : View} {Y : Value}
theorem updR_same {d : Nat} {v : Value} : updR ν d v (.row d) = v := by simp only [updR, if_pos]
theorem updR_ne {d k : Nat} {v : Value} (h : k ≠ d) : updR ν d v (.row k) = ν (.row k) := by simp only [updR, if_neg h]
theorem St.old (h : St E σ a w ν O) {C : Nat → Prop} (hg : Grow C w w') {m : Nm} {o : Obj} (ho : σ.obj m = some o) (hc : ∀ k, blkOf (ν m) = some k → ¬ C k) (hV : ∀ key v, view E σ ν O w key v → V key v)
    (hr : ∀ r, o = .box (.own r) → (look σ.rows r).isSome = true → ν' (.row r) = ν (.row r) ∧ (look σ'.rows r).isSome = true) : ObjRel V σ' ν' w' (ν m) o :=
  (h.objs m o ho).mono hV (fun k hk => hg.block k (h.bnd m k ⟨isSome_of ho, hk⟩).2.1 (hc k hk)) hr
theorem St.replRow (hE : EnvOk E) (h : St E σ a w ν O) {r d : Nat} {row' : Row} {v' : Value} (hd : look (σ.loseRow r).rows d = none) (hg : Grow (fun k => Own σ ν (.row r) k) w w')
    (hnew : ∀ k, blkOf v' = some k → Own σ ν (.row r) k ∨ (w.heap.size ≤ k ∧ k < w'.heap.size))
    (hrel : (∀ key v, view E σ ν O w key v → view E { (σ.loseRow r) with rows := put (σ.loseRow r).rows d row' } (updR ν d v') O w' key v) →
      RowRel (view E { (σ.loseRow r) with rows := put (σ.loseRow r).rows d row' } (updR ν d v') O w') w' v' row') :
    St E { (σ.loseRow r) with rows := put (σ.loseRow r).rows d row' } a w' (updR ν d v') O := by
  generalize hσ' : ({ (σ.loseRow r) with rows := put (σ.loseRow r).rows d row' } : AS) = σ' at hrel
  have e1 : σ'.rows = put (σ.loseRow r).rows d row' := by rw [← hσ']
  have e2 : σ'.boxes = mapB (BX.loseRow r) σ.boxes := by rw [← hσ']; rfl
  have e3 : σ'.heaps = σ.heaps := by rw [← hσ']; rfl
  have hlook : ∀ k, look σ'.rows k = if d = k then some row' else if r = k then none else look σ.rows k := fun k => by rw [e1, look_put, loseRow_look]
  have hdr : ∀ k, (look σ.rows k).isSome = true → k ≠ r → k ≠ d := fun k hk hkr e => by
    subst e
    rw [loseRow_look, if_neg (Ne.symm hkr)] at hd
    rw [hd] at hk; cases hk
  have hold : ∀ k, k ≠ r → (look σ.rows k).isSome = true → updR ν d v' (.row k) = ν (.row k) ∧ look σ'.rows k = look σ.rows k := fun k hkr hk =>
    ⟨updR_ne (hdr k hk hkr), by rw [hlook, if_neg (Ne.symm (hdr k hk hkr)), if_neg (Ne.symm hkr)]⟩
  -- what is owned
  have hown : ∀ m k, Own σ' (updR ν d v') m k → (m = .row d ∧ (Own σ ν (.row r) k ∨ (w.heap.size ≤ k ∧ k < w'.heap.size))) ∨ (m ≠ .row d ∧ m ≠ .row r ∧ Own σ ν m k) := by
    intro m k hm
    obtain ⟨h1, h2⟩ := hm
    cases m with
    | row q =>
      simp only [AS.obj, Option.isSome_map, hlook] at h1
      by_cases hq : d = q
      · subst hq; rw [updR_same] at h2; exact .inl ⟨rfl, hnew k h2⟩
      · rw [if_neg hq] at h1
        split at h1
        · cases h1
        · rename_i hqr
          rw [updR_ne (Ne.symm hq)] at h2
          exact .inr ⟨fun e => hq (by injection e with e; exact e.symm), fun e => hqr (by injection e with e; exact e.symm), by simpa [AS.obj] using h1, h2⟩
    | box b => simp only [AS.obj, Option.isSome_map, e2, look_mapB] at h1; exact .inr ⟨fun e => (by cases e), fun e => (by cases e), by simpa [AS.obj] using h1, h2⟩
    | hp i n => simp only [AS.obj, e3] at h1; exact .inr ⟨fun e => (by cases e), fun e => (by cases e), by simpa [AS.obj] using h1, h2⟩
  refine h.step hE hg (fun k hk => ⟨_, hk, ro_row⟩) (HSub.of_eq e3 (fun _ _ => rfl)) (fun m k hm => ?_) (fun m k hm => ?_) (fun m m' k h1 h2 => ?_) (fun q k hk => ?_) (by rw [← hσ']; rfl) rfl (by rw [e3]; exact h.nn) (fun i hr e => by rw [e3]; exact (h.ro i hr e).1) (fun hV m o ho => ?_) (fun hV => ?_)
  · rcases hown m k hm with ⟨_, h1 | h1⟩ | ⟨_, _, h1⟩
    · exact .inl ⟨_, h1, fun e => absurd e ro_row⟩
    · exact .inr h1.1
    · exact .inl ⟨_, h1, id⟩
  · rcases hown m k hm with ⟨_, h1 | h1⟩ | ⟨_, _, h1⟩
    · exact Nat.lt_of_lt_of_le (h.bnd _ k h1).2.1 hg.size
    · exact h1.2
    · exact Nat.lt_of_lt_of_le (h.bnd _ k h1).2.1 hg.size
  · rcases hown m k h1 with ⟨e, h3⟩ | ⟨n1, n2, h3⟩ <;> rcases hown m' k h2 with ⟨e', h4⟩ | ⟨n1', n2', h4⟩
    · rw [e, e']
    · rcases h3 with h3 | h3
      · exact absurd (h.inj _ _ k h4 h3) n2'
      · exact absurd (h.bnd _ k h4).2.1 (by omega)
    · rcases h4 with h4 | h4
      · exact absurd (h.inj _ _ k h3 h4) n2
      · exact absurd (h.bnd _ k h3).2.1 (by omega)
    · exact h.inj _ _ k h3 h4
  · rcases hown _ k hk with ⟨e, h1 | h1⟩ | ⟨_, _, h1⟩
    · exact .inl ((h.new _ k h1).resolve_right id)
    · exact .inl (Nat.le_trans h.keep.size h1.1)
    · exact h.new _ k h1
  · have hcv : ∀ m', m' ≠ .row r → (σ.obj m').isSome = true → ∀ k, blkOf (ν m') = some k → ¬ Own σ ν (.row r) k := fun m' hne hs k hk ho => hne (h.inj _ _ k ⟨hs, hk⟩ ho)
    cases m with
    | row q =>
      simp only [AS.obj, Option.map_eq_some_iff] at ho
      obtain ⟨rowq, e, rfl⟩ := ho
      rw [hlook] at e
      split at e
      · rename_i hq
        subst hq
        obtain rfl : row' = rowq := by simpa using e
        rw [updR_same]
        exact hrel (by rw [hσ'] at *; exact hV)
      · split at e
        · cases e
        · rename_i hqr
          rw [(hold q (Ne.symm hqr) (isSome_of e)).1]
          have ho : σ.obj (.row q) = some (.row rowq) := by simp [AS.obj, e]
          exact h.old hg ho (hcv _ (fun e => hqr (by injection e with e; exact e.symm)) (isSome_of ho)) hV (fun r' e => by cases e)
    | box b =>
      simp only [AS.obj, Option.map_eq_some_iff] at ho
      obtain ⟨x, e, rfl⟩ := ho
      rw [e2, look_mapB, Option.map_eq_some_iff] at e
      obtain ⟨x0, hx0, rfl⟩ := e
      have ho : σ.obj (.box b) = some (.box x0) := by simp [AS.obj, hx0]
      exact box_lose (σ := σ) (ν := ν) (V := view E σ ν O w) (w := w) hV hold (fun k hk => hg.block k (h.bnd _ k ⟨isSome_of ho, hk⟩).2.1 (hcv _ (fun e => by cases e) (isSome_of ho) k hk)) (h.box hx0)
    | hp i n =>
      have ho' : σ.obj (.hp i n) = some o := by simp only [AS.obj, e3] at ho ⊢; exact ho
      obtain ⟨k, row, rfl⟩ := hobj_hp ho'
      exact h.old (ν' := updR ν d v') hg ho' (hcv _ (fun e => by cases e) (isSome_of ho')) hV (fun r' e => by cases e)
  · have : σ'.tmps = σ.tmps.map (AV.loseRow r) := by rw [← hσ']; rfl
    rw [this]
    exact map_rel (av_lose (ν := ν) (ν' := updR ν d v') hV (HSub.of_eq e3 (fun _ _ => rfl)) hold (fun b hs => ⟨rfl, by rw [e2, look_mapB, Option.isSome_map]; exact hs⟩)) h.slots
theorem St.fresh2 (hE : EnvOk E) (h : St E σ a w ν O) {m0 m1 : Nm} {o0 : Obj} {C : Nat → Prop} (hnr : ¬ E.RoNm m0 ∧ ¬ E.RoNm m1) (hg : Grow C w w') (hC : ∀ k, C k → Own σ ν m1 k)
    (hs : HSub σ ν σ' ν') (hobj : ∀ m, m ≠ m0 → m ≠ m1 → σ'.obj m = σ.obj m ∧ ((σ.obj m).isSome = true → ν' m = ν m)) (hm1 : m1 = m0 ∨ σ'.obj m1 = none) (hobj0 : σ'.obj m0 = none ∨ σ'.obj m0 = some o0)
    (hnew : ∀ k, (σ'.obj m0).isSome = true → blkOf (ν' m0) = some k → Own σ ν m0 k ∨ Own σ ν m1 k ∨ (w.heap.size ≤ k ∧ k < w'.heap.size)) (hold : ∀ k, E.OldNm m1 k → E.OldNm m0 k)
    (hrowsν : ∀ r row, look σ.rows r = some row → ν' (.row r) = ν (.row r) ∧ ∃ row', look σ'.rows r = some row' ∧ row'.t.size = row.t.size)
    (hboxν : ∀ b, (look σ.boxes b).isSome = true → ν' (.box b) = ν (.box b) ∧ (look σ'.boxes b).isSome = true)
    (htr : σ'.trace = σ.trace) (htm : σ'.tmps = σ.tmps) (hnn : ∀ (i : Nat) (hr : HRow) (n : Nat), σ'.heaps[i]? = some hr → 1 ≤ n → n ≤ hr.xs.length → HVal hr.k (ν' (.hp i n)))
    (hro : ∀ i hr, E.ro i = some hr → σ'.heaps[i]? = some hr)
    (hrel : (∀ key v, view E σ ν O w key v → view E σ' ν' O w' key v) → σ'.obj m0 = some o0 → ObjRel (view E σ' ν' O w') σ' ν' w' (ν' m0) o0) : St E σ' a w' ν' O := by
  have hown : ∀ m k, Own σ' ν' m k → (m = m0 ∧ (Own σ ν m0 k ∨ Own σ ν m1 k ∨ (w.heap.size ≤ k ∧ k < w'.heap.size))) ∨ (m ≠ m0 ∧ m ≠ m1 ∧ Own σ ν m k) := fun m k hm => by
    by_cases e : m = m0
    · subst e; exact .inl ⟨rfl, hnew k hm.1 hm.2⟩
    · by_cases e1 : m = m1
      · subst e1
        rcases hm1 with h1 | h1
        · exact absurd h1 e
        · have := hm.1; rw [h1] at this; cases this
      · obtain ⟨h1, h2⟩ := hobj m e e1
        have h3 : (σ.obj m).isSome = true := by rw [← h1]; exact hm.1
        exact .inr ⟨e, e1, h3, by rw [← h2 h3]; exact hm.2⟩
  have hsub : Sub σ ν σ' ν' := { hs with rows := hrowsν, boxes := hboxν }
  refine h.step hE hg (fun k hk => ⟨_, hC k hk, hnr.2⟩) hs (fun m k hm => ?_) (fun m k hm => ?_) (fun m m' k h1 h2 => ?_) (fun q k hk => ?_) htr rfl hnn hro (fun hV m o ho => ?_) (fun hV => by rw [htm]; exact h.slots.mono (AvRel.mono hV hsub))
  · rcases hown m k hm with ⟨_, h1 | h1 | h1⟩ | ⟨_, _, h1⟩
    · exact .inl ⟨_, h1, fun e => absurd e hnr.1⟩
    · exact .inl ⟨_, h1, fun e => absurd e hnr.2⟩
    · exact .inr h1.1
    · exact .inl ⟨_, h1, id⟩
  · rcases hown m k hm with ⟨_, h1 | h1 | h1⟩ | ⟨_, _, h1⟩
    · exact Nat.lt_of_lt_of_le (h.bnd _ k h1).2.1 hg.size
    · exact Nat.lt_of_lt_of_le (h.bnd _ k h1).2.1 hg.size
    · exact h1.2
    · exact Nat.lt_of_lt_of_le (h.bnd _ k h1).2.1 hg.size
  · have clash : ∀ m, m ≠ m0 → m ≠ m1 → Own σ ν m k → ¬ (Own σ ν m0 k ∨ Own σ ν m1 k ∨ (w.heap.size ≤ k ∧ k < w'.heap.size)) := fun m n0 n1 h3 h4 => by
      rcases h4 with h4 | h4 | h4
      · exact n0 (h.inj _ _ k h3 h4)
      · exact n1 (h.inj _ _ k h3 h4)
      · exact absurd (h.bnd _ k h3).2.1 (by omega)
    rcases hown m k h1 with ⟨e, h3⟩ | ⟨n0, n1, h3⟩ <;> rcases hown m' k h2 with ⟨e', h4⟩ | ⟨n0', n1', h4⟩
    · rw [e, e']
    · exact absurd h3 (clash m' n0' n1' h4)
    · exact absurd h4 (clash m n0 n1 h3)
    · exact h.inj _ _ k h3 h4
  · rcases hown _ k hk with ⟨e', h1 | h1 | h1⟩ | ⟨_, _, h1⟩
    · rw [e']; exact h.new _ k h1
    · rw [e']; exact (h.new _ k h1).imp id (hold k)
    · exact .inl (Nat.le_trans h.keep.size h1.1)
    · exact h.new _ k h1
  · by_cases e : m = m0
    · subst e
      rcases hobj0 with h0 | h0
      · rw [h0] at ho; cases ho
      · have ho' := ho
        rw [h0] at ho
        obtain rfl : o0 = o := by simpa using ho
        exact hrel hV ho'
    · by_cases e1 : m = m1
      · subst e1
        rcases hm1 with h1 | h1
        · exact absurd h1 e
        · rw [h1] at ho; cases ho
      · obtain ⟨h1, h2⟩ := hobj m e e1
        rw [h1] at ho
        rw [h2 (isSome_of ho)]
        exact h.old hg ho (fun k hk hc => e1 (h.inj _ _ k ⟨isSome_of ho, hk⟩ (hC k hc))) hV (fun r _ hr => hsub.rowS hr)
theorem St.fresh (hE : EnvOk E) (h : St E σ a w ν O) {m0 : Nm} {o0 : Obj} {C : Nat → Prop} (hnr : ¬ E.RoNm m0) (hg : Grow C w w') (hC : ∀ k, C k → Own σ ν m0 k)
    (hs : HSub σ ν σ' ν') (hobj : ∀ m, m ≠ m0 → σ'.obj m = σ.obj m ∧ ((σ.obj m).isSome = true → ν' m = ν m)) (hobj0 : σ'.obj m0 = some o0)
    (hnew : ∀ k, blkOf (ν' m0) = some k → Own σ ν m0 k ∨ (w.heap.size ≤ k ∧ k < w'.heap.size)) (hrow : ∀ r, m0 = .row r → ∀ k, blkOf (ν' m0) = some k → E.w0.heap.size ≤ k)
    (hrowsν : ∀ r row, look σ.rows r = some row → ν' (.row r) = ν (.row r) ∧ ∃ row', look σ'.rows r = some row' ∧ row'.t.size = row.t.size)
    (hboxν : ∀ b, (look σ.boxes b).isSome = true → ν' (.box b) = ν (.box b) ∧ (look σ'.boxes b).isSome = true)
    (htr : σ'.trace = σ.trace) (htm : σ'.tmps = σ.tmps) (hnn : ∀ (i : Nat) (hr : HRow) (n : Nat), σ'.heaps[i]? = some hr → 1 ≤ n → n ≤ hr.xs.length → HVal hr.k (ν' (.hp i n)))
    (hro : ∀ i hr, E.ro i = some hr → σ'.heaps[i]? = some hr)
    (hrel : (∀ key v, view E σ ν O w key v → view E σ' ν' O w' key v) → ObjRel (view E σ' ν' O w') σ' ν' w' (ν' m0) o0) : St E σ' a w' ν' O :=
  h.fresh2 hE ⟨hnr, hnr⟩ hg hC hs (fun m hm _ => hobj m hm) (.inl rfl) (.inr hobj0) (fun k _ hk => (hnew k hk).imp id .inr) (fun _ h => h) hrowsν hboxν htr htm hnn hro (fun hV _ => hrel hV)
theorem nm_ne_row {m : Nm} {d : Nat} (h : m ≠ .row d) (σ : AS) (rows : List (Nat × Row)) (hr : ∀ k, k ≠ d → look rows k = look σ.rows k) : ({ σ with rows := rows } : AS).obj m = σ.obj m := by
  cases m with
  | row k => simp only [AS.obj]; rw [hr k (fun e => h (by rw [e]))]
  | _ => rfl
theorem nm_ne_box {m : Nm} {d : Nat} (h : m ≠ .box d) (σ : AS) (boxes : List (Nat × BX)) (hr : ∀ k, k ≠ d → look boxes k = look σ.boxes k) : ({ σ with boxes := boxes } : AS).obj m = σ.obj m := by
  cases m with
  | box k => simp only [AS.obj]; rw [hr k (fun e => h (by rw [e]))]
  | _ => rfl
theorem St.newRow (hE : EnvOk E) (h : St E σ a w ν O) {d : Nat} {row' : Row} {v' : Value} (hd : look σ.rows d = none) (hg : Below w.heap.size w w')
    (hnew : ∀ k, blkOf v' = some k → w.heap.size ≤ k ∧ k < w'.heap.size)
    (hrel : (∀ key v, view E σ ν O w key v → view E { σ with rows := put σ.rows d row' } (updR ν d v') O w' key v) → RowRel (view E { σ with rows := put σ.rows d row' } (updR ν d v') O w') w' v' row') :
    St E { σ with rows := put σ.rows d row' } a w' (updR ν d v') O := by
  have hne : ∀ k, (look σ.rows k).isSome = true → k ≠ d := fun k hk e => by rw [e, hd] at hk; cases hk
  have hn0 : ∀ k, ¬ Own σ ν (.row d) k := fun k hk => by have := obj_row_some hk; rw [hd] at this; cases this
  refine h.fresh hE (m0 := .row d) (o0 := .row row') (C := fun _ => False) ro_row (Grow.of_below hg) (fun k hk => hk.elim) (HSub.of_eq rfl (fun _ _ => rfl)) (fun m hm => ⟨nm_ne_row hm σ _ (fun k hk => by rw [look_put, if_neg (Ne.symm hk)]), fun hs => ?_⟩) (by simp [AS.obj, look_put]) (fun k hk => .inr (hnew k (by rw [updR_same] at hk; exact hk))) (fun r e k hk => Nat.le_trans h.keep.size (hnew k (by rw [updR_same] at hk; exact hk)).1)
    (fun r row hr => ⟨updR_ne (hne r (isSome_of hr)), row, by show look (put _ _ _) _ = _; rw [look_put, if_neg (Ne.symm (hne r (isSome_of hr)))]; exact hr, rfl⟩) (fun b hb => ⟨rfl, hb⟩) rfl rfl h.nn (fun i hr e => (h.ro i hr e).1) (fun hV => by rw [updR_same]; exact hrel hV)
  cases m with
  | row k => exact updR_ne (fun e => hm (by rw [e]))
  | _ => rfl
theorem St.setRow (hE : EnvOk E) (h : St E σ a w ν O) {q : Nat} {row row' : Row} (hq : look σ.rows q = some row) (hsz : row'.t.size = row.t.size) (hg : Grow (fun k => blkOf (ν (.row q)) = some k) w w')
    (hrel : (∀ key v, view E σ ν O w key v → view E { σ with rows := put σ.rows q row' } ν O w' key v) → RowRel (view E { σ with rows := put σ.rows q row' } ν O w') w' (ν (.row q)) row') :
    St E { σ with rows := put σ.rows q row' } a w' ν O := by
  have ho : (σ.obj (.row q)).isSome = true := by simp [AS.obj, hq]
  refine h.fresh hE (m0 := .row q) (o0 := .row row') ro_row hg (fun k hk => ⟨ho, hk⟩) (HSub.of_eq rfl (fun _ _ => rfl)) (fun m hm => ⟨nm_ne_row hm σ _ (fun k hk => by rw [look_put, if_neg (Ne.symm hk)]), fun _ => rfl⟩) (by simp [AS.obj, look_put]) (fun k hk => .inl ⟨ho, hk⟩) (fun r e k hk => (h.new (.row q) k ⟨ho, hk⟩).resolve_right id)
    (fun r row2 hr => ⟨rfl, ?_⟩) (fun b hb => ⟨rfl, hb⟩) rfl rfl h.nn (fun i hr e => (h.ro i hr e).1) hrel
  show ∃ row3, look (put σ.rows q row') r = some row3 ∧ _
  rw [look_put]
  by_cases e : q = r
  · subst e
    rw [hq] at hr
    obtain rfl : row = row2 := by simpa using hr
    exact ⟨row', by rw [if_pos rfl], hsz⟩
  · exact ⟨row2, by rw [if_neg e]; exact hr, rfl⟩
theorem St.newBox (hE : EnvOk E) (h : St E σ a w ν O) {d : Nat} {x : BX} {o : Go.Obj} (hd : look σ.boxes d = none)
    (hrel : (∀ key v, view E σ ν O w key v → view E { σ with boxes := put σ.boxes d x } (updB ν d (.pointer (some ⟨w.heap.size, 0, none⟩))) O (w.alloc o) key v) →
      BoxRel (view E { σ with boxes := put σ.boxes d x } (updB ν d (.pointer (some ⟨w.heap.size, 0, none⟩))) O (w.alloc o)) { σ with boxes := put σ.boxes d x } (updB ν d (.pointer (some ⟨w.heap.size, 0, none⟩))) (w.alloc o) (.pointer (some ⟨w.heap.size, 0, none⟩)) x) :
    St E { σ with boxes := put σ.boxes d x } a (w.alloc o) (updB ν d (.pointer (some ⟨w.heap.size, 0, none⟩))) O := by
  have hne : ∀ k, (look σ.boxes k).isSome = true → k ≠ d := fun k hk e => by rw [e, hd] at hk; cases hk
  have hb : Below w.heap.size w (w.alloc o) := ⟨rfl, rfl, rfl, by simp, fun k hk => heap_alloc_old w _ k hk⟩
  have hv : updB ν d (.pointer (some ⟨w.heap.size, 0, none⟩)) (.box d) = .pointer (some ⟨w.heap.size, 0, none⟩) := by simp only [updB, if_pos]
  refine h.fresh hE (m0 := .box d) (o0 := .box x) (C := fun _ => False) ro_box (Grow.of_below hb) (fun k hk => hk.elim) (HSub.of_eq rfl (fun _ _ => rfl)) (fun m hm => ⟨nm_ne_box hm σ _ (fun k hk => by rw [look_put, if_neg (Ne.symm hk)]), fun hs => ?_⟩) (by simp [AS.obj, look_put]) (fun k hk => .inr ?_) (fun r e => by cases e)
    (fun r row hr => ⟨rfl, row, hr, rfl⟩) (fun b hb => ⟨by simp only [updB, if_neg (hne b hb)], by show (look (put _ _ _) _).isSome = _; rw [look_put, if_neg (Ne.symm (hne b hb))]; exact hb⟩) rfl rfl h.nn (fun i hr e => (h.ro i hr e).1) (fun hV => by rw [hv]; exact hrel hV)
  · cases m with
    | box k => exact if_neg (fun e => hm (by rw [e]))
    | _ => rfl
  · rw [hv] at hk
    simp only [blkOf, Option.some.injEq] at hk
    subst hk
    exact ⟨Nat.le_refl _, by simp⟩
theorem St.setBox (hE : EnvOk E) (h : St E σ a w ν O) {b : Nat} {x : BX} (hq : (look σ.boxes b).isSome = true) (hg : Grow (fun k => blkOf (ν (.box b)) = some k) w w')
    (hrel : (∀ key v, view E σ ν O w key v → view E { σ with boxes := put σ.boxes b x } ν O w' key v) → BoxRel (view E { σ with boxes := put σ.boxes b x } ν O w') { σ with boxes := put σ.boxes b x } ν w' (ν (.box b)) x) :
    St E { σ with boxes := put σ.boxes b x } a w' ν O := by
  have ho : (σ.obj (.box b)).isSome = true := by simpa [AS.obj] using hq
  refine h.fresh hE (m0 := .box b) (o0 := .box x) ro_box hg (fun k hk => ⟨ho, hk⟩) (HSub.of_eq rfl (fun _ _ => rfl)) (fun m hm => ⟨nm_ne_box hm σ _ (fun k hk => by rw [look_put, if_neg (Ne.symm hk)]), fun _ => rfl⟩) (by simp [AS.obj, look_put]) (fun k hk => .inl ⟨ho, hk⟩) (fun r e => by cases e)
    (fun r row hr => ⟨rfl, row, hr, rfl⟩) (fun k hk => ⟨rfl, ?_⟩) rfl rfl h.nn (fun i hr e => (h.ro i hr e).1) hrel
  show (look (put σ.boxes b x) k).isSome = true
  rw [look_put]; split
  · rfl
  · exact hk
theorem St.putHp (hE : EnvOk E) (h : St E σ a w ν O) {i n0 n1 : Nat} {hr : HRow} {xs' : List (Option (List hr.t.den))} {v0 : Value} {C : Nat → Prop}
    (hh : σ.heaps[i]? = some hr) (hw : hr.w = true) (hn : 1 ≤ n0) (hlen : (n0 = xs'.length ∧ xs'.length = hr.xs.length + 1) ∨ (xs'.length = hr.xs.length ∧ v0 = ν (.hp i n0)))
    (hrest : ∀ m : Nat, m + 1 ≠ n0 → m + 1 ≠ n1 → ∀ l, xs'[m]? = some (some l) ↔ hr.xs[m]? = some (some l)) (h1 : n1 = n0 ∨ n1 = 0 ∨ ∀ l, xs'[n1 - 1]? ≠ some (some l))
    (hC : ∀ k, C k → Own σ ν (.hp i n1) k) (hg : Grow C w w') (hblk : ∀ k, blkOf v0 = some k → Own σ ν (.hp i n0) k ∨ Own σ ν (.hp i n1) k ∨ (w.heap.size ≤ k ∧ k < w'.heap.size)) (hv0 : HVal hr.k v0)
    (hrel : (∀ key v, view E σ ν O w key v → view E { σ with heaps := σ.heaps.set i ⟨hr.e, hr.t, hr.k, hr.w, xs'⟩ } (updH ν i n0 v0) O w' key v) → ∀ l, xs'[n0 - 1]? = some (some l) →
      HpRel (view E { σ with heaps := σ.heaps.set i ⟨hr.e, hr.t, hr.k, hr.w, xs'⟩ } (updH ν i n0 v0) O w') w' hr.k v0 ⟨hr.e, hr.t, l⟩) :
    St E { σ with heaps := σ.heaps.set i ⟨hr.e, hr.t, hr.k, hr.w, xs'⟩ } a w' (updH ν i n0 v0) O := by
  have hlt : i < σ.heaps.length := (List.getElem?_eq_some_iff.1 hh).1
  have hset : ∀ j, (σ.heaps.set i ⟨hr.e, hr.t, hr.k, hr.w, xs'⟩)[j]? = if i = j then some ⟨hr.e, hr.t, hr.k, hr.w, xs'⟩ else σ.heaps[j]? := fun j => by
    rw [List.getElem?_set]; split
    · rename_i e; subst e; simp [hlt]
    · rfl
  have hle : hr.xs.length ≤ xs'.length := by rcases hlen with h2 | h2 <;> omega
  have hu0 : updH ν i n0 v0 (.hp i n0) = v0 := by simp only [updH, and_self, if_pos]
  have hune : ∀ j n, ¬ (j = i ∧ n = n0) → updH ν i n0 v0 (.hp j n) = ν (.hp j n) := fun j n hj => by simp only [updH, if_neg hj]
  have hold : ∀ n, 1 ≤ n → n ≤ hr.xs.length → updH ν i n0 v0 (.hp i n) = ν (.hp i n) := fun n h2 h3 => by
    by_cases e : n = n0
    · subst e
      rcases hlen with h4 | h4
      · omega
      · rw [hu0]; exact h4.2
    · exact hune i n (fun h4 => e h4.2)
  have hobjs : ∀ n, hobj (σ.heaps.set i ⟨hr.e, hr.t, hr.k, hr.w, xs'⟩) i (n + 1) = hslot hr.e hr.t hr.k xs'[n]? := fun n => by simp only [hobj, hset, if_pos]
  have hobjs0 : ∀ n, hobj σ.heaps i (n + 1) = hslot hr.e hr.t hr.k hr.xs[n]? := fun n => by simp only [hobj, hh]
  have hsub : HSub σ ν { σ with heaps := σ.heaps.set i ⟨hr.e, hr.t, hr.k, hr.w, xs'⟩ } (updH ν i n0 v0) := by
    refine ⟨by simp, fun j hr2 e => ?_, fun j n h2 h3 => ?_⟩
    · show ∃ hr', (σ.heaps.set i ⟨hr.e, hr.t, hr.k, hr.w, xs'⟩)[j]? = some hr' ∧ _
      rw [hset]
      by_cases ej : i = j
      · subst ej
        rw [hh] at e
        obtain rfl : hr = hr2 := by simpa using e
        exact ⟨_, if_pos rfl, ⟨rfl, rfl, rfl, rfl⟩, hle⟩
      · exact ⟨hr2, by rw [if_neg ej]; exact e, SameH.refl _, Nat.le_refl _⟩
    · by_cases ej : j = i
      · subst ej
        rw [hlen_of hh] at h3
        exact hold n h2 h3
      · exact hune j n (fun h4 => ej h4.1)
  have hnro : ∀ n, ¬ E.RoNm (.hp i n) := fun n ⟨j, _, hr', e, e2⟩ => by
    injection e with e3 e4
    subst e3
    obtain ⟨h5, h6⟩ := h.ro i hr' e2
    rw [hh] at h5
    obtain rfl : hr = hr' := by simpa using h5
    rw [hw] at h6; cases h6
  refine h.fresh2 hE (m0 := .hp i n0) (m1 := .hp i n1) (o0 := (hslot hr.e hr.t hr.k xs'[n0 - 1]?).getD (.box .nil)) ⟨hnro _, hnro _⟩ hg hC hsub (fun m hm0 hm1 => ?_) ?_ ?_ (fun k _ hk => hblk k (by rw [hu0] at hk; exact hk)) (fun _ h => h)
    (fun r row hr' => ⟨rfl, row, hr', rfl⟩) (fun b hb => ⟨rfl, hb⟩) rfl rfl (fun j hr2 n e h2 h3 => ?_) (fun j hr2 e => ?_) (fun hV hs => ?_)
  · cases m with
    | hp j n =>
      by_cases ej : j = i
      · subst ej
        have hn0' : n ≠ n0 := fun e => hm0 (by rw [e])
        have hn1' : n ≠ n1 := fun e => hm1 (by rw [e])
        refine ⟨?_, fun _ => hune j n (fun h4 => hn0' h4.2)⟩
        cases n with
        | zero => rfl
        | succ n =>
          simp only [AS.obj]
          rw [hobjs, hobjs0]
          have hiff := hrest n hn0' hn1'
          cases hx : xs'[n]? with
          | none => cases hy : hr.xs[n]? with
            | none => rfl
            | some o => cases o with
              | none => rfl
              | some l => have := (hiff l).2 hy; rw [hx] at this; cases this
          | some o => cases o with
            | none => cases hy : hr.xs[n]? with
              | none => rfl
              | some o => cases o with
                | none => rfl
                | some l => have := (hiff l).2 hy; rw [hx] at this; cases this
            | some l => have := (hiff l).1 hx; rw [this]
      · refine ⟨?_, fun _ => hune j n (fun h4 => ej h4.1)⟩
        simp only [AS.obj]
        cases n with
        | zero => rfl
        | succ n => simp only [hobj, hset, if_neg (Ne.symm ej)]
    | _ => exact ⟨rfl, fun _ => rfl⟩
  · rcases h1 with h1 | h1 | h1
    · exact .inl (by rw [h1])
    · subst h1; exact .inr rfl
    · by_cases hz : n1 = 0
      · subst hz; exact .inr rfl
      · right
        simp only [AS.obj]
        obtain ⟨q, rfl⟩ : ∃ q, n1 = q + 1 := ⟨n1 - 1, by omega⟩
        rw [hobjs]
        simp only [Nat.add_sub_cancel] at h1
        cases hx : xs'[q]? with
        | none => rfl
        | some o => cases o with
          | none => rfl
          | some l => exact absurd hx (h1 l)
  · obtain ⟨q, rfl⟩ : ∃ q, n0 = q + 1 := ⟨n0 - 1, by omega⟩
    simp only [AS.obj]
    rw [hobjs]
    simp only [Nat.add_sub_cancel]
    cases hx : xs'[q]? with
    | none => exact .inl rfl
    | some o => cases o with
      | none => exact .inl rfl
      | some l => exact .inr rfl
  · have e' : (σ.heaps.set i ⟨hr.e, hr.t, hr.k, hr.w, xs'⟩)[j]? = some hr2 := e
    rw [hset] at e'
    by_cases ej : i = j
    · subst ej
      rw [if_pos rfl] at e'
      obtain rfl := (Option.some.inj e').symm
      by_cases en : n = n0
      · subst en; rw [hu0]; exact hv0
      · rw [hune i n (fun h4 => en h4.2)]
        have h3' : n ≤ xs'.length := h3
        exact h.nn i hr n hh h2 (by rcases hlen with h4 | h4 <;> omega)
    · rw [if_neg ej] at e'
      rw [hune j n (fun h4 => ej h4.1.symm)]
      exact h.nn j hr2 n e' h2 h3
  · show (σ.heaps.set i ⟨hr.e, hr.t, hr.k, hr.w, xs'⟩)[j]? = some hr2
    rw [hset]
    obtain ⟨h2, h3⟩ := h.ro j hr2 e
    by_cases ej : i = j
    · subst ej
      rw [hh] at h2
      obtain rfl : hr = hr2 := by simpa using h2
      rw [hw] at h3; cases h3
    · rw [if_neg ej]; exact h2
  · rw [hu0]
    obtain ⟨q, rfl⟩ : ∃ q, n0 = q + 1 := ⟨n0 - 1, by omega⟩
    have hs' := hs
    simp only [AS.obj] at hs'
    rw [hobjs] at hs'
    simp only [Nat.add_sub_cancel] at hs' ⊢
    cases hx : xs'[q]? with
    | none => rw [hx] at hs'; cases hs'
    | some o => cases o with
      | none => rw [hx] at hs'; cases hs'
      | some l => exact hrel hV l (by simpa using hx)
end
end Go.Abs
