/- YtlpkaimkmfgpiaaYa: a part of the proof (AbsV, AbsE, AbsS, AbsP, AbsQ, AbsQ2, AbsQ3, AbsQ4, AbsQ5, AbsQ6, AbsT, AbsU, AbsO, AbsN, AbsO2, AbsO3, AbsO4, AbsO5). No condition. -/
import Derived.Laws.AppendOwn
import Derived.Laws.MakeOwn
import Derived.Below
import Derived.Orders
import Derived.Laws.StructEq
import Derived.Lib.ConvBytes
import Derived.Laws.BytesString
import Derived.Laws.Small
import Derived.Laws.Tables
import Derived.Laws.AppendOwnNone
set_option linter.unusedVariables false
namespace Go.Abs

/-- The types of the values that the evaluator knows. `st` marks a struct. -/
inductive Ty where
  | int (k : IntKind) | bool | str | slice (t : Ty) | unit | pair (a b : Ty) | st (t : Ty)
  deriving DecidableEq

@[reducible] def Ty.den : Ty → Type
  | .int _ => Int
  | .bool => Bool
  | .str => ByteArray
  | .slice t => List t.den
  | .unit => Unit
  | .pair a b => a.den × b.den
  | .st t => t.den

def Ty.size : Ty → Nat
  | .unit => 0
  | .pair a b => a.size + b.size
  | .st t => t.size
  | _ => 1

def Ty.leaf : Ty → Bool
  | .unit | .pair .. | .st _ => false
  | _ => true

def Ty.zero : (t : Ty) → t.den
  | .int _ => (0 : Int)
  | .bool => false
  | .str => ByteArray.empty
  | .slice t => ([] : List t.den)
  | .unit => ()
  | .pair a b => (a.zero, b.zero)
  | .st t => t.zero

def All2 {α β : Type} (R : α → β → Prop) : List α → List β → Prop
  | [], [] => True
  | x :: xs, y :: ys => R x y ∧ All2 R xs ys
  | _, _ => False

section
variable {α β γ : Type} {R S : α → β → Prop}
theorem All2.length : ∀ {xs : List α} {ys : List β}, All2 R xs ys → xs.length = ys.length
  | [], [], _ => rfl
  | _ :: _, _ :: _, h => by simp [All2.length h.2]
  | [], _ :: _, h => h.elim
  | _ :: _, [], h => h.elim
theorem All2.mono (hRS : ∀ x y, R x y → S x y) : ∀ {xs : List α} {ys : List β}, All2 R xs ys → All2 S xs ys
  | [], [], _ => trivial
  | _ :: _, _ :: _, h => ⟨hRS _ _ h.1, All2.mono hRS h.2⟩
  | [], _ :: _, h => h.elim
  | _ :: _, [], h => h.elim
theorem All2.get : ∀ {xs : List α} {ys : List β}, All2 R xs ys → ∀ (i : Nat) x, xs[i]? = some x → ∃ y, ys[i]? = some y ∧ R x y
  | [], [], _, i, x, h => by simp at h
  | a :: as, b :: bs, h, 0, x, hx => ⟨b, by simp, by simp at hx; subst hx; exact h.1⟩
  | a :: as, b :: bs, h, i + 1, x, hx => by
    obtain ⟨y, hy, hr⟩ := All2.get h.2 i x (by simpa using hx)
    exact ⟨y, by simpa using hy, hr⟩
  | [], _ :: _, h, _, _, _ => h.elim
  | _ :: _, [], h, _, _, _ => h.elim
theorem All2.get' : ∀ {xs : List α} {ys : List β}, All2 R xs ys → ∀ (i : Nat) y, ys[i]? = some y → ∃ x, xs[i]? = some x ∧ R x y
  | [], [], _, i, x, h => by simp at h
  | a :: as, b :: bs, h, 0, y, hy => ⟨a, by simp, by simp at hy; subst hy; exact h.1⟩
  | a :: as, b :: bs, h, i + 1, y, hy => by
    obtain ⟨x, hx, hr⟩ := All2.get' h.2 i y (by simpa using hy)
    exact ⟨x, by simpa using hx, hr⟩
  | [], _ :: _, h, _, _, _ => h.elim
  | _ :: _, [], h, _, _, _ => h.elim
theorem All2.append : ∀ {xs : List α} {ys : List β} {xs' : List α} {ys' : List β}, All2 R xs ys → All2 R xs' ys' → All2 R (xs ++ xs') (ys ++ ys')
  | [], [], _, _, _, h => h
  | _ :: _, _ :: _, _, _, h, h' => ⟨h.1, All2.append h.2 h'⟩
  | [], _ :: _, _, _, h, _ => h.elim
  | _ :: _, [], _, _, h, _ => h.elim
theorem All2.split : ∀ {xs xs' : List α} {zs : List β}, All2 R (xs ++ xs') zs → ∃ ys ys', zs = ys ++ ys' ∧ All2 R xs ys ∧ All2 R xs' ys'
  | [], xs', zs, h => ⟨[], zs, rfl, trivial, h⟩
  | x :: xs, xs', z :: zs, h => by
    obtain ⟨ys, ys', rfl, h1, h2⟩ := All2.split (xs := xs) h.2
    exact ⟨z :: ys, ys', rfl, ⟨h.1, h1⟩, h2⟩
  | x :: xs, xs', [], h => h.elim
theorem All2.set : ∀ {xs : List α} {ys : List β} {i : Nat} {x : α} {y : β}, All2 R xs ys → R x y → All2 R (xs.set i x) (ys.set i y)
  | [], [], i, x, y, _, _ => trivial
  | _ :: _, _ :: _, 0, x, y, h, hr => ⟨hr, h.2⟩
  | _ :: _, _ :: _, i + 1, x, y, h, hr => ⟨h.1, All2.set h.2 hr⟩
  | [], _ :: _, _, _, _, h, _ => h.elim
  | _ :: _, [], _, _, _, h, _ => h.elim
theorem All2.drop : ∀ {xs : List α} {ys : List β} (i : Nat), All2 R xs ys → All2 R (xs.drop i) (ys.drop i)
  | xs, ys, 0, h => h
  | [], [], i + 1, h => trivial
  | _ :: _, _ :: _, i + 1, h => All2.drop i h.2
  | [], _ :: _, _, h => h.elim
  | _ :: _, [], _, h => h.elim
theorem All2.take : ∀ {xs : List α} {ys : List β} (i : Nat), All2 R xs ys → All2 R (xs.take i) (ys.take i)
  | [], [], 0, h => trivial
  | _ :: _, _ :: _, 0, h => trivial
  | [], [], i + 1, h => trivial
  | _ :: _, _ :: _, i + 1, h => ⟨h.1, All2.take i h.2⟩
  | [], _ :: _, _, h => h.elim
  | _ :: _, [], _, h => h.elim
theorem All2.replicate {x : α} {y : β} (h : R x y) : ∀ n, All2 R (List.replicate n x) (List.replicate n y)
  | 0 => trivial
  | n + 1 => ⟨h, All2.replicate h n⟩
theorem All2.map_left {f : γ → α} : ∀ {xs : List γ} {ys : List β}, All2 (fun x y => R (f x) y) xs ys → All2 R (xs.map f) ys
  | [], [], _ => trivial
  | _ :: _, _ :: _, h => ⟨h.1, All2.map_left h.2⟩
  | [], _ :: _, h => h.elim
  | _ :: _, [], h => h.elim
end

/-- What can be read: an address and the cell's value. -/
abbrev View := Addr → Value → Prop

def Rel (V : View) : (t : Ty) → t.den → List Value → Prop
  | .int k, x, cs => cs = [.int k x]
  | .bool, x, cs => cs = [.bool x]
  | .str, x, cs => cs = [.string x]
  | .slice t, xs, cs => ∃ (A : Option Addr) (c : Nat) (yss : List (List Value)), cs = [.slice A (List.length xs) c] ∧ List.length xs ≤ c ∧ All2 (Rel V t) xs yss ∧
      (A = none → c = 0) ∧ ∀ j u, yss.flatten[j]? = some u → ∃ ad, A = some ad ∧ V (ad.add j) u
  | .unit, _, cs => cs = []
  | .pair a b, x, cs => ∃ c1 c2, cs = c1 ++ c2 ∧ Rel V a x.1 c1 ∧ Rel V b x.2 c2
  | .st t, x, cs => Rel V t x cs

theorem Rel.mono {V V' : View} (h : ∀ a v, V a v → V' a v) : ∀ (t : Ty) (x : t.den) (cs : List Value), Rel V t x cs → Rel V' t x cs
  | .int k, x, cs, hr => hr
  | .bool, x, cs, hr => hr
  | .str, x, cs, hr => hr
  | .slice t, xs, cs, ⟨A, c, yss, h1, h2, h3, h5, h4⟩ => ⟨A, c, yss, h1, h2, h3.mono (Rel.mono h t), h5, fun j u hj => let ⟨ad, e, hv⟩ := h4 j u hj; ⟨ad, e, h _ _ hv⟩⟩
  | .unit, _, cs, hr => hr
  | .pair a b, x, cs, ⟨c1, c2, e, h1, h2⟩ => ⟨c1, c2, e, Rel.mono h a _ _ h1, Rel.mono h b _ _ h2⟩
  | .st t, x, cs, hr => Rel.mono h t x cs hr

theorem Rel.length {V : View} : ∀ {t : Ty} {x : t.den} {cs : List Value}, Rel V t x cs → cs.length = t.size
  | .int k, x, cs, hr => by have : cs = _ := hr; subst this; rfl
  | .bool, x, cs, hr => by have : cs = _ := hr; subst this; rfl
  | .str, x, cs, hr => by have : cs = _ := hr; subst this; rfl
  | .slice t, xs, cs, ⟨A, c, yss, h1, _⟩ => by subst h1; rfl
  | .unit, _, cs, hr => by have : cs = _ := hr; subst this; rfl
  | .pair a b, x, cs, ⟨c1, c2, e, h1, h2⟩ => by subst e; simp [Ty.size, Rel.length h1, Rel.length h2]
  | .st t, x, cs, hr => Rel.length (t := t) hr

/-- A value with its type; in what follows the type is a leaf's. -/
abbrev CV := (t : Ty) × t.den

def LRel (V : View) (c : CV) (v : Value) : Prop := Rel V c.1 c.2 [v]

theorem LRel.mono {V V' : View} (h : ∀ a v, V a v → V' a v) (c : CV) (v : Value) (hr : LRel V c v) : LRel V' c v := Rel.mono h _ _ _ hr

def flat : (t : Ty) → t.den → List CV
  | .unit, _ => []
  | .pair a b, x => flat a x.1 ++ flat b x.2
  | .st t, x => flat t x
  | .int k, x => [⟨.int k, x⟩]
  | .bool, x => [⟨.bool, x⟩]
  | .str, x => [⟨.str, x⟩]
  | .slice t, x => [⟨.slice t, x⟩]

theorem rel_flat {V : View} : ∀ {t : Ty} {x : t.den} {cs : List Value}, Rel V t x cs → All2 (LRel V) (flat t x) cs
  | .int k, x, cs, hr => by have : cs = _ := hr; subst this; exact ⟨hr, trivial⟩
  | .bool, x, cs, hr => by have : cs = _ := hr; subst this; exact ⟨hr, trivial⟩
  | .str, x, cs, hr => by have : cs = _ := hr; subst this; exact ⟨hr, trivial⟩
  | .slice t, xs, cs, hr => by have h' := hr; obtain ⟨A, c, yss, h1, _⟩ := h'; subst h1; exact ⟨hr, trivial⟩
  | .unit, _, cs, hr => by have : cs = _ := hr; subst this; trivial
  | .pair a b, x, cs, ⟨c1, c2, e, h1, h2⟩ => by subst e; exact All2.append (rel_flat h1) (rel_flat h2)
  | .st t, x, cs, hr => rel_flat (t := t) hr

theorem rel_of_flat {V : View} : ∀ {t : Ty} {x : t.den} {cs : List Value}, All2 (LRel V) (flat t x) cs → Rel V t x cs
  | .int k, x, [v], h => h.1
  | .bool, x, [v], h => h.1
  | .str, x, [v], h => h.1
  | .slice t, xs, [v], h => h.1
  | .int k, x, [], h => h.elim
  | .bool, x, [], h => h.elim
  | .str, x, [], h => h.elim
  | .slice t, xs, [], h => h.elim
  | .int k, x, _ :: _ :: _, h => h.2.elim
  | .bool, x, _ :: _ :: _, h => h.2.elim
  | .str, x, _ :: _ :: _, h => h.2.elim
  | .slice t, xs, _ :: _ :: _, h => h.2.elim
  | .unit, _, [], h => rfl
  | .unit, _, _ :: _, h => h.elim
  | .pair a b, x, cs, h => by
    obtain ⟨c1, c2, rfl, h1, h2⟩ := All2.split (xs := flat a x.1) h
    exact ⟨c1, c2, rfl, rel_of_flat h1, rel_of_flat h2⟩
  | .st t, x, cs, h => rel_of_flat (t := t) h

def unleaf (t : Ty) : List CV → Option (t.den × List CV)
  | ⟨t', x⟩ :: r => if h : t' = t then some (h ▸ x, r) else none
  | [] => none

def unflat : (t : Ty) → List CV → Option (t.den × List CV)
  | .unit, l => some ((), l)
  | .pair a b, l => match unflat a l with
    | some (x, l') => match unflat b l' with
      | some (y, l'') => some ((x, y), l'')
      | none => none
    | none => none
  | .st t, l => unflat t l
  | .int k, l => unleaf (.int k) l
  | .bool, l => unleaf .bool l
  | .str, l => unleaf .str l
  | .slice t, l => unleaf (.slice t) l

theorem unleaf_eq {t : Ty} {l : List CV} {x : t.den} {r : List CV} (h : unleaf t l = some (x, r)) : l = ⟨t, x⟩ :: r := by
  cases l with
  | nil => simp [unleaf] at h
  | cons c l =>
    obtain ⟨t', y⟩ := c
    simp only [unleaf] at h
    split at h
    · rename_i e
      subst e
      simp only [Option.some.injEq, Prod.mk.injEq] at h
      obtain ⟨rfl, rfl⟩ := h
      rfl
    · simp at h

theorem unflat_eq : ∀ {t : Ty} {l : List CV} {x : t.den} {r : List CV}, unflat t l = some (x, r) → l = flat t x ++ r
  | .unit, l, x, r, h => by simp [unflat] at h; simp [flat, h]
  | .pair a b, l, x, r, h => by
    simp only [unflat] at h
    split at h
    · rename_i y l' h1
      split at h
      · rename_i z l'' h2
        simp only [Option.some.injEq, Prod.mk.injEq] at h
        obtain ⟨rfl, rfl⟩ := h
        rw [unflat_eq h1, unflat_eq h2]
        simp [flat]
      · simp at h
    · simp at h
  | .st t, l, x, r, h => unflat_eq (t := t) h
  | .int k, l, x, r, h => unleaf_eq h
  | .bool, l, x, r, h => unleaf_eq h
  | .str, l, x, r, h => unleaf_eq h
  | .slice t, l, x, r, h => unleaf_eq h

/-- A whole value out of cells. -/
def unflat1 (t : Ty) (l : List CV) : Option t.den :=
  match unflat t l with
  | some (x, []) => some x
  | _ => none

theorem unflat1_eq {t : Ty} {l : List CV} {x : t.den} (h : unflat1 t l = some x) : l = flat t x := by
  unfold unflat1 at h
  split at h
  · rename_i y h1
    simp only [Option.some.injEq] at h
    subst h
    simpa using unflat_eq h1
  · simp at h

theorem flat_length : ∀ {t : Ty} {x : t.den}, (flat t x).length = t.size
  | .unit, _ => rfl
  | .pair a b, x => by simp [flat, Ty.size, flat_length]
  | .st t, x => flat_length (t := t)
  | .int _, _ => rfl
  | .bool, _ => rfl
  | .str, _ => rfl
  | .slice _, _ => rfl

/-- The cells that stand for one value of a type, as one Value. -/
def wrap (t : Ty) (cs : List Value) : Value := match t with
  | .st _ => .agg cs.toArray
  | _ => cs.headD undef

theorem lrel_one {V : View} {c : CV} {v : Value} (h : LRel V c v) : v.oneCell' = true := by
  obtain ⟨t, x⟩ := c
  unfold LRel at h
  induction t with
  | int k => have : [v] = _ := h; simp at this; subst this; rfl
  | bool => have : [v] = _ := h; simp at this; subst this; rfl
  | str => have : [v] = _ := h; simp at this; subst this; rfl
  | slice t ih => obtain ⟨A, c, yss, h1, _⟩ := h; simp at h1; subst h1; rfl
  | unit => have : [v] = _ := h; simp at this
  | pair a b iha ihb =>
    obtain ⟨c1, c2, e, h1, h2⟩ := h
    cases c1 with
    | nil => simp at e; subst e; exact ihb _ h2
    | cons y ys =>
      simp at e
      obtain ⟨rfl, h3⟩ := e
      obtain ⟨rfl, rfl⟩ := h3
      exact iha _ h1
  | st t ih => exact ih x h

theorem lrel_cells {V : View} {c : CV} {v : Value} (h : LRel V c v) : v.cells = #[v] := by
  have := lrel_one h
  cases v <;> first | rfl | (simp [Value.oneCell'] at this)

end Go.Abs
set_option linter.unusedVariables false
namespace Go.Abs

structure Row where
  e : TypeId
  t : Ty
  xs : List t.den

/-- What a call gives: a leaf, a struct's cells, a row that the caller owns. -/
inductive RV where
  | cv (c : CV) | agg (cs : List CV) | own (r : Nat)

inductive AV where
  | rv (x : RV)
  | lit (v : Value)
  | box (b off : Nat)
  | oel (r sz i off : Nat)
  | vel (cs : List CV)
  | tup (l : List RV)
  | nil

/-- The slots: their number, and the full ones with their places, the latest first. -/
structure Slots where
  n : Nat
  l : List (Nat × AV)

structure AS where
  tmps : Slots
  rows : List (Nat × Row)
  boxes : List (Nat × List CV)

/-- One type of the program: its type here, its bytes, the fields' places and sizes. -/
structure TRow where
  id : TypeId
  ty : Ty
  bytes : Nat
  elem : TypeId
  flds : List (Nat × Nat)

structure Sig where
  args : List Ty
  res : List (Ty × Option TypeId)

structure Tab where
  rows : List TRow
  sig : FuncId → Sig
  hint : FuncId → List (List (Nat × Bool))

def findT : List TRow → TypeId → Option TRow
  | [], _ => none
  | r :: rs, t => bif Nat.beq r.id t then some r else findT rs t

@[reducible] def DenL : List Ty → Type
  | [] => Unit
  | [a] => a.den
  | a :: b :: r => a.den × DenL (b :: r)

def look {α : Type} : List (Nat × α) → Nat → Option α
  | [], _ => none
  | (k, v) :: r, j => bif Nat.beq k j then some v else look r j

/-- Sorted by key, so that the order of two puts does not show. -/
def put {α : Type} : List (Nat × α) → Nat → α → List (Nat × α)
  | [], j, v => [(j, v)]
  | (k, u) :: r, j, v => bif Nat.blt j k then (j, v) :: (k, u) :: r else bif Nat.beq k j then (j, v) :: r else (k, u) :: put r j v

def del {α : Type} : List (Nat × α) → Nat → List (Nat × α)
  | [], _ => []
  | (k, u) :: r, j => bif Nat.beq k j then del r j else (k, u) :: del r j

/-- Sorted by key, the greatest first. -/
def putD {α : Type} : List (Nat × α) → Nat → α → List (Nat × α)
  | [], j, v => [(j, v)]
  | (k, u) :: r, j, v => bif Nat.blt k j then (j, v) :: (k, u) :: r else bif Nat.beq k j then (j, v) :: r else (k, u) :: putD r j v

/-- Another value at a key that is there. -/
def setD {α : Type} : List (Nat × α) → Nat → α → List (Nat × α)
  | [], _, _ => []
  | (k, u) :: r, j, v => bif Nat.beq k j then (k, v) :: r else (k, u) :: setD r j v

def nth (s : Slots) (i : Nat) : AV :=
  match look s.l i with
  | some x => x
  | none => .nil

def setN (s : Slots) (i : Nat) (v : AV) : Slots := bif Nat.blt i s.n then ⟨s.n, putD s.l i v⟩ else s

def Slots.map (f : AV → AV) (s : Slots) : Slots := ⟨s.n, s.l.map fun p => (p.1, f p.2)⟩

def enumD {α : Type} : Nat → List α → List (Nat × α) → List (Nat × α)
  | _, [], acc => acc
  | i, x :: r, acc => enumD (i + 1) r ((i, x) :: acc)

/-- Slots that begin with these, and m empty ones behind. -/
def Slots.of (l : List AV) (m : Nat) : Slots := ⟨l.length + m, enumD 0 l []⟩

def ofConst : Value → AV
  | .int k n => .rv (.cv ⟨.int k, n⟩)
  | .bool b => .rv (.cv ⟨.bool, b⟩)
  | .string s => .rv (.cv ⟨.str, s⟩)
  | v => .lit v

def AS.av (σ : AS) : Operand → AV
  | .tmp t => nth σ.tmps t
  | .const v => ofConst v
  | _ => .nil

def AS.putd (σ : AS) (d : Option Tmp) (v : AV) : AS :=
  match d with
  | some d => { σ with tmps := setN σ.tmps d v }
  | none => σ

/-- The element, or nothing. -/
def idx {α : Type} (xs : List α) (i : Int) : Option α :=
  match i with
  | .ofNat n => xs[n]?
  | .negSucc _ => none

def sidx (s : ByteArray) (i : Int) : Option Int :=
  match i with
  | .ofNat n => s[n]?.map fun b => (b.toNat : Int)
  | .negSucc _ => none

def inCut (n : Nat) (l h : Int) : Bool := decide (0 ≤ l) && decide (l ≤ h) && decide (h ≤ n)

def cut {α : Type} (xs : List α) (l h : Int) : List α := (xs.take h.toNat).drop l.toNat

/-- A byte row of a string. -/
def bytesOf (s : ByteArray) : List Int := s.data.toList.map fun b => (b.toNat : Int)
def strOf (xs : List Int) : ByteArray := ⟨(xs.map fun n => UInt8.ofNat n.toNat).toArray⟩

def litFlat : (t : Ty) → List Value → Option (List CV × List Value)
  | .unit, l => some ([], l)
  | .pair a b, l => match litFlat a l with
    | some (x, l') => match litFlat b l' with
      | some (y, l'') => some (x ++ y, l'')
      | none => none
    | none => none
  | .st t, l => litFlat t l
  | .int k, .int k' n :: l => if k = k' then some ([⟨.int k, n⟩], l) else none
  | .bool, .bool b :: l => some ([⟨.bool, b⟩], l)
  | .str, .string s :: l => some ([⟨.str, s⟩], l)
  | .slice t, .slice none 0 0 :: l => some ([⟨.slice t, ([] : List t.den)⟩], l)
  | _, _ => none

/-- The cells of what an operand holds (a row of the call's own is none). -/
def cells (t : Ty) : AV → Option (List CV)
  | .rv (.cv c) => some [c]
  | .rv (.agg cs) => some cs
  | .lit v => match litFlat t v.cells.toList with
    | some (cs, []) => some cs
    | _ => none
  | _ => none

/-- A typed value of what an operand holds. -/
def typed (t : Ty) (a : AV) : Option t.den :=
  match t, a with
  | .st t, .rv (.agg cs) => unflat1 t cs
  | .st t, .lit (.agg vs) => match litFlat t vs.toList with
    | some (cs, []) => unflat1 t cs
    | _ => none
  | .st _, _ => none
  | t, .rv (.cv c) => (unleaf t [c]).map (·.1)
  | t, .lit v => match litFlat t [v] with
    | some ([c], []) => (unleaf t [c]).map (·.1)
    | _ => none
  | _, _ => none

def zeroCV (t : Ty) : List CV := flat t t.zero

/-- Cells put in place of others. -/
def splice (cs : List CV) (off : Nat) (vs : List CV) : List CV := cs.take off ++ vs ++ cs.drop (off + vs.length)

/-- What a load gives: a struct's cells or the one cell. -/
def mkVal (t : Ty) (cs : List CV) : Option AV :=
  match t with
  | .st t => bif Nat.ble t.size cs.length then some (.rv (.agg (cs.take t.size))) else none
  | _ => match cs with
    | c :: _ => some (.rv (.cv c))
    | [] => none

/-! ### Changes of the state that leave the world as it is -/

def RV.thaw (r : Nat) (c : CV) : RV → RV
  | .own r' => bif Nat.beq r' r then .cv c else .own r'
  | x => x

def AV.thaw (r : Nat) (c : CV) : AV → AV
  | .rv x => .rv (x.thaw r c)
  | .oel r' sz i off => bif Nat.beq r' r then .nil else .oel r' sz i off
  | .tup l => .tup (l.map (RV.thaw r c))
  | x => x

/-- A row becomes shared: nobody writes to it any more. -/
def AS.freeze (σ : AS) (r : Nat) : AS :=
  match look σ.rows r with
  | none => σ
  | some row => { σ with tmps := σ.tmps.map (AV.thaw r ⟨.slice row.t, row.xs⟩), rows := del σ.rows r }

def AS.frz (σ : AS) (x : Operand) : AS :=
  match σ.av x with
  | .rv (.own r) => σ.freeze r
  | _ => σ

def AS.frzs (σ : AS) : List Operand → AS
  | [] => σ
  | x :: xs => (σ.frz x).frzs xs

def RV.ren (r d : Nat) : RV → RV
  | .own r' => .own (bif Nat.beq r' r then d else r')
  | x => x

def AV.ren (r d : Nat) : AV → AV
  | .rv x => .rv (x.ren r d)
  | .oel r' sz i off => .oel (bif Nat.beq r' r then d else r') sz i off
  | .tup l => .tup (l.map (RV.ren r d))
  | x => x

/-- The row r is called d from now on (d is free). -/
def AS.rename (σ : AS) (r d : Nat) : AS :=
  match look σ.rows r with
  | none => σ
  | some row => { σ with tmps := σ.tmps.map (AV.ren r d), rows := put (del σ.rows r) d row }

def RV.lose (r : Nat) : RV → Bool
  | .own r' => Nat.beq r' r
  | _ => false

/-- Nobody knows the row r any more. -/
def AV.loseRow (r : Nat) : AV → AV
  | .rv (.own r') => bif Nat.beq r' r then .nil else .rv (.own r')
  | .oel r' sz i off => bif Nat.beq r' r then .nil else .oel r' sz i off
  | .tup l => bif l.any (RV.lose r) then .nil else .tup l
  | x => x

def AV.loseBox (b : Nat) : AV → AV
  | .box b' off => bif Nat.beq b' b then .nil else .box b' off
  | x => x

def AS.loseRow (σ : AS) (r : Nat) : AS := { σ with tmps := σ.tmps.map (AV.loseRow r), rows := del σ.rows r }
def AS.loseBox (σ : AS) (b : Nat) : AS := { σ with tmps := σ.tmps.map (AV.loseBox b), boxes := del σ.boxes b }

/-- Slots that nobody reads any more are emptied; a slot may be asked to be shared. -/
def keepL (l : List (Nat × AV)) (h : List (Nat × Bool)) : List (Nat × AV) := l.filter fun x => h.any fun p => Nat.beq p.1 x.1

def RV.isOwn (r : Nat) : RV → Bool
  | .own r' => Nat.beq r r'
  | _ => false

def AV.knowsRow (r : Nat) : AV → Bool
  | .rv x => x.isOwn r
  | .oel r' _ _ _ => Nat.beq r r'
  | .tup l => l.any (RV.isOwn r)
  | _ => false

def AV.knowsBox (b : Nat) : AV → Bool
  | .box b' _ => Nat.beq b b'
  | _ => false

def AS.share (σ : AS) : List (Nat × Bool) → AS
  | [] => σ
  | (j, true) :: h => (σ.frz (.tmp j)).share h
  | (_, false) :: h => σ.share h

def AS.forget (σ0 : AS) (h : List (Nat × Bool)) : AS :=
  let σ := σ0.share h
  let l := keepL σ.tmps.l h
  { tmps := ⟨σ.tmps.n, l⟩, rows := σ.rows.filter fun p => l.any fun q => q.2.knowsRow p.1, boxes := σ.boxes.filter fun p => l.any fun q => q.2.knowsBox p.1 }

/-! ### Operations -/

/-- What an operation touches besides slots: nothing; tables (row r is 4 r, its length 4 r + 2, box b is 2 b + 1); anything. -/
inductive Cls where
  | S | M (rd wr : List Nat) | X

def cmpInt (op : BinOp) (a b : Int) : Option Bool :=
  match op with
  | .eql => some (a == b)
  | .neq => some (a != b)
  | .lss => some (decide (a < b))
  | .leq => some (decide (a ≤ b))
  | .gtr => some (decide (a > b))
  | .geq => some (decide (a ≥ b))
  | _ => none

def strCmp (op : BinOp) (x y : ByteArray) : Option Bool :=
  match op with
  | .eql => some (x.toList == y.toList)
  | .neq => some (!(x.toList == y.toList))
  | .lss => some (Op.bytesLess x.toList y.toList)
  | .leq => some (Op.bytesLess x.toList y.toList || x.toList == y.toList)
  | .gtr => some (!(Op.bytesLess x.toList y.toList || x.toList == y.toList))
  | .geq => some (!(Op.bytesLess x.toList y.toList))
  | _ => none

section
variable {R : Type}

def cvk (k : Cls → AV → Option R) (c : Cls) (t : Ty) (x : t.den) : Option R := k c (.rv (.cv ⟨t, x⟩))

def binV (op : BinOp) (x y : AV) (k : Cls → AV → Option R) : Option R :=
  match x, y with
  | .rv (.cv ⟨.int i, a⟩), .rv (.cv ⟨.int j, b⟩) =>
    match op with
    | .add => if i = j then cvk k .S (.int i) (i.wrap (a + b)) else none
    | .sub => if i = j then cvk k .S (.int i) (i.wrap (a - b)) else none
    | .mul => if i = j then cvk k .S (.int i) (i.wrap (a * b)) else none
    | .quo => if i = j then bif b == 0 then none else cvk k .S (.int i) (i.wrap (a.tdiv b)) else none
    | .rem => if i = j then bif b == 0 then none else cvk k .S (.int i) (a.tmod b) else none
    | _ => if i = j then match cmpInt op a b with
      | some c => cvk k .S .bool c
      | none => none else none
  | .rv (.cv ⟨.str, a⟩), .rv (.cv ⟨.str, b⟩) =>
    match op with
    | .add => bif Nat.ble (a.size + b.size) 9223372036854775807 then cvk k .S .str (a ++ b) else none
    | _ => match strCmp op a b with
      | some c => cvk k .S .bool c
      | none => none
  | _, _ => none

def binB (op : BinOp) (x y : AV) (k : Cls → AV → Option R) : Option R :=
  match x, y with
  | .rv (.cv ⟨.bool, a⟩), .rv (.cv ⟨.bool, b⟩) =>
    match op with
    | .eql => cvk k .S .bool (a == b)
    | .neq => cvk k .S .bool (!(a == b))
    | _ => none
  | _, _ => none

def lenV (σ : AS) (ty : Ty) (x : AV) (k : Cls → AV → Option R) : Option R :=
  match ty, x with
  | .slice _, .rv (.cv ⟨.slice t, xs⟩) => cvk k .S (.int .i64) (List.length xs : Int)
  | .str, .rv (.cv ⟨.str, s⟩) => cvk k .S (.int .i64) (s.size : Int)
  | .slice _, .rv (.own r) => match look σ.rows r with
    | some row => cvk k (.M [4 * r + 2] []) (.int .i64) (List.length row.xs : Int)
    | none => none
  | .slice _, .lit (.slice none 0 0) => cvk k .S (.int .i64) (0 : Int)
  | _, _ => none

def optInt (σ : AS) (d : Int) : Option Operand → Option Int
  | none => some d
  | some x => match σ.av x with
    | .rv (.cv ⟨.int _, n⟩) => some n
    | _ => none

def getArgs : (ts : List Ty) → List AV → Option (DenL ts)
  | [], [] => some ()
  | [t], [a] => typed t a
  | t :: u :: ts, a :: as => match typed t a with
    | some x => match getArgs (u :: ts) as with
      | some y => some (x, y)
      | none => none
    | none => none
  | _, _ => none

/-- The values of a call's results; a row that the caller owns gets the name d and its place. -/
def toRVs (d : Nat) : (ts : List (Ty × Option TypeId)) → DenL (ts.map (·.1)) → List RV
  | [], _ => []
  | [(t, some e)], x => [.own d]
  | [(.st t, none)], x => [.agg (flat t x)]
  | [(t, none)], x => [.cv ⟨t, x⟩]
  | (t, some e) :: u :: ts, x => .own d :: toRVs (d + 1) (u :: ts) x.2
  | (.st t, none) :: u :: ts, x => .agg (flat t x.1) :: toRVs (d + 1) (u :: ts) x.2
  | (t, none) :: u :: ts, x => .cv ⟨t, x.1⟩ :: toRVs (d + 1) (u :: ts) x.2

def ownRow (t : Ty) (e : TypeId) (x : t.den) : Option Row :=
  match t, x with
  | .slice t', xs => some ⟨e, t', xs⟩
  | _, _ => none

def newRows (d : Nat) : (ts : List (Ty × Option TypeId)) → DenL (ts.map (·.1)) → List (Nat × Row) → Option (List (Nat × Row))
  | [], _, l => some l
  | [(t, some e)], x, l => match ownRow t e x with
    | some row => match look l d with
      | none => some (put l d row)
      | some _ => none
    | none => none
  | [(t, none)], x, l => some l
  | (t, some e) :: u :: ts, x, l => match ownRow t e x.1 with
    | some row => match look l d with
      | none => newRows (d + 1) (u :: ts) x.2 (put l d row)
      | some _ => none
    | none => none
  | (t, none) :: u :: ts, x, l => newRows (d + 1) (u :: ts) x.2 l

def anyOwn (l : List (Ty × Option TypeId)) : Bool := l.any fun p => p.2.isSome

def partsOf (σ : AS) (T : List TRow) (flds : List (Nat × Nat)) : List (Nat × Operand) → List CV → Option (List CV)
  | [], cs => some cs
  | (i, x) :: r, cs => match flds[i]? with
    | some (off, size) => match σ.av x with
      | .rv (.cv c) => bif Nat.beq size 1 && Nat.blt off cs.length then partsOf σ T flds r (splice cs off [c]) else none
      | .rv (.agg vs) => bif Nat.beq size vs.length && Nat.ble (off + vs.length) cs.length then partsOf σ T flds r (splice cs off vs) else none
      | _ => none
    | none => none

def elems (σ : AS) (t : Ty) : List (Nat × Operand) → List t.den → Option (List t.den)
  | [], xs => some xs
  | (i, x) :: r, xs => match typed t (σ.av x) with
    | some v => bif Nat.blt i xs.length then elems σ t r (xs.set i v) else none
    | none => none

/-- Operations that change no table. -/
def pureOp (T : List TRow) (σ : AS) (o : Oper) (k : Cls → AV → Option R) : Option R :=
  match o.op with
  | .move x | .assign x => match σ.av x with
    | .lit v => match findT T o.type with
      | some r => match r.ty with
        | .st t => match v with
          | .agg vs => match litFlat t vs.toList with
            | some (cs, []) => k .S (.rv (.agg cs))
            | _ => none
          | _ => none
        | _ => k .S (.lit v)
      | none => none
    | .nil => none
    | a => k .S a
  | .pick c a b => match σ.av c with
    | .rv (.cv ⟨.bool, t⟩) => bif t then k .S (σ.av a) else k .S (σ.av b)
    | _ => none
  | .load t x => match findT T t with
    | none => none
    | some r => match σ.av x with
      | .box b off => match look σ.boxes b with
        | some cs => match mkVal r.ty (cs.drop off) with
          | some v => k (.M [2 * b + 1] []) v
          | none => none
        | none => none
      | .oel q sz i off => match look σ.rows q with
        | some row => (row.xs[i]?).bind fun x => match mkVal r.ty ((flat row.t x).drop off) with
          | some v => k (.M [4 * q] []) v
          | none => none
        | none => none
      | .vel cs => match mkVal r.ty cs with
        | some v => k .S v
        | none => none
      | _ => none
  | .binOp op xt x y _ => match findT T xt with
    | some r => match r.ty with
      | .bool => binB op (σ.av x) (σ.av y) k
      | .int _ | .str => binV op (σ.av x) (σ.av y) k
      | _ => none
    | none => none
  | .unOp op _ x => match op, σ.av x with
    | .not, .rv (.cv ⟨.bool, b⟩) => cvk k .S .bool (!b)
    | .neg, .rv (.cv ⟨.int i, a⟩) => cvk k .S (.int i) (i.wrap (0 - a))
    | _, _ => none
  | .convert s d x => match findT T s, findT T d with
    | some rs, some rd => match rs.ty, rd.ty, σ.av x with
      | .int _, .int j, .rv (.cv ⟨.int _, a⟩) => cvk k .S (.int j) (j.wrap a)
      | .str, .str, .rv (.cv ⟨.str, s⟩) => cvk k .S .str s
      | .slice (.int .u8), .str, .rv (.cv ⟨.slice (.int .u8), xs⟩) => cvk k .S .str (strOf xs)
      | .slice (.int .u8), .str, .rv (.own r) => match look σ.rows r with
        | some ⟨_, .int .u8, xs⟩ => cvk k (.M [4 * r] []) .str (strOf xs)
        | _ => none
      | .str, .slice (.int .u8), .rv (.cv ⟨.str, s⟩) => bif Nat.ble s.size 140737488355328 then cvk k .S (.slice (.int .u8)) (bytesOf s) else none
      | _, _, _ => none
    | _, _ => none
  | .fieldAddr s x f => match findT T s with
    | some r => match r.flds[f]? with
      | some (off, size) => match σ.av x with
        | .box b o => k .S (.box b (o + off))
        | .oel q sz i o => k .S (.oel q sz i (o + off))
        | .vel cs => k .S (.vel (cs.drop off))
        | _ => none
      | none => none
    | none => none
  | .indexAddr t x i => match findT T t with
    | some r => match r.ty with
      | .slice u => match σ.av i with
        | .rv (.cv ⟨.int _, n⟩) => match σ.av x with
          | .rv (.cv ⟨.slice u', xs⟩) => bif Nat.beq u.size u'.size then (idx xs n).bind fun y => k .S (.vel (flat u' y)) else none
          | .rv (.own q) => match look σ.rows q with
            | some row => bif Nat.beq u.size row.t.size then (idx row.xs n).bind fun _ => k (.M [4 * q] []) (.oel q row.t.size n.toNat 0) else none
            | none => none
          | _ => none
        | _ => none
      | _ => none
    | none => none
  | .index t x i => match findT T t with
    | some r => match r.ty, σ.av i, σ.av x with
      | .str, .rv (.cv ⟨.int _, n⟩), .rv (.cv ⟨.str, s⟩) => (sidx s n).bind fun b => cvk k .S (.int .u8) b
      | _, _, _ => none
    | none => none
  | .extract x i => match σ.av x with
    | .tup l => match l[i]? with
      | some v => k .S (.rv v)
      | none => none
    | _ => none
  | .slice t x lo hi none => match findT T t with
    | some r => match r.ty, σ.av x with
      | .str, .rv (.cv ⟨.str, s⟩) => match optInt σ 0 lo, optInt σ s.size hi with
        | some l, some h => bif inCut s.size l h then cvk k .S .str (s.extract l.toNat h.toNat) else none
        | _, _ => none
      | .slice u, .rv (.cv ⟨.slice u', xs⟩) => match optInt σ 0 lo, optInt σ (List.length xs) hi with
        | some l, some h => bif Nat.beq u.size u'.size && inCut (List.length xs) l h then cvk k .S (.slice u') (cut xs l h) else none
        | _, _ => none
      | _, _ => none
    | none => none
  | .slice t x lo hi (some mx) => match findT T t with
    | some r => match r.ty, σ.av x with
      | .slice u, .rv (.cv ⟨.slice u', xs⟩) => match hi with
        | some hx => match optInt σ 0 lo, optInt σ 0 (some hx), optInt σ 0 (some mx) with
          | some l, some h, some m => bif Nat.beq u.size u'.size && inCut (List.length xs) l h && decide (h ≤ m) && decide (m ≤ List.length xs) then cvk k .S (.slice u') (cut xs l h) else none
          | _, _, _ => none
        | none => none
      | _, _ => none
    | none => none
  | .build t parts => match findT T t with
    | some r => match r.ty with
      | .st u => match partsOf σ T r.flds parts.toList (zeroCV u) with
        | some cs => k .S (.rv (.agg cs))
        | none => none
      | _ => none
    | none => none
  | .call { callee := .builtin .len, args, argTypes } => match args.toList, argTypes.toList with
    | [x], [t] => match findT T t with
      | some r => lenV σ r.ty (σ.av x) k
      | none => none
    | _, _ => none
  | .call { callee := .builtin .max, args, .. } => match args.toList with
    | [x, y] => match σ.av x, σ.av y with
      | .rv (.cv ⟨.int i, a⟩), .rv (.cv ⟨.int _, b⟩) => cvk k .S (.int i) (bif decide (b > a) then b else a)
      | _, _ => none
    | _ => none
  | .call { callee := .builtin .min, args, .. } => match args.toList with
    | [x, y] => match σ.av x, σ.av y with
      | .rv (.cv ⟨.int i, a⟩), .rv (.cv ⟨.int _, b⟩) => cvk k .S (.int i) (bif decide (b < a) then b else a)
      | _, _ => none
    | _ => none
  | _ => none

def okMake (bytes : Nat) (l c : Int) : Bool := decide (0 ≤ l) && decide (l ≤ c) && decide ((bytes : Int) * c ≤ 140737488355328)
def okApp (bytes size n m : Nat) : Bool := Nat.blt 0 size && Nat.ble ((n + m) * bytes) 140737488355328

def fnOf (c : Call) : Option FuncId := match c.callee with
  | .value (.func f) => some f
  | _ => none

def isOwn : AV → Bool
  | .rv (.own _) => true
  | _ => false

def resAV : List RV → AV
  | [x] => .rv x
  | l => .tup l

def keysOf (d : Nat) : List (Ty × Option TypeId) → List Nat
  | [] => []
  | (_, some _) :: r => d :: keysOf (d + 1) r
  | (_, none) :: r => keysOf (d + 1) r

/-- The keys of rows that are made anew: the row's and its length's. -/
def wrKeys (l : List Nat) : List Nat := l.map (4 * ·) ++ l.map (4 * · + 2)

def rkey (d : Option Tmp) : Nat := 1000 + 16 * d.getD 0

def elemRow (T : List TRow) (t : TypeId) : Option (Ty × TypeId × Nat) :=
  match findT T t with
  | some r => match r.ty with
    | .slice u => match findT T r.elem with
      | some re => bif Nat.blt 0 re.bytes then some (u, r.elem, re.bytes) else none
      | none => none
    | _ => none
  | none => none

def addRow (σ : AS) (d : Option Tmp) (row : Row) (c : Cls) (k : Cls → AS → Option R) : Option R :=
  match d with
  | some d => match look σ.rows d with
    | none => k c { tmps := setN σ.tmps d (.rv (.own d)), rows := put σ.rows d row, boxes := σ.boxes }
    | some _ => none
  | none => none

def addBox (σ : AS) (d : Option Tmp) (cs : List CV) (c : Cls) (k : Cls → AS → Option R) : Option R :=
  match d with
  | some d => match look σ.boxes d with
    | none => k c { tmps := setN σ.tmps d (.box d 0), rows := σ.rows, boxes := put σ.boxes d cs }
    | some _ => none
  | none => none

/-- What is appended, as a list of the row's type. -/
def appended (t : Ty) (r : Nat) (σ : AS) : AV → Option (List t.den)
  | .rv (.cv c) => (unleaf (.slice t) [c]).map (·.1)
  | .rv (.own q) => match look σ.rows q with
    | some row => bif Nat.beq q r then none else (unleaf (.slice t) [⟨.slice row.t, row.xs⟩]).map (·.1)
    | none => none
  | .lit (.slice none 0 0) => some []
  | _ => none

def doOp (T : Tab) (Φ : (f : FuncId) → DenL (T.sig f).args → Option (DenL ((T.sig f).res.map (·.1)))) (σ : AS) (o : Oper) (k : Cls → AS → Option R) : Option R :=
  let pure' : AS → (Cls → Cls) → Option R := fun σ c => pureOp T.rows σ o fun c' v => k (c c') (σ.putd o.dst v)
  match o.op with
  | .assign x => match σ.av x, o.dst with
    | .rv (.own r), some d => bif Nat.beq r d then k .X (σ.putd o.dst (.rv (.own d))) else k .X (((σ.freeze d).rename r d).putd o.dst (.rv (.own d)))
    | .lit (.slice none 0 0), some d => match elemRow T.rows o.type with
      | some (u, e, _) => addRow (σ.freeze d) (some d) ⟨e, u, []⟩ .X k
      | none => none
    | _, _ => pure' σ id
  | .store t x v => match findT T.rows t with
    | some r => match cells r.ty ((σ.frz v).av v) with
      | some vs => bif Nat.beq vs.length r.ty.size then
        match (σ.frz v).av x with
        | .box b off => match look (σ.frz v).boxes b with
          | some cs => bif Nat.ble (off + vs.length) cs.length then
              k (bif isOwn (σ.av v) then .X else .M [] [2 * b + 1]) ({ (σ.frz v) with boxes := put (σ.frz v).boxes b (splice cs off vs) }.putd o.dst .nil)
            else none
          | none => none
        | .oel q sz i off => match look (σ.frz v).rows q with
          | some row => (row.xs[i]?).bind fun y => match unflat1 row.t (splice (flat row.t y) off vs) with
            | some y' => bif Nat.ble (off + vs.length) row.t.size then
                k (bif isOwn (σ.av v) then .X else .M [] [4 * q]) ({ (σ.frz v) with rows := put (σ.frz v).rows q ⟨row.e, row.t, row.xs.set i y'⟩ }.putd o.dst .nil)
              else none
            | none => none
          | none => none
        | _ => none
        else none
      | none => none
    | none => none
  | .alloc t => match findT T.rows t with
    | some r => addBox σ o.dst (zeroCV r.ty) (.M [] [2 * o.dst.getD 0 + 1]) k
    | none => none
  | .box t v => match findT T.rows t with
    | some r => match cells r.ty ((σ.frz v).av v) with
      | some vs => bif Nat.beq vs.length r.ty.size then addBox (σ.frz v) o.dst vs (bif isOwn (σ.av v) then .X else .M [] [2 * o.dst.getD 0 + 1]) k else none
      | none => none
    | none => none
  | .build _ parts => let xs := parts.toList.map (·.2)
    pure' (σ.frzs xs) fun c => bif xs.any (fun x => isOwn (σ.av x)) then .X else c
  | .buildSlice t len parts => match elemRow T.rows t with
    | some (u, e, _) => let xs := parts.toList.map (·.2)
      match elems (σ.frzs xs) u parts.toList (List.replicate len u.zero) with
      | some ys => bif Nat.ble (len * u.size) 16777216 && Nat.ble len 16777216 then addRow (σ.frzs xs) o.dst ⟨e, u, ys⟩ (bif xs.any (fun x => isOwn (σ.av x)) then .X else .M [] [4 * o.dst.getD 0, 4 * o.dst.getD 0 + 2]) k else none
      | none => none
    | none => none
  | .makeSlice t l c => match elemRow T.rows t with
    | some (u, e, bytes) => match σ.av l, σ.av c with
      | .rv (.cv ⟨.int _, l⟩), .rv (.cv ⟨.int _, c⟩) =>
        bif okMake bytes l c then addRow σ o.dst ⟨e, u, List.replicate l.toNat u.zero⟩ (.M [] [4 * o.dst.getD 0, 4 * o.dst.getD 0 + 2]) k else none
      | _, _ => none
    | none => none
  | .call { callee := .builtin .append, args, argTypes } => match args.toList, argTypes.toList with
    | [s, x], [t, tx] => bif Nat.beq t tx then match elemRow T.rows t with
      | some (u, e, bytes) => match σ.av s with
        | .rv (.own r) => match look σ.rows r with
          | some row => match appended row.t r σ (σ.av x) with
            | some ys => bif Nat.beq row.e e && Nat.beq row.t.size u.size && okApp bytes u.size row.xs.length ys.length then
                addRow (σ.loseRow r) o.dst ⟨e, row.t, row.xs ++ ys⟩ .X k else none
            | none => none
          | none => none
        | .lit (.slice none 0 0) => match appended u 0 σ (σ.av x) with
          | some ys => bif okApp bytes u.size 0 ys.length then addRow σ o.dst ⟨e, u, ys⟩ .X k else none
          | none => none
        | _ => none
      | none => none
      else none
    | _, _ => none
  | .slice t x lo hi mx => match σ.av x with
    | .rv (.own q) => match lo, hi, mx, look σ.rows q with
      | none, some h, none, some row => match elemRow T.rows t, σ.av h with
        | some (u, e, _), .rv (.cv ⟨.int _, h⟩) =>
          bif Nat.beq u.size row.t.size && inCut row.xs.length 0 h then addRow (σ.loseRow q) o.dst ⟨row.e, row.t, row.xs.take h.toNat⟩ .X k else none
        | _, _ => none
      | _, _, _, _ => pure' (σ.freeze q) fun _ => .X
    | _ => pure' σ id
  | .call c => match fnOf c with
    | some f => match getArgs (T.sig f).args (c.args.toList.map (σ.frzs c.args.toList).av) with
      | some x => (Φ f x).bind fun y =>
        match newRows (rkey o.dst) (T.sig f).res y (σ.frzs c.args.toList).rows with
        | some rows => k (bif c.args.toList.any (fun x => isOwn (σ.av x)) then .X else .M [] (wrKeys (keysOf (rkey o.dst) (T.sig f).res)))
            ({ (σ.frzs c.args.toList) with rows := rows }.putd o.dst (resAV (toRVs (rkey o.dst) (T.sig f).res y)))
        | none => none
      | none => none
    | none => pure' σ id
  | _ => pure' σ id

def AS.setb (σ : AS) (t : Nat) (b : Bool) : AS := { σ with tmps := ⟨σ.tmps.n, setD σ.tmps.l t (.rv (.cv ⟨.bool, b⟩))⟩ }

def evOp (T : Tab) (Φ : (f : FuncId) → DenL (T.sig f).args → Option (DenL ((T.sig f).res.map (·.1)))) (ops : Array Oper) (σ : AS) (o : Oper) (k : Cls → AS → Option R) : Option R :=
  match o.guard with
  | none => doOp T Φ σ o k
  | some (j, want) => match (ops[j]?).bind (·.dst) with
    | some t => match nth σ.tmps t with
      | .rv (.cv ⟨.bool, b⟩) =>
        bif b then (bif want then doOp T Φ (σ.setb t true) o k else k .S ((σ.setb t true).putd o.dst (.lit undef)))
        else (bif want then k .S ((σ.setb t false).putd o.dst (.lit undef)) else doOp T Φ (σ.setb t false) o k)
      | .lit (.tuple _) => k .S (σ.putd o.dst (.lit undef))
      | _ => none
    | none => none

def evOps (T : Tab) (Φ : (f : FuncId) → DenL (T.sig f).args → Option (DenL ((T.sig f).res.map (·.1)))) (ops : Array Oper) : List Oper → AS → List Cls → (List Cls → AS → Option R) → Option R
  | [], σ, cs, k => k cs σ
  | o :: r, σ, cs, k => evOp T Φ ops σ o fun c σ' => evOps T Φ ops r σ' (c :: cs) k

/-- The keys that a region's operations take anew are free. -/
def AS.prep (T : Tab) (σ : AS) : List Oper → AS
  | [] => σ
  | o :: r => AS.prep T (match o.op with
    | .alloc _ | .box .. => σ.loseBox (o.dst.getD 0)
    | .buildSlice .. | .makeSlice .. | .slice .. | .call { callee := .builtin .append, .. } => σ.loseRow (o.dst.getD 0)
    | .call c => match fnOf c with
      | some f => (keysOf (rkey o.dst) (T.sig f).res).foldl (fun σ d => σ.loseRow d) σ
      | none => σ
    | _ => σ) r

def meets (a b : List Nat) : Bool := a.any fun x => b.any fun y => Nat.beq x y

def noConf : Cls → Cls → Bool
  | .S, .X => false
  | .X, _ => false
  | .M .., .X => false
  | .S, _ => true
  | .M .., .S => true
  | .M r w, .M r' w' => !(meets w r' || meets w w' || meets r w')

/-- The operations that stand before one, as bits. -/
def ancOf (acc : List Nat) (o : Oper) : Nat :=
  o.after.toList.foldr (fun e s => bif Region.binds .any e then (s ||| 2 ^ e.on) ||| (acc[e.on]?).getD 0 else s) 0

def ancs : List Oper → List Nat → List Nat
  | [], acc => acc
  | o :: r, acc => ancs r (acc ++ [ancOf acc o])

def okPair (ops : Array Oper) (i : Nat) (a : Oper × Cls) (m : Nat) (b : Oper × Cls) : Bool :=
  m.testBit i || (a.1.apart ops b.1 && noConf a.2 b.2)

def okRest (ops : Array Oper) (i : Nat) (a : Oper × Cls) : List (Oper × Cls) → List Nat → Bool
  | [], _ => true
  | b :: r, m :: ms => okPair ops i a m b && okRest ops i a r ms
  | _ :: _, [] => false

/-- Every two operations of a region are in order or do not touch each other's things. -/
def okDraw (ops : Array Oper) : Nat → List (Oper × Cls) → List Nat → Bool
  | _, [], _ => true
  | i, a :: r, _ :: ms => okRest ops i a r ms && okDraw ops (i + 1) r ms
  | _, _ :: _, [] => false

/-- Every operation waits for earlier ones only. -/
def okDeps : Nat → List Oper → Bool
  | _, [] => true
  | i, o :: r => o.after.toList.all (fun e => !(Region.binds .any e) || Nat.blt e.on i) && okDeps (i + 1) r

def evRegion (T : Tab) (Φ : (f : FuncId) → DenL (T.sig f).args → Option (DenL ((T.sig f).res.map (·.1)))) (ops : Array Oper) (draw : Bool) (σ : AS) (k : AS → Option R) : Option R :=
  evOps T Φ ops ops.toList (σ.prep T ops.toList) [] fun cs σ' =>
    bif draw then (bif okDeps 0 ops.toList && okDraw ops 0 (ops.toList.zip cs.reverse) (ancs ops.toList []) then k σ' else none) else k σ'

inductive Ex where
  | normal | exit (id : Nat) | ret

def loops : Code → Nat
  | .seq a b => loops a + loops b
  | .cond _ a b => loops a + loops b
  | .block _ c => loops c
  | .loop c => loops c + 1
  | _ => 0

/-- n rounds at most. -/
def loopN (h : List (Nat × Bool)) (body : AS → (Ex → AS → Option R) → Option R) (k : Ex → AS → Option R) : Nat → AS → Option R
  | 0, _ => none
  | n + 1, σ => body σ fun e σ' => match e with
    | .normal => loopN h body k n (σ'.forget h)
    | .exit i => k (.exit i) σ'
    | .ret => k .ret σ'

def evCode (T : Tab) (Φ : (f : FuncId) → DenL (T.sig f).args → Option (DenL ((T.sig f).res.map (·.1)))) (n : Nat) : Code → List (List (Nat × Bool)) → AS → (Ex → AS → Option R) → Option R
  | .skip, _, σ, k => k .normal σ
  | .region _ ops draw, _, σ, k => evRegion T Φ ops draw σ (k .normal)
  | .seq a b, hs, σ, k => evCode T Φ n a hs σ fun e σ' => match e with
    | .normal => evCode T Φ n b (hs.drop (loops a)) σ' k
    | .exit i => k (.exit i) σ'
    | .ret => k .ret σ'
  | .cond c a b, hs, σ, k => match c with
    | .tmp t => match nth σ.tmps t with
      | .rv (.cv ⟨.bool, x⟩) => bif x then evCode T Φ n a hs (σ.setb t true) k else evCode T Φ n b (hs.drop (loops a)) (σ.setb t false) k
      | _ => none
    | .const (.bool x) => bif x then evCode T Φ n a hs σ k else evCode T Φ n b (hs.drop (loops a)) σ k
    | _ => none
  | .block id c, hs, σ, k => evCode T Φ n c hs σ fun e σ' => match e with
    | .normal => k .normal σ'
    | .exit i => bif Nat.beq i id then k .normal σ' else k (.exit i) σ'
    | .ret => k .ret σ'
  | .loop c, hs, σ, k => match hs with
    | h :: hs' => loopN h (fun σ k' => evCode T Φ n c hs' σ k') k n (σ.forget h)
    | [] => none
  | .exit i, _, σ, k => k (.exit i) σ
  | .ret, _, σ, k => k .ret σ
  | _, _, _, _ => none
end

def argAV : (t : Ty) → t.den → AV
  | .st t, x => .rv (.agg (flat t x))
  | t, x => .rv (.cv ⟨t, x⟩)

def argAVs : (ts : List Ty) → DenL ts → List AV
  | [], _ => []
  | [t], x => [argAV t x]
  | t :: u :: ts, x => argAV t x.1 :: argAVs (u :: ts) x.2

/-- What a result variable holds. -/
def resVar (T : List TRow) (σ : AS) : ResultVar → Option AV
  | .tmp t => some (nth σ.tmps t)
  | .cell a t => match nth σ.tmps a, findT T t with
    | .box b off, some r => match look σ.boxes b with
      | some cs => mkVal r.ty (cs.drop off)
      | none => none
    | _, _ => none

def resOne (σ : AS) (p : Ty × Option TypeId) (a : AV) : Option p.1.den :=
  match p.2, a with
  | none, .rv (.own r) => match look σ.rows r with
    | some row => (unleaf p.1 [⟨.slice row.t, row.xs⟩]).map (·.1)
    | none => none
  | none, a => typed p.1 a
  | some e, .rv (.own r) => match look σ.rows r with
    | some row => bif Nat.beq row.e e then (unleaf p.1 [⟨.slice row.t, row.xs⟩]).map (·.1) else none
    | none => none
  | some _, _ => none

def getRes (T : List TRow) (σ : AS) : List ResultVar → (ts : List (Ty × Option TypeId)) → Option (DenL (ts.map (·.1)))
  | [], [] => some ()
  | [v], [p] => (resVar T σ v).bind (resOne σ p)
  | v :: vs, p :: q :: ps => match (resVar T σ v).bind (resOne σ p), getRes T σ vs (q :: ps) with
    | some x, some y => some (x, y)
    | _, _ => none
  | _, _ => none

/-- The rows that are given away, each once. -/
def ownKeys (T : List TRow) (σ : AS) : List ResultVar → List Nat
  | [] => []
  | v :: vs => match resVar T σ v with
    | some (.rv (.own r)) => r :: ownKeys T σ vs
    | _ => ownKeys T σ vs

def noDup : List Nat → Bool
  | [] => true
  | x :: r => !(r.any (Nat.beq x)) && noDup r

def evBody (T : Tab) (fn : Func) (c : Code) (Φ : (f : FuncId) → DenL (T.sig f).args → Option (DenL ((T.sig f).res.map (·.1)))) (n : Nat) (f : FuncId) (x : DenL (T.sig f).args) :
    Option (DenL ((T.sig f).res.map (·.1))) :=
  evCode T Φ n c (T.hint f) ⟨Slots.of (argAVs (T.sig f).args x) (fn.ntmps - (T.sig f).args.length), [], []⟩ fun e σ => match e with
    | .exit _ => none
    | _ => bif noDup (ownKeys T.rows σ fn.results.toList) || !(anyOwn (T.sig f).res) then getRes T.rows σ fn.results.toList (T.sig f).res else none

def evFn (T : Tab) (fns : FuncId → Option Func) : Nat → (f : FuncId) → DenL (T.sig f).args → Option (DenL ((T.sig f).res.map (·.1)))
  | 0, _, _ => none
  | n + 1, f, x => match fns f with
    | some fn => match fn.body with
      | some c => evBody T fn c (evFn T fns n) n f x
      | none => none
    | none => none

end Go.Abs
set_option linter.unusedVariables false
set_option linter.unusedSimpArgs false
namespace Go.Abs
open Go.RowKit

/-! ## Tables -/
section
variable {α : Type}
theorem beq_iff (a b : Nat) : Nat.beq a b = true ↔ a = b := ⟨fun h => Nat.eq_of_beq_eq_true h, fun h => by subst h; exact Nat.beq_refl a⟩
theorem beq_ff {a b : Nat} : Nat.beq a b = false ↔ a ≠ b := by
  constructor
  · intro h e; rw [(beq_iff a b).2 e] at h; cases h
  · intro h; cases hb : Nat.beq a b
    · rfl
    · exact absurd ((beq_iff a b).1 hb) h
theorem beq_refl (a : Nat) : Nat.beq a a = true := (beq_iff a a).2 rfl
theorem beq_ne {a b : Nat} (h : a ≠ b) : Nat.beq a b = false := beq_ff.2 h

theorem look_put (l : List (Nat × α)) (j : Nat) (v : α) (i : Nat) : look (put l j v) i = if j = i then some v else look l i := by
  induction l with
  | nil => by_cases h : j = i <;> simp [put, look, h, beq_refl, beq_ne]
  | cons p r ih =>
    obtain ⟨k, u⟩ := p
    simp only [put]
    cases hlt : Nat.blt j k with
    | true =>
      simp only [cond_true, look]
      by_cases h : j = i <;> simp [h, beq_refl, beq_ne]
    | false =>
      simp only [cond_false]
      cases hb : Nat.beq k j with
      | true =>
        have := (beq_iff _ _).1 hb; subst this
        simp only [cond_true, look]
        by_cases h : k = i <;> simp [h, beq_refl, beq_ne]
      | false =>
        have hne := beq_ff.1 hb
        simp only [cond_false, look, ih]
        by_cases h : k = i
        · subst h; simp [beq_refl]; intro e; exact absurd e.symm hne
        · simp [beq_ne h]

theorem look_del (l : List (Nat × α)) (j i : Nat) : look (del l j) i = if j = i then none else look l i := by
  induction l with
  | nil => simp [del, look]
  | cons p r ih =>
    obtain ⟨k, u⟩ := p
    simp only [del]
    cases hb : Nat.beq k j with
    | true =>
      have := (beq_iff _ _).1 hb; subst this
      simp only [cond_true, ih, look]
      by_cases h : k = i <;> simp [h, beq_ne]
    | false =>
      have hne := beq_ff.1 hb
      simp only [cond_false, look, ih]
      by_cases h : k = i
      · subst h; simp [beq_refl]; intro e; exact absurd e.symm hne
      · simp [beq_ne h]

theorem look_filter (l : List (Nat × α)) (p : Nat → Bool) (i : Nat) : look (l.filter fun x => p x.1) i = if p i then look l i else none := by
  induction l with
  | nil => simp [look]
  | cons q r ih =>
    obtain ⟨k, u⟩ := q
    simp only [List.filter_cons]
    by_cases hk : k = i
    · subst hk
      cases hp : p k <;> simp [look, hp, beq_refl, ih]
    · cases hp : p k <;> simp [look, hp, beq_ne hk, ih]

theorem put_comm (l : List (Nat × α)) {i j : Nat} (u v : α) (h : i ≠ j) : put (put l i u) j v = put (put l j v) i u := by
  have blt_t : ∀ {a b : Nat}, a < b → Nat.blt a b = true := fun h => by simp [Nat.blt, Nat.ble_eq]; omega
  have blt_f : ∀ {a b : Nat}, ¬ a < b → Nat.blt a b = false := fun h => by
    cases hb : Nat.blt _ _
    · rfl
    · simp [Nat.blt, Nat.ble_eq] at hb; omega
  induction l with
  | nil =>
    rcases Nat.lt_or_gt_of_ne h with h1 | h1
    · simp [put, blt_t h1, blt_f (show ¬ j < i by omega), beq_ne h]
    · simp [put, blt_t h1, blt_f (show ¬ i < j by omega), beq_ne (Ne.symm h)]
  | cons p r ih =>
    obtain ⟨k, x⟩ := p
    simp only [put]
    by_cases h1 : i < k <;> by_cases h2 : j < k <;> by_cases h3 : k = i <;> by_cases h4 : k = j <;>
      by_cases h5 : i < j <;>
      first
      | omega
      | (have h6 : ¬ j < i := by omega
         simp [put, *, blt_t, blt_f, beq_ne, beq_refl, Ne.symm h]; try omega)
      | (have h6 : j < i := by omega
         simp [put, *, blt_t, blt_f, beq_ne, beq_refl, Ne.symm h]; try omega)
end

/-! ## The state and the world -/

def view (V0 : View) (B : Nat) (hid : Nat → Prop) (w : World) : View := fun a v =>
  (a.block < B ∧ V0 a v) ∨ (B ≤ a.block ∧ ¬ hid a.block ∧ w.cell? a = some v)

def Hid (rows : List (Nat × Row)) (boxes : List (Nat × List CV)) (ρ : Nat → Value) (β : Nat → Nat) (k : Nat) : Prop :=
  (∃ r, (look rows r).isSome = true ∧ (ρ r).ownBlock = some k) ∨ (∃ b, (look boxes b).isSome = true ∧ β b = k)

def RvRel (V : View) (rows : List (Nat × Row)) (ρ : Nat → Value) : RV → Value → Prop
  | .cv c, v => LRel V c v
  | .agg cs, v => ∃ vs : List Value, v = .agg vs.toArray ∧ All2 (LRel V) cs vs
  | .own r, v => v = ρ r ∧ (look rows r).isSome = true

def AvRel (V : View) (rows : List (Nat × Row)) (boxes : List (Nat × List CV)) (ρ : Nat → Value) (β : Nat → Nat) : AV → Value → Prop
  | .rv x, v => RvRel V rows ρ x v
  | .lit u, v => v = u
  | .box b off, v => v = .pointer (some ⟨β b, off, none⟩) ∧ (look boxes b).isSome = true
  | .oel r sz i off, v => ∃ row g, look rows r = some row ∧ (ρ r).ownBlock = some g ∧ sz = row.t.size ∧ v = .pointer (some ⟨g, i * sz + off, none⟩)
  | .vel cs, v => ∃ (ad : Addr) (vs : List Value), v = .pointer (some ad) ∧ All2 (LRel V) cs vs ∧ ∀ j u, vs[j]? = some u → V (ad.add j) u
  | .tup l, v => ∃ vs : List Value, v = .tuple vs.toArray ∧ All2 (RvRel V rows ρ) l vs
  | .nil, _ => True

def RowRel (V : View) (w : World) (B : Nat) (v : Value) (row : Row) : Prop :=
  ∃ yss : List (List Value), w.ownsRow B row.e row.t.size v row.xs.length yss.flatten ∧ All2 (Rel V row.t) row.xs yss

def BoxRel (V : View) (w : World) (g : Nat) (cs : List CV) : Prop :=
  ∃ (cur : Array Value) (e : TypeId), w.heap[g]? = some (.cells cur e (0, 0)) ∧ All2 (LRel V) cs cur.toList

/-- Slots and what the machine holds. -/
def SRel (R : AV → Value → Prop) (s : Slots) (ys : List Value) : Prop := s.n = ys.length ∧ ∀ i x, look s.l i = some x → R x (ys.getD i undef)

structure St (V0 : View) (w0 : World) (σ : AS) (a : Act) (w : World) (ρ : Nat → Value) (β : Nat → Nat) : Prop where
  below : Below w0.heap.size w0 w
  defers : a.defers = []
  slots : SRel (AvRel (view V0 w0.heap.size (Hid σ.rows σ.boxes ρ β) w) σ.rows σ.boxes ρ β) σ.tmps a.tmps.toList
  rows : ∀ r row, look σ.rows r = some row → RowRel (view V0 w0.heap.size (Hid σ.rows σ.boxes ρ β) w) w w0.heap.size (ρ r) row
  boxes : ∀ b cs, look σ.boxes b = some cs → w0.heap.size ≤ β b ∧ BoxRel (view V0 w0.heap.size (Hid σ.rows σ.boxes ρ β) w) w (β b) cs
  rr : ∀ r r' g, r ≠ r' → (look σ.rows r).isSome = true → (look σ.rows r').isSome = true → (ρ r).ownBlock = some g → (ρ r').ownBlock ≠ some g
  rb : ∀ r b g, (look σ.rows r).isSome = true → (look σ.boxes b).isSome = true → (ρ r).ownBlock = some g → β b ≠ g
  bb : ∀ b b', b ≠ b' → (look σ.boxes b).isSome = true → (look σ.boxes b').isSome = true → β b ≠ β b'

section
variable {V0 : View} {w0 w w' : World} {B : Nat} {hid hid' : Nat → Prop}

theorem view_cell (hV0 : ∀ a v, V0 a v → w0.cell? a = some v) (hb : Below w0.heap.size w0 w) {a : Addr} {v : Value}
    (h : view V0 w0.heap.size hid w a v) : w.cell? a = some v := by
  rcases h with ⟨hlt, h⟩ | ⟨_, _, h⟩
  · rw [World.cell?_of_block (hb.block a.block hlt)]; exact hV0 _ _ h
  · exact h

/-- What could be read can still be read. -/
theorem view_mono (hk : ∀ k, B ≤ k → k < w.heap.size → ¬ hid k → ¬ hid' k ∧ w'.heap[k]? = w.heap[k]?) {a : Addr} {v : Value}
    (h : view V0 B hid w a v) : view V0 B hid' w' a v := by
  rcases h with h | ⟨h1, h2, h3⟩
  · exact .inl h
  · have hlt := World.block_lt_of_cell? w a h3
    obtain ⟨h4, h5⟩ := hk _ h1 hlt h2
    exact .inr ⟨h1, h4, by rw [World.cell?_of_block h5]; exact h3⟩

theorem RvRel.mono {V V' : View} {rows rows' : List (Nat × Row)} {ρ ρ' : Nat → Value} (hV : ∀ a v, V a v → V' a v)
    (hr : ∀ r, (look rows r).isSome = true → (look rows' r).isSome = true ∧ ρ' r = ρ r) : ∀ (x : RV) (v : Value), RvRel V rows ρ x v → RvRel V' rows' ρ' x v
  | .cv c, v, h => LRel.mono hV c v h
  | .agg cs, v, ⟨vs, e, h⟩ => ⟨vs, e, h.mono (LRel.mono hV)⟩
  | .own r, v, ⟨e, h⟩ => ⟨by rw [(hr r h).2]; exact e, (hr r h).1⟩

theorem AvRel.mono {V V' : View} {rows rows' : List (Nat × Row)} {boxes boxes' : List (Nat × List CV)} {ρ ρ' : Nat → Value} {β β' : Nat → Nat} (hV : ∀ a v, V a v → V' a v)
    (hr : ∀ r row, look rows r = some row → ρ' r = ρ r ∧ ∃ row', look rows' r = some row' ∧ row'.t.size = row.t.size)
    (hb : ∀ b, (look boxes b).isSome = true → (look boxes' b).isSome = true ∧ β' b = β b) :
    ∀ (x : AV) (v : Value), AvRel V rows boxes ρ β x v → AvRel V' rows' boxes' ρ' β' x v := by
  have hr' : ∀ r, (look rows r).isSome = true → (look rows' r).isSome = true ∧ ρ' r = ρ r := fun r h => by
    obtain ⟨row, hrow⟩ := Option.isSome_iff_exists.1 h
    obtain ⟨h1, row', h2, _⟩ := hr r row hrow
    exact ⟨by simp [h2], h1⟩
  intro x v h
  cases x with
  | rv x => exact RvRel.mono hV hr' x v h
  | lit u => exact h
  | box b off => exact ⟨by rw [(hb b h.2).2]; exact h.1, (hb b h.2).1⟩
  | oel r sz i off =>
    obtain ⟨row, g, h1, h2, h3, h4⟩ := h
    obtain ⟨h5, row', h6, h7⟩ := hr r row h1
    exact ⟨row', g, h6, by rw [h5]; exact h2, by rw [h7]; exact h3, h4⟩
  | vel cs => obtain ⟨ad, vs, h1, h2, h3⟩ := h; exact ⟨ad, vs, h1, h2.mono (LRel.mono hV), fun j u hj => hV _ _ (h3 j u hj)⟩
  | tup l => obtain ⟨vs, h1, h2⟩ := h; exact ⟨vs, h1, h2.mono (RvRel.mono hV hr')⟩
  | nil => trivial

theorem RowRel.mono {V V' : View} {v : Value} {row : Row} (hV : ∀ a v, V a v → V' a v) (hk : ∀ k, v.ownBlock = some k → w'.heap[k]? = w.heap[k]?)
    (h : RowRel V w B v row) : RowRel V' w' B v row := by
  obtain ⟨yss, ⟨h1, h2⟩, h3⟩ := h
  refine ⟨yss, ⟨h1, ?_⟩, h3.mono (Rel.mono hV _)⟩
  rcases h2 with h2 | ⟨g, cap, cur, rfl, hb, hg, rest⟩
  · exact .inl h2
  · exact .inr ⟨g, cap, cur, rfl, hb, by rw [hk g rfl]; exact hg, rest⟩

theorem BoxRel.mono {V V' : View} {g : Nat} {cs : List CV} (hV : ∀ a v, V a v → V' a v) (hk : w'.heap[g]? = w.heap[g]?)
    (h : BoxRel V w g cs) : BoxRel V' w' g cs := by
  obtain ⟨cur, e, h1, h2⟩ := h
  exact ⟨cur, e, by rw [hk]; exact h1, h2.mono (LRel.mono hV)⟩

theorem RowRel.block {V : View} {v : Value} {row : Row} (h : RowRel V w B v row) {k : Nat} (hk : v.ownBlock = some k) : B ≤ k ∧ k < w.heap.size := by
  obtain ⟨yss, h1, _⟩ := h
  exact h1.lt k hk

theorem BoxRel.block {V : View} {g : Nat} {cs : List CV} (h : BoxRel V w g cs) : g < w.heap.size := by
  obtain ⟨cur, e, h1, _⟩ := h
  exact (Array.getElem?_eq_some_iff.1 h1).1

end

/-! ## Slots -/

theorem look_putD {α : Type} (l : List (Nat × α)) (j : Nat) (v : α) (i : Nat) : look (putD l j v) i = if j = i then some v else look l i := by
  induction l with
  | nil => by_cases h : j = i <;> simp [putD, look, h, beq_refl, beq_ne]
  | cons p r ih =>
    obtain ⟨k, u⟩ := p
    simp only [putD]
    cases hlt : Nat.blt k j with
    | true =>
      simp only [cond_true, look]
      by_cases h : j = i <;> simp [h, beq_refl, beq_ne]
    | false =>
      simp only [cond_false]
      cases hb : Nat.beq k j with
      | true =>
        have := (beq_iff _ _).1 hb; subst this
        simp only [cond_true, look]
        by_cases h : k = i <;> simp [h, beq_refl, beq_ne]
      | false =>
        have hne := beq_ff.1 hb
        simp only [cond_false, look, ih]
        by_cases h : k = i
        · subst h; simp [beq_refl]; intro e; exact absurd e.symm hne
        · simp [beq_ne h]

theorem look_mapD (f : AV → AV) (l : List (Nat × AV)) (i : Nat) : look (l.map fun p => (p.1, f p.2)) i = (look l i).map f := by
  induction l with
  | nil => rfl
  | cons p r ih =>
    obtain ⟨k, u⟩ := p
    simp only [List.map_cons, look]
    cases Nat.beq k i <;> simp [ih]

theorem look_mem {α : Type} {l : List (Nat × α)} {i : Nat} {x : α} (h : look l i = some x) : (i, x) ∈ l := by
  induction l with
  | nil => cases h
  | cons p r ih =>
    obtain ⟨k, u⟩ := p
    simp only [look] at h
    cases hb : Nat.beq k i with
    | true =>
      have := (beq_iff _ _).1 hb; subst this
      rw [hb] at h
      have e : u = x := by simpa using h
      subst e; exact List.mem_cons_self
    | false => rw [hb] at h; exact List.mem_cons_of_mem _ (ih h)

theorem SRel.mono {R S : AV → Value → Prop} {s : Slots} {ys : List Value} (h : SRel R s ys) (hf : ∀ x v, R x v → S x v) : SRel S s ys := ⟨h.1, fun i x hx => hf _ _ (h.2 i x hx)⟩

theorem nth_rel {R : AV → Value → Prop} (hn : ∀ v, R .nil v) {s : Slots} {ys : List Value} (h : SRel R s ys) (i : Nat) : R (nth s i) (ys.getD i undef) := by
  unfold nth
  cases hl : look s.l i with
  | none => exact hn _
  | some x => exact h.2 i x hl

theorem blt_iff (a b : Nat) : Nat.blt a b = true ↔ a < b := by simp [Nat.blt, Nat.ble_eq]; omega

theorem setN_rel {R : AV → Value → Prop} {s : Slots} {ys : List Value} {i : Nat} {x : AV} {y : Value} (h : SRel R s ys) (hx : R x y) : SRel R (setN s i x) (ys.set i y) := by
  unfold setN
  cases hb : Nat.blt i s.n with
  | true =>
    have hi : i < ys.length := by rw [← h.1]; exact (blt_iff _ _).1 hb
    refine ⟨by rw [List.length_set]; exact h.1, fun j z hz => ?_⟩
    have hz' : look (putD s.l i x) j = some z := hz
    rw [look_putD] at hz'
    by_cases e : i = j
    · subst e
      rw [if_pos rfl] at hz'
      obtain rfl : x = z := by simpa using hz'
      simpa [List.getD, List.getElem?_set, hi] using hx
    · rw [if_neg e] at hz'
      have := h.2 j z hz'
      simpa [List.getD, List.getElem?_set, e] using this
  | false =>
    have hi : ¬ i < ys.length := fun hi => by rw [← h.1, ← blt_iff, hb] at hi; cases hi
    simp only [cond_false]
    rw [List.set_eq_of_length_le (by omega)]; exact h

theorem map_rel {R S : AV → Value → Prop} {f : AV → AV} (hf : ∀ x v, R x v → S (f x) v) {s : Slots} {ys : List Value} (h : SRel R s ys) : SRel S (s.map f) ys := by
  refine ⟨h.1, fun i x hx => ?_⟩
  have hx' : look (s.l.map fun p => (p.1, f p.2)) i = some x := hx
  rw [look_mapD] at hx'
  obtain ⟨z, hz, rfl⟩ := Option.map_eq_some_iff.1 hx'
  exact hf _ _ (h.2 i z hz)

theorem putd_rel {R : AV → Value → Prop} {σ : AS} {a : Act} {d : Option Tmp} {x : AV} {v : Value} (h : SRel R σ.tmps a.tmps.toList) (hx : R x v) :
    SRel R (σ.putd d x).tmps (a.put d v).tmps.toList := by
  cases d with
  | none => exact h
  | some d => simpa [AS.putd, Act.put] using setN_rel h hx

theorem putd_rows {σ : AS} {d : Option Tmp} {x : AV} : (σ.putd d x).rows = σ.rows := by cases d <;> rfl
theorem putd_boxes {σ : AS} {d : Option Tmp} {x : AV} : (σ.putd d x).boxes = σ.boxes := by cases d <;> rfl
theorem put_defers' {a : Act} {d : Option Tmp} {v : Value} : (a.put d v).defers = a.defers := by cases d <;> rfl

section
variable {V0 : View} {w0 w w' : World} {σ : AS} {a : Act} {ρ : Nat → Value} {β : Nat → Nat}

/-- The view of a state. -/
abbrev St.V (V0 : View) (w0 : World) (σ : AS) (w : World) (ρ : Nat → Value) (β : Nat → Nat) : View := view V0 w0.heap.size (Hid σ.rows σ.boxes ρ β) w

theorem St.slot (h : St V0 w0 σ a w ρ β) {d : Option Tmp} {x : AV} {v : Value} (hx : AvRel (St.V V0 w0 σ w ρ β) σ.rows σ.boxes ρ β x v) :
    St V0 w0 (σ.putd d x) (a.put d v) w ρ β := by
  refine ⟨h.below, by rw [put_defers']; exact h.defers, ?_, ?_, ?_, ?_, ?_, ?_⟩
  · rw [putd_rows, putd_boxes]; exact putd_rel h.slots hx
  all_goals simp only [putd_rows, putd_boxes]
  · exact h.rows
  · exact h.boxes
  · exact h.rr
  · exact h.rb
  · exact h.bb

theorem ofConst_rel {V : View} {rows : List (Nat × Row)} {boxes : List (Nat × List CV)} (v : Value) : AvRel V rows boxes ρ β (ofConst v) v := by
  cases v <;> first | exact rfl | (show Rel V _ _ _; rfl)

theorem St.av (h : St V0 w0 σ a w ρ β) (x : Operand) : AvRel (St.V V0 w0 σ w ρ β) σ.rows σ.boxes ρ β (σ.av x) (a.eval x) := by
  cases x with
  | tmp t =>
    have := nth_rel (fun v => by trivial) h.slots t
    simpa [AS.av, Act.eval] using this
  | const v => exact ofConst_rel v
  | global g => trivial
  | func f => trivial

/-- The world grew, no old block changed. -/
theorem St.grow (h : St V0 w0 σ a w ρ β) (hb : Below w.heap.size w w') : St V0 w0 σ a w' ρ β := by
  have hV : ∀ ad v, St.V V0 w0 σ w ρ β ad v → St.V V0 w0 σ w' ρ β ad v := fun ad v hv =>
    view_mono (fun k _ hk hn => ⟨hn, hb.block k hk⟩) hv
  refine ⟨h.below.trans (hb.mono h.below.size), h.defers, h.slots.mono (AvRel.mono hV (fun r row hr => ⟨rfl, row, hr, rfl⟩) (fun b hb' => ⟨hb', rfl⟩)), ?_, ?_, h.rr, h.rb, h.bb⟩
  · intro r row hr
    exact (h.rows r row hr).mono hV (fun k hk => hb.block k ((h.rows r row hr).block hk).2)
  · intro b cs hc
    have := h.boxes b cs hc
    exact ⟨this.1, this.2.mono hV (hb.block _ this.2.block)⟩

end
end Go.Abs
set_option linter.unusedVariables false
set_option linter.unusedSimpArgs false
namespace Go.Abs
open Go.RowKit

/-! ## What is known of the types -/
def descOk (P : Program) (T : List TRow) (r : TRow) : Ty → Prop
  | .int k => P.underlying r.id = some (.int k)
  | .bool => P.underlying r.id = some .bool
  | .str => P.underlying r.id = some .string
  | .slice u => P.underlying r.id = some (.slice r.elem) ∧ ∃ re, findT T r.elem = some re ∧ re.ty = u
  | .st u => ∃ fs : Array Field, P.underlying r.id = some (.struct fs) ∧ fs.toList.mapM (fun f => (P.info? f.type).map fun i => (f.offset, i.size)) = some r.flds ∧ ∀ (f off size : Nat), r.flds[f]? = some (off, size) →
      ∃ (fd : Field) (j : TypeInfo), fs[f]? = some fd ∧ fd.offset = off ∧ P.info? fd.type = some j ∧ j.size = size ∧ size ≠ 0 ∧ off + size ≤ u.size
  | _ => False

structure TOk (P : Program) (T : List TRow) (r : TRow) : Prop where
  info : ∃ i z, P.info? r.id = some i ∧ i.size = r.ty.size ∧ i.bytes = r.bytes ∧ i.zero = some z ∧ (∀ V, Rel V r.ty r.ty.zero z.cells.toList) ∧ (z = wrap r.ty z.cells.toList)
  desc : descOk P T r r.ty
  flds : (∀ u, r.ty ≠ .st u) → r.flds = []

def TabOk (P : Program) (T : List TRow) : Prop := ∀ t r, findT T t = some r → r.id = t ∧ TOk P T r

section
variable {P : Program} {T : List TRow} {V : View} {r : TRow}

theorem lrel_int {i : IntKind} {n : Int} {v : Value} (h : LRel V ⟨.int i, n⟩ v) : v = .int i n := by
  have : [v] = [Value.int i n] := h
  simpa using this
theorem lrel_bool {b : Bool} {v : Value} (h : LRel V ⟨.bool, b⟩ v) : v = .bool b := by
  have : [v] = [Value.bool b] := h
  simpa using this
theorem lrel_str {s : ByteArray} {v : Value} (h : LRel V ⟨.str, s⟩ v) : v = .string s := by
  have : [v] = [Value.string s] := h
  simpa using this
theorem lrel_slice {t : Ty} {xs : List t.den} {v : Value} (h : LRel V ⟨.slice t, xs⟩ v) : ∃ (A : Option Addr) (c : Nat) (yss : List (List Value)), v = .slice A xs.length c ∧
    xs.length ≤ c ∧ All2 (Rel V t) xs yss ∧ (A = none → c = 0) ∧ ∀ j u, yss.flatten[j]? = some u → ∃ ad, A = some ad ∧ V (ad.add j) u := by
  obtain ⟨A, c, yss, h1, h2⟩ := h
  simp only [List.cons.injEq, and_true] at h1
  exact ⟨A, c, yss, h1, h2⟩

theorem rel_int {i : IntKind} {n : Int} : LRel V ⟨.int i, n⟩ (.int i n) := by show [Value.int i n] = [Value.int i n]; rfl
theorem rel_bool {b : Bool} : LRel V ⟨.bool, b⟩ (.bool b) := by show [Value.bool b] = [Value.bool b]; rfl
theorem rel_str {s : ByteArray} : LRel V ⟨.str, s⟩ (.string s) := by show [Value.string s] = [Value.string s]; rfl

/-- All of a list of rows has the rows' lengths together. -/
theorem flatten_length {t : Ty} : ∀ {xs : List t.den} {yss : List (List Value)}, All2 (Rel V t) xs yss → yss.flatten.length = xs.length * t.size
  | [], [], _ => by simp
  | x :: xs, y :: ys, h => by
    simp [Rel.length h.1, flatten_length h.2, Nat.add_mul]; omega
  | [], _ :: _, h => h.elim
  | _ :: _, [], h => h.elim

/-- The cells of one element. -/
theorem flatten_at {t : Ty} : ∀ {xs : List t.den} {yss : List (List Value)}, All2 (Rel V t) xs yss → ∀ (i : Nat) x, xs[i]? = some x →
    ∃ ys, yss[i]? = some ys ∧ Rel V t x ys ∧ ∀ j u, ys[j]? = some u → yss.flatten[i * t.size + j]? = some u
  | [], [], _, i, x, hx => by simp at hx
  | a :: xs, b :: yss, h, 0, x, hx => by
    simp at hx; subst hx
    refine ⟨b, by simp, h.1, fun j u hj => ?_⟩
    have hlt : j < b.length := (List.getElem?_eq_some_iff.1 hj).1
    simp [List.getElem?_append_left hlt, hj]
  | a :: xs, b :: yss, h, i + 1, x, hx => by
    obtain ⟨ys, h1, h2, h3⟩ := flatten_at h.2 i x (by simpa using hx)
    refine ⟨ys, by simpa using h1, h2, fun j u hj => ?_⟩
    have hb := Rel.length h.1
    have := h3 j u hj
    rw [List.flatten_cons, List.getElem?_append_right (by rw [hb, Nat.succ_mul]; omega)]
    rw [← this]; congr 1; rw [hb, Nat.succ_mul]; omega
  | [], _ :: _, h, _, _, _ => h.elim
  | _ :: _, [], h, _, _, _ => h.elim

theorem add_add (a : Addr) (m n : Nat) : (a.add m).add n = a.add (m + n) := by
  unfold Addr.add
  by_cases h1 : m = 0 <;> by_cases h2 : n = 0 <;> simp [h1, h2, Nat.add_assoc]

theorem idx_some {α : Type} {xs : List α} {n : Int} {x : α} (h : idx xs n = some x) : 0 ≤ n ∧ n < xs.length ∧ xs[n.toNat]? = some x := by
  cases n with
  | ofNat m =>
    simp only [idx] at h
    have := (List.getElem?_eq_some_iff.1 h).1
    exact ⟨by simp, by simp; exact this, by simpa using h⟩
  | negSucc m => simp [idx] at h

theorem take_get {vs : List Value} {n j : Nat} {u : Value} (h : (vs.take n)[j]? = some u) : vs[j]? = some u := by
  rw [List.getElem?_take] at h
  split at h
  · exact h
  · cases h

theorem drop_get {vs : List Value} {n j : Nat} {u : Value} (h : (vs.drop n)[j]? = some u) : vs[n + j]? = some u := by
  rwa [List.getElem?_drop] at h

/-! ### Loads -/
theorem isAgg_run (hr : TOk P T r) (w : World) : (isAgg r.id).run P w = .ok (match r.ty with | .st _ => true | _ => false) w := by
  have h := hr.desc
  cases ht : r.ty with
  | int k => rw [ht] at h; simp [isAgg, run_underlying (show P.underlying r.id = some (.int k) from h)]
  | bool => rw [ht] at h; simp [isAgg, run_underlying (show P.underlying r.id = some .bool from h)]
  | str => rw [ht] at h; simp [isAgg, run_underlying (show P.underlying r.id = some .string from h)]
  | slice u => rw [ht] at h; simp [isAgg, run_underlying h.1]
  | st u => rw [ht] at h; obtain ⟨fs, h1, _, _⟩ := h; simp [isAgg, run_underlying h1]
  | unit => rw [ht] at h; exact h.elim
  | pair a b => rw [ht] at h; exact h.elim

theorem size_run (hr : TOk P T r) (w : World) : (sizeOf r.id).run P w = .ok r.ty.size w := by
  obtain ⟨i, z, h1, h2, _⟩ := hr.info
  simp [sizeOf, typeInfo, h1, h2]

/-- A load of a variable whose cells are known. -/
theorem load_run (hr : TOk P T r) {w : World} {ad : Addr} {vs : List Value} {cs : List CV} {x : AV} {rows : List (Nat × Row)} {boxes : List (Nat × List CV)} {ρ : Nat → Value} {β : Nat → Nat}
    (hc : ∀ j u, vs[j]? = some u → w.cell? (ad.add j) = some u) (hcs : All2 (LRel V) cs vs) (hx : mkVal r.ty cs = some x) :
    ∃ v, (loadVar r.id ad).run P w = .ok v w ∧ AvRel V rows boxes ρ β x v := by
  have one : (match r.ty with | .st _ => true | _ => false) = false → (∀ c l, cs = c :: l → x = .rv (.cv c)) → cs ≠ [] → ∃ v, (loadVar r.id ad).run P w = .ok v w ∧ AvRel V rows boxes ρ β x v := by
    intro h1 h2 h3
    cases cs with
    | nil => exact absurd rfl h3
    | cons c l =>
      cases vs with
      | nil => exact hcs.elim
      | cons v vs =>
        refine ⟨v, ?_, ?_⟩
        · have := hc 0 v (by simp)
          have h0 : ad.add 0 = ad := rfl
          rw [h0] at this
          simp [loadVar, isAgg_run hr, h1, this]
        · rw [h2 c l rfl]; exact hcs.1
  cases ht : r.ty with
  | st t =>
    rw [ht] at hx
    simp only [mkVal] at hx
    cases hle : Nat.ble t.size cs.length with
    | false => simp [hle] at hx
    | true =>
      simp only [hle, cond_true, Option.some.injEq] at hx
      have hlen := hcs.length
      have hle' : t.size ≤ vs.length := by rw [← hlen]; exact Nat.le_of_ble_eq_true hle
      refine ⟨.agg (vs.take t.size).toArray, ?_, ?_⟩
      · have hl := run_loadCells_list (P := P) w ad (vs.take t.size) (fun j v hj => hc j v (take_get hj))
        rw [List.length_take, Nat.min_eq_left hle'] at hl
        have hs : Ty.size (.st t) = t.size := rfl
        simp [loadVar, isAgg_run hr, ht, size_run hr, hl, hs]
      · subst hx; exact ⟨_, rfl, hcs.take _⟩
  | int k => rw [ht] at hx; exact one (by simp [ht]) (fun c l e => by subst e; simpa [mkVal] using hx.symm) (fun e => by subst e; simp [mkVal] at hx)
  | bool => rw [ht] at hx; exact one (by simp [ht]) (fun c l e => by subst e; simpa [mkVal] using hx.symm) (fun e => by subst e; simp [mkVal] at hx)
  | str => rw [ht] at hx; exact one (by simp [ht]) (fun c l e => by subst e; simpa [mkVal] using hx.symm) (fun e => by subst e; simp [mkVal] at hx)
  | slice u => rw [ht] at hx; exact one (by simp [ht]) (fun c l e => by subst e; simpa [mkVal] using hx.symm) (fun e => by subst e; simp [mkVal] at hx)
  | unit => exact absurd hr.desc (by rw [ht]; exact id)
  | pair a b => exact absurd hr.desc (by rw [ht]; exact id)

theorem litFlat_rel : ∀ {t : Ty} {l : List Value} {cs : List CV} {r : List Value}, litFlat t l = some (cs, r) → ∃ l1, l = l1 ++ r ∧ All2 (LRel V) cs l1
  | .unit, l, cs, r, h => by simp only [litFlat, Option.some.injEq, Prod.mk.injEq] at h; obtain ⟨rfl, rfl⟩ := h; exact ⟨[], rfl, trivial⟩
  | .pair a b, l, cs, r, h => by
    simp only [litFlat] at h
    split at h
    · rename_i x l' h1
      split at h
      · rename_i y l'' h2
        simp only [Option.some.injEq, Prod.mk.injEq] at h
        obtain ⟨rfl, rfl⟩ := h
        obtain ⟨m1, e1, r1⟩ := litFlat_rel h1
        obtain ⟨m2, e2, r2⟩ := litFlat_rel h2
        exact ⟨m1 ++ m2, by rw [e1, e2, List.append_assoc], r1.append r2⟩
      · cases h
    · cases h
  | .st t, l, cs, r, h => litFlat_rel (t := t) h
  | .int k, .int k' n :: l, cs, r, h => by
    simp only [litFlat] at h
    split at h
    · rename_i e
      subst e
      simp only [Option.some.injEq, Prod.mk.injEq] at h
      obtain ⟨rfl, rfl⟩ := h
      exact ⟨[_], rfl, rel_int, trivial⟩
    · cases h
  | .bool, .bool b :: l, cs, r, h => by
    simp only [litFlat, Option.some.injEq, Prod.mk.injEq] at h
    obtain ⟨rfl, rfl⟩ := h
    exact ⟨[_], rfl, rel_bool, trivial⟩
  | .str, .string s :: l, cs, r, h => by
    simp only [litFlat, Option.some.injEq, Prod.mk.injEq] at h
    obtain ⟨rfl, rfl⟩ := h
    exact ⟨[_], rfl, rel_str, trivial⟩
  | .slice t, .slice none 0 0 :: l, cs, r, h => by
    simp only [litFlat, Option.some.injEq, Prod.mk.injEq] at h
    obtain ⟨rfl, rfl⟩ := h
    exact ⟨[_], rfl, ⟨none, 0, [], rfl, Nat.le_refl _, trivial, fun _ => rfl, fun j u hj => by simp at hj⟩, trivial⟩

end
end Go.Abs
set_option linter.unusedVariables false
set_option linter.unusedSimpArgs false
namespace Go.Abs
open Go.RowKit

section
variable {P : Program} {T : List TRow} {V0 : View} {w0 w : World} {σ : AS} {a : Act} {ρ : Nat → Value} {β : Nat → Nat}

def PV (P : Program) (o : Oper) (V0 : View) (w0 : World) (σ : AS) (a : Act) (w : World) (ρ : Nat → Value) (β : Nat → Nat) (x : AV) : Prop :=
  ∃ v w', (execOp a.eval o).run P w = .ok (.value v) w' ∧ Below w.heap.size w w' ∧ AvRel (St.V V0 w0 σ w' ρ β) σ.rows σ.boxes ρ β x v

theorem PV.same {o : Oper} {x : AV} {v : Value} (h1 : (execOp a.eval o).run P w = .ok (.value v) w)
    (h2 : AvRel (St.V V0 w0 σ w ρ β) σ.rows σ.boxes ρ β x v) : PV P o V0 w0 σ a w ρ β x := ⟨v, w, h1, Below.refl _ _, h2⟩

theorem av_int {x : Operand} {i : IntKind} {n : Int} (h : St V0 w0 σ a w ρ β) (he : σ.av x = .rv (.cv ⟨.int i, n⟩)) : a.eval x = .int i n := by
  have := h.av x; rw [he] at this; exact lrel_int (V := St.V V0 w0 σ w ρ β) this
theorem av_bool {x : Operand} {b : Bool} (h : St V0 w0 σ a w ρ β) (he : σ.av x = .rv (.cv ⟨.bool, b⟩)) : a.eval x = .bool b := by
  have := h.av x; rw [he] at this; exact lrel_bool (V := St.V V0 w0 σ w ρ β) this
theorem av_str {x : Operand} {s : ByteArray} (h : St V0 w0 σ a w ρ β) (he : σ.av x = .rv (.cv ⟨.str, s⟩)) : a.eval x = .string s := by
  have := h.av x; rw [he] at this; exact lrel_str (V := St.V V0 w0 σ w ρ β) this
theorem av_own {x : Operand} {r : Nat} (h : St V0 w0 σ a w ρ β) (he : σ.av x = .rv (.own r)) : a.eval x = ρ r ∧ (look σ.rows r).isSome = true := by
  have := h.av x; rw [he] at this; exact this
theorem av_lit {x : Operand} {v : Value} (h : St V0 w0 σ a w ρ β) (he : σ.av x = .lit v) : a.eval x = v := by
  have := h.av x; rw [he] at this; exact this
theorem av_slice {x : Operand} {t : Ty} {xs : List t.den} (h : St V0 w0 σ a w ρ β) (he : σ.av x = .rv (.cv ⟨.slice t, xs⟩)) :
    LRel (St.V V0 w0 σ w ρ β) ⟨.slice t, xs⟩ (a.eval x) := by
  have := h.av x; rw [he] at this; exact this

theorem rel_avint {V : View} {rows : List (Nat × Row)} {boxes : List (Nat × List CV)} {i : IntKind} {n : Int} : AvRel V rows boxes ρ β (.rv (.cv ⟨.int i, n⟩)) (.int i n) := rel_int (V := V)
theorem rel_avbool {V : View} {rows : List (Nat × Row)} {boxes : List (Nat × List CV)} {b : Bool} : AvRel V rows boxes ρ β (.rv (.cv ⟨.bool, b⟩)) (.bool b) := rel_bool (V := V)
theorem rel_avstr {V : View} {rows : List (Nat × Row)} {boxes : List (Nat × List CV)} {s : ByteArray} : AvRel V rows boxes ρ β (.rv (.cv ⟨.str, s⟩)) (.string s) := rel_str (V := V)

/-- A row's value: its length, and where it lies. -/
theorem St.row (h : St V0 w0 σ a w ρ β) {r : Nat} {row : Row} (hr : look σ.rows r = some row) :
    ∃ (A : Option Addr) (c : Nat), ρ r = .slice A row.xs.length c ∧ row.xs.length ≤ c ∧ (A = none → c = 0) := by
  obtain ⟨yss, ⟨h1, h2⟩, h3⟩ := h.rows r row hr
  rcases h2 with ⟨h2, h4⟩ | ⟨g, cap, cur, h2, _, _, h4, _⟩
  · exact ⟨none, 0, by rw [h2, h4], by rw [h4]; exact Nat.le_refl _, fun _ => rfl⟩
  · exact ⟨some ⟨g, 0, none⟩, cap, h2, h4, fun e => by cases e⟩

/-- A row's cells. -/
theorem St.rowCells (h : St V0 w0 σ a w ρ β) {r : Nat} {row : Row} (hr : look σ.rows r = some row) :
    ∃ yss : List (List Value), All2 (Rel (St.V V0 w0 σ w ρ β) row.t) row.xs yss ∧ ∀ g, (ρ r).ownBlock = some g → ∀ j u, yss.flatten[j]? = some u → w.cell? ⟨g, j, none⟩ = some u := by
  obtain ⟨yss, h1, h3⟩ := h.rows r row hr
  refine ⟨yss, h3, fun g hg j u hj => ?_⟩
  have := h1.cells hg j u hj
  have e : (⟨g, 0, none⟩ : Addr).add j = ⟨g, j, none⟩ := by unfold Addr.add; split <;> simp_all
  rwa [e] at this

theorem addr0 (g j : Nat) : (⟨g, 0, none⟩ : Addr).add j = ⟨g, j, none⟩ := by unfold Addr.add; split <;> simp_all
theorem addr1 (g i j : Nat) : (⟨g, i, none⟩ : Addr).add j = ⟨g, i + j, none⟩ := by unfold Addr.add; split <;> simp_all

variable (hV0 : ∀ ad v, V0 ad v → w0.cell? ad = some v)
include hV0

theorem pure_load (hT : TabOk P T) (h : St V0 w0 σ a w ρ β) {o : Oper} {t : TypeId} {y : Operand} (ho : o.op = .load t y) {c : Cls} {x : AV}
    (he : pureOp T σ o (fun c v => some (c, v)) = some (c, x)) : PV P o V0 w0 σ a w ρ β x := by
  simp only [pureOp, ho] at he
  split at he
  · cases he
  · rename_i r hr
    obtain ⟨rfl, hr'⟩ := hT t r hr
    have hy := h.av y
    split at he
    · rename_i b off hb
      rw [hb] at hy
      split at he
      · rename_i cs hcs
        split at he
        · rename_i v hv
          simp only [Option.some.injEq, Prod.mk.injEq] at he
          obtain ⟨_, rfl⟩ := he
          obtain ⟨cur, e, hg, hrel⟩ := (h.boxes b cs hcs).2
          have hc : ∀ j u, (cur.toList.drop off)[j]? = some u → w.cell? ((⟨β b, off, none⟩ : Addr).add j) = some u := by
            intro j u hj
            rw [addr1, cell_of_row w _ _ cur e (0, 0) hg]
            simpa using drop_get hj
          obtain ⟨v', h1, h2⟩ := load_run (P := P) hr' hc (hrel.drop off) hv (rows := σ.rows) (boxes := σ.boxes) (ρ := ρ) (β := β)
          exact PV.same (by simp only [execOp, ho, Instr.loadAt, hy.1, Instr.sureAddr, Sem.run_bind, Sem.run_pure, Result.andThen_ok, h1]) h2
        · cases he
      · cases he
    · rename_i q sz i off hq
      rw [hq] at hy
      split at he
      · rename_i row hrow
        obtain ⟨row', g, hrow', hg, rfl, hy⟩ := hy
        rw [hrow] at hrow'
        obtain rfl : row = row' := by simpa using hrow'
        cases hx : row.xs[i]? with
        | none => simp [hx] at he
        | some z =>
          simp only [hx, Option.bind_some] at he
          split at he
          · rename_i v hv
            simp only [Option.some.injEq, Prod.mk.injEq] at he
            obtain ⟨_, rfl⟩ := he
            obtain ⟨yss, h1, h2⟩ := h.rowCells hrow
            obtain ⟨ys, h3, h4, h5⟩ := flatten_at h1 i z hx
            have hc : ∀ j u, (ys.drop off)[j]? = some u → w.cell? ((⟨g, i * row.t.size + off, none⟩ : Addr).add j) = some u := by
              intro j u hj
              rw [addr1, Nat.add_assoc]
              exact h2 g hg _ u (h5 _ u (drop_get hj))
            obtain ⟨v', h6, h7⟩ := load_run (P := P) hr' hc ((rel_flat h4).drop off) hv (rows := σ.rows) (boxes := σ.boxes) (ρ := ρ) (β := β)
            exact PV.same (by simp only [execOp, ho, Instr.loadAt, hy, Instr.sureAddr, Sem.run_bind, Sem.run_pure, Result.andThen_ok, h6]) h7
          · cases he
      · cases he
    · rename_i cs hcs
      rw [hcs] at hy
      split at he
      · rename_i v hv
        simp only [Option.some.injEq, Prod.mk.injEq] at he
        obtain ⟨_, rfl⟩ := he
        obtain ⟨ad, vs, hy, h1, h2⟩ := hy
        obtain ⟨v', h3, h4⟩ := load_run (P := P) hr' (fun j u hj => view_cell hV0 h.below (h2 j u hj)) h1 hv (rows := σ.rows) (boxes := σ.boxes) (ρ := ρ) (β := β)
        exact PV.same (by simp only [execOp, ho, Instr.loadAt, hy, Instr.sureAddr, Sem.run_bind, Sem.run_pure, Result.andThen_ok, h3]) h4
      · cases he
    · cases he

omit hV0 in
theorem pure_move (h : St V0 w0 σ a w ρ β) {o : Oper} {y : Operand} (ho : o.op = .move y ∨ o.op = .assign y) {c : Cls} {x : AV}
    (he : pureOp T σ o (fun c v => some (c, v)) = some (c, x)) : PV P o V0 w0 σ a w ρ β x := by
  have hrun : (execOp a.eval o).run P w = .ok (.value (a.eval y)) w := by rcases ho with ho | ho <;> simp [execOp, ho]
  have he' : (match σ.av y with
    | .lit v => match findT T o.type with
      | some r => match r.ty with
        | .st t => match v with
          | .agg vs => match litFlat t vs.toList with
            | some (cs, []) => some (Cls.S, (AV.rv (.agg cs)))
            | _ => none
          | _ => none
        | _ => some (Cls.S, .lit v)
      | none => none
    | .nil => none
    | a => some (Cls.S, a)) = some (c, x) := by
      rcases ho with ho | ho <;> (simp only [pureOp, ho] at he; exact he)
  have hy := h.av y
  split at he'
  · rename_i v hv
    rw [hv] at hy
    split at he'
    · split at he'
      · split at he'
        · rename_i vs
          split at he'
          · rename_i cs hl
            simp only [Option.some.injEq, Prod.mk.injEq] at he'
            obtain ⟨_, rfl⟩ := he'
            obtain ⟨l1, e1, h1⟩ := litFlat_rel (V := St.V V0 w0 σ w ρ β) hl
            refine PV.same hrun ⟨vs.toList, ?_, ?_⟩
            · have : a.eval y = .agg vs := hy
              simpa using this
            · rw [e1, List.append_nil]; exact h1
          · cases he'
        · cases he'
      · simp only [Option.some.injEq, Prod.mk.injEq] at he'
        obtain ⟨_, rfl⟩ := he'
        exact PV.same hrun hy
    · cases he'
  · cases he'
  · simp only [Option.some.injEq, Prod.mk.injEq] at he'
    obtain ⟨_, rfl⟩ := he'
    exact PV.same hrun hy

omit hV0 in
theorem pure_pick (h : St V0 w0 σ a w ρ β) {o : Oper} {y u v : Operand} (ho : o.op = .pick y u v) {c : Cls} {x : AV}
    (he : pureOp T σ o (fun c v => some (c, v)) = some (c, x)) : PV P o V0 w0 σ a w ρ β x := by
  simp only [pureOp, ho] at he
  split at he
  · rename_i t ht
    have hy := av_bool h ht
    cases t
    · simp only [cond_false, Option.some.injEq, Prod.mk.injEq] at he
      obtain ⟨_, rfl⟩ := he
      exact PV.same (v := a.eval v) (by simp [execOp, ho, hy, asBool]) (h.av v)
    · simp only [cond_true, Option.some.injEq, Prod.mk.injEq] at he
      obtain ⟨_, rfl⟩ := he
      exact PV.same (v := a.eval u) (by simp [execOp, ho, hy, asBool]) (h.av u)
  · cases he

end
end Go.Abs
set_option linter.unusedVariables false
set_option linter.unusedSimpArgs false
namespace Go.Abs
open Go.RowKit

section
variable {P : Program} {T : List TRow} {V0 : View} {w0 w : World} {σ : AS} {a : Act} {ρ : Nat → Value} {β : Nat → Nat}

theorem cmpInt_run {op : BinOp} {x y : Int} {b : Bool} (h : cmpInt op x y = some b) : (Op.intCmp op x y).run P w = .ok (.bool b) w := by
  cases op <;> simp [cmpInt] at h <;> subst h <;> simp [Op.intCmp]

theorem strCmp_run {op : BinOp} {x y : ByteArray} {b : Bool} (h : strCmp op x y = some b) : (Op.stringOp op x y).run P w = .ok (.bool b) w := by
  cases op <;> simp only [strCmp, Option.some.injEq, reduceCtorEq] at h <;> subst h <;> simp [Op.stringOp]

theorem cmp_not {op : BinOp} {x y : Int} {b : Bool} (h : cmpInt op x y = some b) : op ≠ .add ∧ op ≠ .sub ∧ op ≠ .mul ∧ op ≠ .quo ∧ op ≠ .rem ∧ op ≠ .and ∧ op ≠ .or ∧ op ≠ .xor ∧ op ≠ .andNot ∧ op ≠ .shl ∧ op ≠ .shr := by
  cases op <;> simp [cmpInt] at h <;> simp

theorem pure_bin (hT : TabOk P T) (h : St V0 w0 σ a w ρ β) {o : Oper} {op : BinOp} {xt yt : TypeId} {x y : Operand} (ho : o.op = .binOp op xt x y yt) {c : Cls} {z : AV}
    (he : pureOp T σ o (fun c v => some (c, v)) = some (c, z)) : PV P o V0 w0 σ a w ρ β z := by
  simp only [pureOp, ho] at he
  split at he
  · rename_i r hr
    obtain ⟨rfl, hr'⟩ := hT xt r hr
    have he2 : binV op (σ.av x) (σ.av y) (fun c v => some (c, v)) = some (c, z) ∨ (r.ty = .bool ∧ binB op (σ.av x) (σ.av y) (fun c v => some (c, v)) = some (c, z)) := by
      split at he
      · exact .inr ⟨by assumption, he⟩
      · exact .inl he
      · exact .inl he
      · cases he
    clear he
    have done : ∀ v, (do eqGuard op r.id x y (a.eval x) (a.eval y); binOp op r.id (a.eval x) (a.eval y) : Sem Value).run P w = .ok v w →
        (execOp a.eval o).run P w = .ok (.value v) w := fun v hv => by
      simp only [execOp, ho, Sem.run_bind, Sem.run_pure] at hv ⊢
      rw [hv]; rfl
    rcases he2 with he | ⟨hty, he⟩
    unfold binV at he
    split at he
    · rename_i i u j v hx hy
      have ex := av_int h hx
      have ey := av_int h hy
      have hg : eqGuard op r.id x y (.int i u) (.int j v) = pure () := eqGuard_at_int ..
      split at he
      · split at he
        · rename_i e; subst e
          simp only [cvk, Option.some.injEq, Prod.mk.injEq] at he
          obtain ⟨_, rfl⟩ := he
          exact PV.same (done _ (by rw [ex, ey, hg]; simp [binOp, Op.intArith])) rel_avint
        · cases he
      · split at he
        · rename_i e; subst e
          simp only [cvk, Option.some.injEq, Prod.mk.injEq] at he
          obtain ⟨_, rfl⟩ := he
          exact PV.same (done _ (by rw [ex, ey, hg]; simp [binOp, Op.intArith])) rel_avint
        · cases he
      · split at he
        · rename_i e; subst e
          simp only [cvk, Option.some.injEq, Prod.mk.injEq] at he
          obtain ⟨_, rfl⟩ := he
          exact PV.same (done _ (by rw [ex, ey, hg]; simp [binOp, Op.intArith])) rel_avint
        · cases he
      · split at he
        · rename_i e; subst e
          cases hv : (v == 0) with
          | true => simp [hv] at he
          | false =>
            have hv' : ¬ v = 0 := by simpa using hv
            simp only [hv, cond_false, cvk, Option.some.injEq, Prod.mk.injEq] at he
            obtain ⟨_, rfl⟩ := he
            exact PV.same (done _ (by rw [ex, ey, hg]; simp [binOp, Op.intDiv, hv'])) rel_avint
        · cases he
      · split at he
        · rename_i e; subst e
          cases hv : (v == 0) with
          | true => simp [hv] at he
          | false =>
            have hv' : ¬ v = 0 := by simpa using hv
            simp only [hv, cond_false, cvk, Option.some.injEq, Prod.mk.injEq] at he
            obtain ⟨_, rfl⟩ := he
            exact PV.same (done _ (by rw [ex, ey, hg]; simp [binOp, Op.intDiv, hv'])) rel_avint
        · cases he
      · split at he
        · rename_i e; subst e
          split at he
          · rename_i b hb
            simp only [cvk, Option.some.injEq, Prod.mk.injEq] at he
            obtain ⟨_, rfl⟩ := he
            obtain ⟨n1, n2, n3, n4, n5, n6, n7, n8, n9, n10, n11⟩ := cmp_not hb
            refine PV.same (v := .bool b) (done _ ?_) rel_avbool
            rw [ex, ey, hg]
            have := cmpInt_run (P := P) (w := w) hb
            cases op <;> first | contradiction | simpa [binOp] using this
          · cases he
        · cases he
    · rename_i u v hx hy
      have ex := av_str h hx
      have ey := av_str h hy
      have hg : eqGuard op r.id x y (.string u) (.string v) = pure () := eqGuard_at_string ..
      split at he
      · cases hb : Nat.ble (u.size + v.size) 9223372036854775807 with
        | false => simp [hb] at he
        | true =>
          simp only [hb, cond_true, cvk, Option.some.injEq, Prod.mk.injEq] at he
          obtain ⟨_, rfl⟩ := he
          have hle := Nat.le_of_ble_eq_true hb
          refine PV.same (v := .string (u ++ v)) (done _ ?_) rel_avstr
          rw [ex, ey, hg]
          have hn : ¬ (((u.size + v.size : Nat) : Int) > IntKind.i64.max) := by rw [IntKind.max_i64]; omega
          simp only [binOp, Op.stringOp, Sem.run_bind, Sem.run_pure, Result.andThen_ok, if_neg hn]
      · split at he
        · rename_i b hb
          simp only [cvk, Option.some.injEq, Prod.mk.injEq] at he
          obtain ⟨_, rfl⟩ := he
          refine PV.same (v := .bool b) (done _ ?_) rel_avbool
          rw [ex, ey, hg]
          have := strCmp_run (P := P) (w := w) hb
          cases op <;> first | (simp [strCmp] at hb; done) | simpa [binOp] using this
        · cases he
    · cases he
    unfold binB at he
    split at he
    · rename_i u v hx hy
      have ex := av_bool h hx
      have ey := av_bool h hy
      have hg : eqGuard op r.id x y (.bool u) (.bool v) = pure () := eqGuard_at_bool ..
      have hd := hr'.desc
      rw [hty] at hd
      have hb : (Op.equal r.id (.bool u) (.bool v)).run P w = .ok (u == v) w := run_equalIn_bool w 9999 r.id u v hd
      split at he
      · simp only [cvk, Option.some.injEq, Prod.mk.injEq] at he
        obtain ⟨_, rfl⟩ := he
        refine PV.same (v := .bool (u == v)) (done _ ?_) rel_avbool
        rw [ex, ey, hg]
        simp [binOp, hb]
      · simp only [cvk, Option.some.injEq, Prod.mk.injEq] at he
        obtain ⟨_, rfl⟩ := he
        refine PV.same (v := .bool (!(u == v))) (done _ ?_) rel_avbool
        rw [ex, ey, hg]
        simp [binOp, hb]
      · cases he
    · cases he
  · cases he
end
end Go.Abs
set_option linter.unusedVariables false
set_option linter.unusedSimpArgs false
namespace Go.Abs
open Go.RowKit

section
variable {P : Program} {T : List TRow} {V0 : View} {w0 w : World} {σ : AS} {a : Act} {ρ : Nat → Value} {β : Nat → Nat}

theorem pure_un (h : St V0 w0 σ a w ρ β) {o : Oper} {op : UnOp} {xt : TypeId} {x : Operand} (ho : o.op = .unOp op xt x) {c : Cls} {z : AV}
    (he : pureOp T σ o (fun c v => some (c, v)) = some (c, z)) : PV P o V0 w0 σ a w ρ β z := by
  simp only [pureOp, ho] at he
  split at he
  · rename_i b hx
    have ex := av_bool h hx
    simp only [cvk, Option.some.injEq, Prod.mk.injEq] at he
    obtain ⟨_, rfl⟩ := he
    exact PV.same (v := .bool (!b)) (by simp [execOp, ho, ex, Op.unary]) rel_avbool
  · rename_i i u hx
    have ex := av_int h hx
    simp only [cvk, Option.some.injEq, Prod.mk.injEq] at he
    obtain ⟨_, rfl⟩ := he
    exact PV.same (by simp [execOp, ho, ex, Op.unary, Op.intArith]) rel_avint
  · cases he

theorem pure_extract (h : St V0 w0 σ a w ρ β) {o : Oper} {x : Operand} {i : Nat} (ho : o.op = .extract x i) {c : Cls} {z : AV}
    (he : pureOp T σ o (fun c v => some (c, v)) = some (c, z)) : PV P o V0 w0 σ a w ρ β z := by
  simp only [pureOp, ho] at he
  split at he
  · rename_i l hx
    have ex := h.av x
    rw [hx] at ex
    obtain ⟨vs, ex, hvs⟩ := ex
    split at he
    · rename_i v hv
      simp only [Option.some.injEq, Prod.mk.injEq] at he
      obtain ⟨_, rfl⟩ := he
      obtain ⟨u, hu, hr⟩ := hvs.get i v hv
      exact PV.same (v := u) (by simp [execOp, ho, ex, Instr.extract, hu]) hr
    · cases he
  · cases he

theorem pure_fieldAddr (hT : TabOk P T) (h : St V0 w0 σ a w ρ β) {o : Oper} {s : TypeId} {x : Operand} {f : Nat} (ho : o.op = .fieldAddr s x f) {c : Cls} {z : AV}
    (he : pureOp T σ o (fun c v => some (c, v)) = some (c, z)) : PV P o V0 w0 σ a w ρ β z := by
  simp only [pureOp, ho] at he
  split at he
  · rename_i r hr
    obtain ⟨rfl, hr'⟩ := hT s r hr
    split at he
    · rename_i off size hf
      have hd := hr'.desc
      have hfld : ∃ (fs : Array Field) (fd : Field) (j : TypeInfo), P.underlying r.id = some (.struct fs) ∧ fs[f]? = some fd ∧ fd.offset = off ∧ P.info? fd.type = some j ∧ j.size ≠ 0 := by
        cases hty : r.ty with
        | st u =>
          rw [hty] at hd
          obtain ⟨fs, h1, _, h2⟩ := hd
          obtain ⟨fd, j, h3, h4, h5, h6, h7, _⟩ := h2 f off size hf
          exact ⟨fs, fd, j, h1, h3, h4, h5, by rw [h6]; exact h7⟩
        | _ => rw [hr'.flds (by rw [hty]; simp)] at hf; simp at hf
      obtain ⟨fs, fd, j, h1, h2, h3, h4, h5⟩ := hfld
      have run : ∀ ad : Addr, a.eval x = .pointer (some ad) → (execOp a.eval o).run P w = .ok (.value (.pointer (some (ad.add off)))) w := fun ad hx => by
        simp [execOp, ho, Instr.fieldAt, run_underlying h1, h2, hx, Instr.sureAddr, fieldPlace, sizeOf, typeInfo, h4, h5, h3]
      have hx := h.av x
      split at he
      · rename_i b o' hb
        simp only [Option.some.injEq, Prod.mk.injEq] at he
        obtain ⟨_, rfl⟩ := he
        rw [hb] at hx
        exact PV.same (run _ hx.1) ⟨by rw [addr1], hx.2⟩
      · rename_i q sz i o' hb
        simp only [Option.some.injEq, Prod.mk.injEq] at he
        obtain ⟨_, rfl⟩ := he
        rw [hb] at hx
        obtain ⟨row, g, e1, e2, e3, e4⟩ := hx
        exact PV.same (run _ e4) ⟨row, g, e1, e2, e3, by rw [addr1, Nat.add_assoc]⟩
      · rename_i cs hb
        simp only [Option.some.injEq, Prod.mk.injEq] at he
        obtain ⟨_, rfl⟩ := he
        rw [hb] at hx
        obtain ⟨ad, vs, e1, e2, e3⟩ := hx
        exact PV.same (run _ e1) ⟨_, vs.drop off, rfl, e2.drop off, fun j u hj => by rw [add_add]; exact e3 _ u (drop_get hj)⟩
      · cases he
    · cases he
  · cases he

theorem pure_index (hT : TabOk P T) (h : St V0 w0 σ a w ρ β) {o : Oper} {t : TypeId} {x i : Operand} (ho : o.op = .index t x i) {c : Cls} {z : AV}
    (he : pureOp T σ o (fun c v => some (c, v)) = some (c, z)) : PV P o V0 w0 σ a w ρ β z := by
  simp only [pureOp, ho] at he
  split at he
  · rename_i r hr
    obtain ⟨rfl, hr'⟩ := hT t r hr
    split at he
    · rename_i k n s hty hi hx
      have ei := av_int h hi
      have ex := av_str h hx
      have hd := hr'.desc
      rw [hty] at hd
      cases hb : sidx s n with
      | none => simp [hb] at he
      | some b =>
        simp only [hb, Option.bind_some, cvk, Option.some.injEq, Prod.mk.injEq] at he
        obtain ⟨_, rfl⟩ := he
        cases n with
        | negSucc m => simp [sidx] at hb
        | ofNat m =>
          simp only [sidx, Option.map_eq_some_iff] at hb
          obtain ⟨u, hu, rfl⟩ := hb
          refine PV.same (v := .int .u8 u.toNat) ?_ rel_avint
          have h0 : (0 : Int) ≤ Int.ofNat m := by simp
          simp [execOp, ho, Instr.index, ei, ex, asIntOf, run_underlying (show P.underlying r.id = some .string from hd), hu]
    · cases he
  · cases he

theorem pure_len (hT : TabOk P T) (h : St V0 w0 σ a w ρ β) {o : Oper} {args : Array Operand} {ats : Array TypeId} (ho : o.op = .call { callee := .builtin .len, args := args, argTypes := ats }) {c : Cls} {z : AV}
    (he : pureOp T σ o (fun c v => some (c, v)) = some (c, z)) : PV P o V0 w0 σ a w ρ β z := by
  simp only [pureOp, ho] at he
  split at he
  · rename_i x t hx ht
    have hx' : args = #[x] := by cases args; simp at hx; subst hx; rfl
    have ht' : ats = #[t] := by cases ats; simp at ht; subst ht; rfl
    subst hx' ht'
    split at he
    · rename_i r hr
      obtain ⟨rfl, hr'⟩ := hT t r hr
      have hd := hr'.desc
      have run : ∀ v, (Builtin.len_ #[r.id] o.type #[a.eval x]).run P w = .ok v w → (execOp a.eval o).run P w = .ok (.value v) w := fun v hv => by
        simp [execOp, ho, resolve, invoke, builtin, hv]
      have hx := h.av x
      unfold lenV at he
      split at he
      · rename_i u t' xs hty hb
        rw [hty] at hd
        obtain ⟨hd', _⟩ := hd
        simp only [cvk, Option.some.injEq, Prod.mk.injEq] at he
        obtain ⟨_, rfl⟩ := he
        obtain ⟨A, cc, yss, ex, _⟩ := lrel_slice (av_slice h hb)
        exact PV.same (run _ (by simp [Builtin.len_, run_underlying hd', ex, goInt])) rel_avint
      · rename_i s hty hb
        rw [hty] at hd
        have hd' : P.underlying r.id = some .string := hd
        simp only [cvk, Option.some.injEq, Prod.mk.injEq] at he
        obtain ⟨_, rfl⟩ := he
        have ex := av_str h hb
        exact PV.same (run _ (by simp [Builtin.len_, run_underlying hd', ex, goInt])) rel_avint
      · rename_i u q hty hb
        rw [hty] at hd
        obtain ⟨hd', _⟩ := hd
        split at he
        · rename_i row hrow
          simp only [cvk, Option.some.injEq, Prod.mk.injEq] at he
          obtain ⟨_, rfl⟩ := he
          obtain ⟨ex, _⟩ := av_own h hb
          obtain ⟨A, cc, er, _⟩ := h.row hrow
          exact PV.same (run _ (by simp [Builtin.len_, run_underlying hd', ex, er, goInt])) rel_avint
        · cases he
      · rename_i u hty hb
        rw [hty] at hd
        obtain ⟨hd', _⟩ := hd
        simp only [cvk, Option.some.injEq, Prod.mk.injEq] at he
        obtain ⟨_, rfl⟩ := he
        have ex := av_lit h hb
        exact PV.same (run _ (by simp [Builtin.len_, run_underlying hd', ex, goInt])) rel_avint
      · cases he
    · cases he
  · cases he
end
end Go.Abs
set_option linter.unusedVariables false
set_option linter.unusedSimpArgs false
namespace Go.Abs
open Go.RowKit Go.Lib

section
variable {P : Program} {T : List TRow} {V0 : View} {w0 w : World} {σ : AS} {a : Act} {ρ : Nat → Value} {β : Nat → Nat}

theorem flatten_int {V : View} {k : IntKind} : ∀ {xs : List Int} {yss : List (List Value)}, All2 (Rel V (.int k)) xs yss → yss.flatten = xs.map (Value.int k)
  | [], [], _ => rfl
  | x :: xs, y :: ys, h => by
    have h1 : y = [Value.int k x] := h.1
    have h2 := flatten_int h.2
    simp [h1, h2]
  | [], _ :: _, h => h.elim
  | _ :: _, [], h => h.elim

theorem strOf_foldl (xs : List Int) : ∀ (s : ByteArray), (xs.foldl (fun r n => r.push (UInt8.ofNat n.toNat)) s).data = s.data ++ (xs.map fun n => UInt8.ofNat n.toNat).toArray := by
  induction xs with
  | nil => intro s; simp
  | cons x xs ih =>
    intro s
    simp only [List.foldl_cons, ih, List.map_cons]
    show (s.data.push _) ++ _ = _
    apply Array.ext'
    simp

theorem strOf_eq (xs : List Int) : xs.foldl (fun r n => r.push (UInt8.ofNat n.toNat)) ByteArray.empty = strOf xs := by
  have h := strOf_foldl xs ByteArray.empty
  have h2 : (ByteArray.empty).data = #[] := rfl
  rw [h2, Array.empty_append] at h
  cases hh : xs.foldl (fun r n => r.push (UInt8.ofNat n.toNat)) ByteArray.empty with
  | mk d => rw [hh] at h; simp only at h; subst h; rfl

theorem bytesStr_run {xs : List Int} {A : Option Addr} {c : Nat} (hA : A = none → xs = []) (hc : ∀ ad, A = some ad → ∀ j u, (xs.map (Value.int .u8))[j]? = some u → w.cell? (ad.add j) = some u) :
    (Conv.bytesToString (.slice A xs.length c)).run P w = .ok (.string (strOf xs)) w := by
  cases A with
  | none => rw [hA rfl]; rfl
  | some ad =>
    have hl := run_loadCells_list (P := P) w ad (xs.map (Value.int .u8)) (hc ad rfl)
    rw [List.length_map] at hl
    rw [run_bytesToString w ad xs.length c xs hl, strOf_eq]

theorem pure_convert (hV0 : ∀ ad v, V0 ad v → w0.cell? ad = some v) (hT : TabOk P T) (h : St V0 w0 σ a w ρ β) {o : Oper} {s d : TypeId} {x : Operand} (ho : o.op = .convert s d x) {c : Cls} {z : AV}
    (he : pureOp T σ o (fun c v => some (c, v)) = some (c, z)) : PV P o V0 w0 σ a w ρ β z := by
  simp only [pureOp, ho] at he
  split at he
  · rename_i rs rd hrs hrd
    obtain ⟨rfl, hs'⟩ := hT s rs hrs
    obtain ⟨rfl, hd'⟩ := hT d rd hrd
    have hs := hs'.desc
    have hd := hd'.desc
    have run : ∀ v w', (convert rs.id rd.id (a.eval x)).run P w = .ok v w' → (execOp a.eval o).run P w = .ok (.value v) w' := fun v w' hv => by
      simp [execOp, ho, hv]
    split at he
    · rename_i k j i u hty1 hty2 hx
      have ex := av_int h hx
      rw [hty1] at hs; rw [hty2] at hd
      simp only [cvk, Option.some.injEq, Prod.mk.injEq] at he
      obtain ⟨_, rfl⟩ := he
      refine PV.same (run _ w ?_) rel_avint
      simp [convert, run_underlying (show P.underlying rs.id = some (.int _) from hs), run_underlying (show P.underlying rd.id = some (.int _) from hd), ex, Conv.intToInt]
    · rename_i u hty1 hty2 hx
      have ex := av_str h hx
      rw [hty1] at hs; rw [hty2] at hd
      simp only [cvk, Option.some.injEq, Prod.mk.injEq] at he
      obtain ⟨_, rfl⟩ := he
      refine PV.same (v := .string u) (run _ w ?_) rel_avstr
      simp [convert, run_underlying (show P.underlying rs.id = some .string from hs), run_underlying (show P.underlying rd.id = some .string from hd), ex]
    · rename_i xs hty1 hty2 hx
      rw [hty1] at hs; rw [hty2] at hd
      obtain ⟨hs1, re, hre, hre2⟩ := hs
      obtain ⟨hid, hre'⟩ := hT _ re hre
      have hdre := hre'.desc
      rw [hre2] at hdre
      have hue : P.underlying rs.elem = some (.int .u8) := by rw [← hid]; exact hdre
      simp only [cvk, Option.some.injEq, Prod.mk.injEq] at he
      obtain ⟨_, rfl⟩ := he
      obtain ⟨A, cc, yss, ex, hlen, hall, hnone, hcells⟩ := lrel_slice (av_slice h hx)
      refine PV.same (v := .string (strOf xs)) (run _ w ?_) rel_avstr
      have hb := bytesStr_run (P := P) (w := w) (xs := xs) (A := A) (c := cc) (fun e => by
          have := hnone e
          cases xs with
          | nil => rfl
          | cons y ys => simp at hlen; omega) (fun ad e j u hj => by
          rw [← flatten_int hall] at hj
          obtain ⟨ad', e', hv⟩ := hcells j u hj
          rw [e] at e'
          obtain rfl : ad = ad' := by simpa using e'
          exact view_cell hV0 h.below hv)
      rw [ex]
      cases A with
      | none => simp [convert, run_underlying hs1, run_underlying (show P.underlying rd.id = some .string from hd), run_underlying hue, hb]
      | some ad => simp [convert, run_underlying hs1, run_underlying (show P.underlying rd.id = some .string from hd), run_underlying hue, hb]
    · rename_i q hty1 hty2 hx
      rw [hty1] at hs; rw [hty2] at hd
      obtain ⟨hs1, re, hre, hre2⟩ := hs
      obtain ⟨hid, hre'⟩ := hT _ re hre
      have hdre := hre'.desc
      rw [hre2] at hdre
      have hue : P.underlying rs.elem = some (.int .u8) := by rw [← hid]; exact hdre
      split at he
      · rename_i e xs hrow
        simp only [cvk, Option.some.injEq, Prod.mk.injEq] at he
        obtain ⟨_, rfl⟩ := he
        obtain ⟨ex, _⟩ := av_own h hx
        obtain ⟨A, cc, er, hlen, hnone⟩ := h.row hrow
        obtain ⟨yss, h1, h2⟩ := h.rowCells hrow
        obtain ⟨yss', ⟨h3, h4⟩, _⟩ := h.rows q _ hrow
        refine PV.same (v := .string (strOf xs)) (run _ w ?_) rel_avstr
        have hb := bytesStr_run (P := P) (w := w) (xs := xs) (A := A) (c := cc) (fun e => by
            have := hnone e
            cases xs with
            | nil => rfl
            | cons y ys => simp at hlen; omega) (fun ad e j u hj => by
            rw [← flatten_int h1] at hj
            rcases h4 with ⟨h4, _⟩ | ⟨g, cap, cur, h4, _⟩
            · rw [er, e] at h4; cases h4
            · rw [er, e] at h4
              simp only [Value.slice.injEq, Option.some.injEq] at h4
              obtain ⟨rfl, _, rfl⟩ := h4
              rw [addr0]
              exact h2 g (by rw [er, e]; rfl) j u hj)
        rw [ex, er]
        cases A with
        | none => simp [convert, run_underlying hs1, run_underlying (show P.underlying rd.id = some .string from hd), run_underlying hue, hb]
        | some ad => simp [convert, run_underlying hs1, run_underlying (show P.underlying rd.id = some .string from hd), run_underlying hue, hb]
      · cases he
    · rename_i u hty1 hty2 hx
      have ex := av_str h hx
      rw [hty1] at hs; rw [hty2] at hd
      obtain ⟨hd1, re, hre, hre2⟩ := hd
      obtain ⟨hid, hre'⟩ := hT _ re hre
      have hdre := hre'.desc
      rw [hre2] at hdre
      have hue : P.underlying rd.elem = some (.int .u8) := by rw [← hid]; exact hdre
      cases hle : Nat.ble u.size 140737488355328 with
      | false => simp [hle] at he
      | true =>
        simp only [hle, cond_true, cvk, Option.some.injEq, Prod.mk.injEq] at he
        obtain ⟨_, rfl⟩ := he
        refine ⟨_, bytesWorld w rd.elem u, run _ _ (by rw [ex]; exact run_convert_string_bytes w rs.id rd.id rd.elem u (show P.underlying rs.id = some .string from hs) hd1 hue), ?_, ?_⟩
        · refine ⟨rfl, rfl, rfl, by rw [bytesWorld_size]; omega, fun k hk => bytesWorld_at_old w rd.elem u k hk⟩
        · refine ⟨some ⟨w.heap.size, 0, none⟩, grownCap w u.size 0 rd.elem, (bytesOf u).map fun n => [Value.int .u8 n], ?_, ?_, ?_, fun e => (by cases e), ?_⟩
          · have : List.length (bytesOf u) = u.size := by simp [bytesOf]
            rw [this]
          · have : List.length (bytesOf u) = u.size := by simp [bytesOf]
            rw [this]
            exact grownCap_ge w u.size 0 rd.elem
          · have : ∀ l : List Int, All2 (Rel (St.V V0 w0 σ (bytesWorld w rd.elem u) ρ β) (.int .u8)) l (l.map fun n => [Value.int .u8 n]) := by
              intro l
              induction l with
              | nil => trivial
              | cons y ys ih => exact ⟨rfl, ih⟩
            exact this _
          · intro j v hj
            have hfl : ∀ l : List Int, (l.map fun n => [Value.int .u8 n]).flatten = l.map (Value.int .u8) := by
              intro l
              induction l with
              | nil => rfl
              | cons y ys ih => simp [ih]
            rw [hfl] at hj
            refine ⟨_, rfl, .inr ⟨?_, ?_, ?_⟩⟩
            · rw [addr0]; exact h.below.size
            · rw [addr0]
              rintro (⟨r, h1, h2⟩ | ⟨b, h1, h2⟩)
              · obtain ⟨row, hrow⟩ := Option.isSome_iff_exists.1 h1
                have := ((h.rows r row hrow).block h2).2
                simp at this
              · obtain ⟨cs, hcs⟩ := Option.isSome_iff_exists.1 h1
                have := (h.boxes b cs hcs).2.block
                simp at h2
                omega
            · rw [addr0]
              simp only [bytesOf, List.getElem?_map, List.map_map] at hj
              cases hb : u.data.toList[j]? with
              | none => simp [hb] at hj
              | some y =>
                have hlt : j < u.size := by
                  have := (List.getElem?_eq_some_iff.1 hb).1
                  simpa using this
                rw [bytesWorld_cell w rd.elem u j hlt]
                simp [hb] at hj
                simp [List.getD, hb, ← hj]
    · cases he
  · cases he
end
end Go.Abs
set_option linter.unusedVariables false
set_option linter.unusedSimpArgs false
namespace Go.Abs
open Go.RowKit Go.Lib

section
variable {P : Program} {T : List TRow} {V0 : View} {w0 w : World} {σ : AS} {a : Act} {ρ : Nat → Value} {β : Nat → Nat}

theorem elem_of (hT : TabOk P T) {r : TRow} (hr : TOk P T r) {u : Ty} (hty : r.ty = .slice u) :
    P.underlying r.id = some (.slice r.elem) ∧ ∃ re, TOk P T re ∧ re.id = r.elem ∧ re.ty = u := by
  have hd := hr.desc
  rw [hty] at hd
  obtain ⟨h1, re, h2, h3⟩ := hd
  obtain ⟨h4, h5⟩ := hT _ re h2
  exact ⟨h1, re, h5, h4, h3⟩

theorem pure_indexAddr (hT : TabOk P T) (h : St V0 w0 σ a w ρ β) {o : Oper} {t : TypeId} {x i : Operand} (ho : o.op = .indexAddr t x i) {c : Cls} {z : AV}
    (he : pureOp T σ o (fun c v => some (c, v)) = some (c, z)) : PV P o V0 w0 σ a w ρ β z := by
  simp only [pureOp, ho] at he
  split at he
  · rename_i r hr
    obtain ⟨rfl, hr'⟩ := hT t r hr
    split at he
    · rename_i u hty
      obtain ⟨hu, re, hre, hid, hre2⟩ := elem_of hT hr' hty
      have hsz : (sizeOf r.elem).run P w = .ok u.size w := by rw [← hid, ← hre2]; exact size_run hre w
      split at he
      · rename_i k n hi
        have ei := av_int h hi
        have run : ∀ (ad : Addr) (m cc : Nat), a.eval x = .slice (some ad) m cc → 0 ≤ n → n < m →
            (execOp a.eval o).run P w = .ok (.value (.pointer (some (ad.add (n.toNat * u.size))))) w := fun ad m cc hx h0 h1 => by
          simp [execOp, ho, Instr.indexAt, ei, asIntOf, run_underlying hu, hx, h0, h1, hsz]
        split at he
        · rename_i u' xs hx
          cases hsu : Nat.beq u.size u'.size with
          | false => simp [hsu] at he
          | true =>
            have hsu' := (beq_iff _ _).1 hsu
            cases hy : idx xs n with
            | none => simp [hsu, hy] at he
            | some y =>
              simp only [hsu, cond_true, hy, Option.bind_some, Option.some.injEq, Prod.mk.injEq] at he
              obtain ⟨_, rfl⟩ := he
              obtain ⟨h0, h1, h2⟩ := idx_some hy
              obtain ⟨A, cc, yss, ex, hlen, hall, hnone, hcells⟩ := lrel_slice (av_slice h hx)
              cases A with
              | none => have := hnone rfl; omega
              | some ad =>
                obtain ⟨ys, h3, h4, h5⟩ := flatten_at hall n.toNat y h2
                refine PV.same (run ad _ _ ex h0 h1) ⟨_, ys, rfl, rel_flat h4, fun j v hj => ?_⟩
                obtain ⟨ad', e, hv⟩ := hcells _ v (h5 j v hj)
                obtain rfl : ad = ad' := by simpa using e
                rw [add_add, hsu']
                exact hv
        · rename_i q hx
          obtain ⟨ex, _⟩ := av_own h hx
          split at he
          · rename_i row hrow
            cases hsu : Nat.beq u.size row.t.size with
            | false => simp [hsu] at he
            | true =>
              have hsu' := (beq_iff _ _).1 hsu
              cases hy : idx row.xs n with
              | none => simp [hsu, hy] at he
              | some y =>
                simp only [hsu, cond_true, hy, Option.bind_some, Option.some.injEq, Prod.mk.injEq] at he
                obtain ⟨_, rfl⟩ := he
                obtain ⟨h0, h1, h2⟩ := idx_some hy
                obtain ⟨yss, ⟨h3, h4⟩, h5⟩ := h.rows q row hrow
                rcases h4 with ⟨h4, h6⟩ | ⟨g, cap, cur, h4, _⟩
                · omega
                · rw [h4] at ex
                  refine PV.same (run _ _ _ ex h0 h1) ⟨row, g, hrow, by rw [h4]; rfl, rfl, by rw [addr0, hsu']; rfl⟩
          · cases he
        · cases he
      · cases he
    · cases he
  · cases he

theorem flatten_drop {V : View} {t : Ty} : ∀ {xs : List t.den} {yss : List (List Value)} (n : Nat), All2 (Rel V t) xs yss → (yss.drop n).flatten = yss.flatten.drop (n * t.size)
  | xs, yss, 0, h => by simp
  | [], [], n + 1, h => by simp
  | x :: xs, y :: yss, n + 1, h => by
    have := Rel.length h.1
    rw [List.drop_succ_cons, flatten_drop n h.2, List.flatten_cons, List.drop_append, Nat.succ_mul, this]
    have e : List.drop (n * t.size + t.size) y = [] := by apply List.drop_eq_nil_of_le; omega
    rw [e, List.nil_append]
    congr 1; omega
  | [], _ :: _, _, h => h.elim
  | _ :: _, [], _, h => h.elim

theorem flatten_take {V : View} {t : Ty} : ∀ {xs : List t.den} {yss : List (List Value)} (n : Nat), All2 (Rel V t) xs yss → (yss.take n).flatten = yss.flatten.take (n * t.size)
  | xs, yss, 0, h => by simp
  | [], [], n + 1, h => by simp
  | x :: xs, y :: yss, n + 1, h => by
    have := Rel.length h.1
    rw [List.take_succ_cons, List.flatten_cons, flatten_take n h.2, List.flatten_cons, List.take_append, Nat.succ_mul, this]
    have e : List.take (n * t.size + t.size) y = y := by apply List.take_of_length_le; omega
    rw [e]
    congr 2; omega
  | [], _ :: _, _, h => h.elim
  | _ :: _, [], _, h => h.elim

theorem inCut_iff {n : Nat} {l h : Int} : inCut n l h = true ↔ 0 ≤ l ∧ l ≤ h ∧ h ≤ n := by simp [inCut, and_assoc]

theorem cut_length {α : Type} {xs : List α} {l h : Int} (hc : inCut xs.length l h = true) : (cut xs l h).length = h.toNat - l.toNat := by
  obtain ⟨h1, h2, h3⟩ := inCut_iff.1 hc
  simp [cut]; omega

theorem optInt_some {d : Int} {x : Option Operand} {n : Int} (h : St V0 w0 σ a w ρ β) (he : optInt σ d x = some n) :
    (x = none ∧ n = d) ∨ ∃ y k, x = some y ∧ a.eval y = .int k n := by
  cases x with
  | none => simp [optInt] at he; exact .inl ⟨rfl, he.symm⟩
  | some y =>
    simp only [optInt] at he
    split at he
    · rename_i k m hy
      simp only [Option.some.injEq] at he
      subst he
      exact .inr ⟨y, _, rfl, av_int h hy⟩
    · cases he

theorem run_bound {x : Value} {k : IntKind} {n : Int} {y : Nat} {code : BoundsCode} (hx : x = .int k n) (h0 : 0 ≤ n) (h1 : n ≤ y) :
    (Instr.sliceBound x y code).run P w = .ok n.toNat w := by
  subst hx
  simp [Instr.sliceBound, asIntOf, h0, h1]

theorem run_bounds2 (h : St V0 w0 σ a w ρ β) {s : Bool} {len cap : Nat} {lo hi : Option Operand} {l r : Int} (hl : optInt σ 0 lo = some l) (hh : optInt σ len hi = some r)
    (h0 : 0 ≤ l) (h1 : l ≤ r) (h2 : r ≤ cap) :
    (Instr.sliceBounds s len cap (lo.map a.eval) (hi.map a.eval) none).run P w = .ok (l.toNat, r.toNat, cap) w := by
  rcases optInt_some h hl with ⟨rfl, rfl⟩ | ⟨y, k, rfl, ey⟩ <;> rcases optInt_some h hh with ⟨rfl, rfl⟩ | ⟨z, k', rfl, ez⟩
  · simp [Instr.sliceBounds]
  · have hz := fun c => run_bound (P := P) (w := w) (code := c) ez (by omega) h2
    simp [Instr.sliceBounds, hz]
  · have hy := fun c => run_bound (P := P) (w := w) (code := c) (y := len) ey h0 (by omega)
    simp [Instr.sliceBounds, hy]
  · have hz := fun c => run_bound (P := P) (w := w) (code := c) ez (by omega) h2
    have hy := fun c => run_bound (P := P) (w := w) (code := c) (y := r.toNat) ey h0 (by omega)
    simp [Instr.sliceBounds, hz, hy]

/-- A piece of a shared slice. -/
theorem rel_cut {V : View} {t : Ty} {xs : List t.den} {A : Option Addr} {c : Nat} {yss : List (List Value)} (hlen : xs.length ≤ c) (hall : All2 (Rel V t) xs yss) (hnone : A = none → c = 0)
    (hcells : ∀ j u, yss.flatten[j]? = some u → ∃ ad, A = some ad ∧ V (ad.add j) u) {l r : Int} (hc : inCut xs.length l r = true) {m : Nat} (hm : r.toNat ≤ m) (hmc : m ≤ c) :
    LRel V ⟨.slice t, cut xs l r⟩ (.slice (if m = l.toNat then A else A.map (·.add (l.toNat * t.size))) (r.toNat - l.toNat) (m - l.toNat)) := by
  obtain ⟨h1, h2, h3⟩ := inCut_iff.1 hc
  refine ⟨_, _, (yss.take r.toNat).drop l.toNat, by rw [cut_length hc], by rw [cut_length hc]; omega, (hall.take _).drop _, ?_, ?_⟩
  · intro e
    split at e
    · have := hnone e; omega
    · have : A = none := by simpa using e
      have := hnone this; omega
  · intro j u hj
    rw [flatten_drop l.toNat (hall.take _), flatten_take r.toNat hall] at hj
    have h4 := take_get (drop_get hj)
    obtain ⟨ad, e, hv⟩ := hcells _ u h4
    subst e
    by_cases hml : m = l.toNat
    · have hlt := (List.getElem?_eq_some_iff.1 hj).1
      have : r.toNat = l.toNat := by omega
      simp [this] at hlt
    · exact ⟨ad.add (l.toNat * t.size), by simp [hml], by rw [add_add]; exact hv⟩

theorem pure_slice (hT : TabOk P T) (h : St V0 w0 σ a w ρ β) {o : Oper} {t : TypeId} {x : Operand} {lo hi : Option Operand} (ho : o.op = .slice t x lo hi none) {c : Cls} {z : AV}
    (he : pureOp T σ o (fun c v => some (c, v)) = some (c, z)) : PV P o V0 w0 σ a w ρ β z := by
  simp only [pureOp, ho] at he
  split at he
  · rename_i r hr
    obtain ⟨rfl, hr'⟩ := hT t r hr
    have hd := hr'.desc
    split at he
    · rename_i s hty hx
      rw [hty] at hd
      have hd' : P.underlying r.id = some .string := hd
      have ex := av_str h hx
      split at he
      · rename_i l r' hl hh
        cases hc : inCut s.size l r' with
        | false => simp [hc] at he
        | true =>
          simp only [hc, cond_true, cvk, Option.some.injEq, Prod.mk.injEq] at he
          obtain ⟨_, rfl⟩ := he
          obtain ⟨h1, h2, h3⟩ := inCut_iff.1 hc
          have hb := run_bounds2 (P := P) (s := false) h hl hh h1 h2 h3
          refine PV.same (v := .string (s.extract l.toNat r'.toNat)) ?_ rel_avstr
          simp [execOp, ho, Instr.sliceAt, Instr.slice, run_underlying hd', ex, hb]
      · cases he
    · rename_i u u' xs hty hx
      obtain ⟨hu, re, hre, hid, hre2⟩ := elem_of hT hr' hty
      have hsz : (sizeOf r.elem).run P w = .ok u.size w := by rw [← hid, ← hre2]; exact size_run hre w
      obtain ⟨A, cc, yss, ex, hlen, hall, hnone, hcells⟩ := lrel_slice (av_slice h hx)
      split at he
      · rename_i l r' hl hh
        cases hc : (Nat.beq u.size u'.size && inCut (List.length xs) l r') with
        | false => simp [hc] at he
        | true =>
          simp only [hc, cond_true, cvk, Option.some.injEq, Prod.mk.injEq] at he
          obtain ⟨_, rfl⟩ := he
          rw [Bool.and_eq_true] at hc
          obtain ⟨hsu, hc⟩ := hc
          have hsu' := (beq_iff _ _).1 hsu
          obtain ⟨h1, h2, h3⟩ := inCut_iff.1 hc
          have hb := run_bounds2 (P := P) (s := true) h hl hh h1 h2 (show r' ≤ (cc : Int) by omega)
          refine PV.same ?_ (rel_cut (m := cc) hlen hall hnone hcells hc (by omega) (Nat.le_refl _))
          simp [execOp, ho, Instr.sliceAt, Instr.slice, run_underlying hu, ex, hb, hsz, hsu']
      · cases he
    · cases he
  · cases he

theorem pure_slice3 (hT : TabOk P T) (h : St V0 w0 σ a w ρ β) {o : Oper} {t : TypeId} {x mx : Operand} {lo hi : Option Operand} (ho : o.op = .slice t x lo hi (some mx)) {c : Cls} {z : AV}
    (he : pureOp T σ o (fun c v => some (c, v)) = some (c, z)) : PV P o V0 w0 σ a w ρ β z := by
  simp only [pureOp, ho] at he
  split at he
  · rename_i r hr
    obtain ⟨rfl, hr'⟩ := hT t r hr
    split at he
    · rename_i u u' xs hty hx
      obtain ⟨hu, re, hre, hid, hre2⟩ := elem_of hT hr' hty
      have hsz : (sizeOf r.elem).run P w = .ok u.size w := by rw [← hid, ← hre2]; exact size_run hre w
      obtain ⟨A, cc, yss, ex, hlen, hall, hnone, hcells⟩ := lrel_slice (av_slice h hx)
      split at he
      · rename_i hx'
        split at he
        · rename_i l r' m hl hh hm
          cases hc : (Nat.beq u.size u'.size && inCut (List.length xs) l r' && decide (r' ≤ m) && decide (m ≤ List.length xs)) with
          | false => simp [hc] at he
          | true =>
            simp only [hc, cond_true, cvk, Option.some.injEq, Prod.mk.injEq] at he
            obtain ⟨_, rfl⟩ := he
            simp only [Bool.and_eq_true, decide_eq_true_eq] at hc
            obtain ⟨⟨⟨hsu, hc⟩, hrm⟩, hml⟩ := hc
            have hsu' := (beq_iff _ _).1 hsu
            obtain ⟨h1, h2, h3⟩ := inCut_iff.1 hc
            obtain ⟨_, k1, e1, ez⟩ := (optInt_some h hh).resolve_left (by simp)
            obtain ⟨_, k2, e2, em⟩ := (optInt_some h hm).resolve_left (by simp)
            cases e1; cases e2
            have hbm := fun c => run_bound (P := P) (w := w) (code := c) (y := cc) em (by omega) (by omega)
            have hbz := fun c => run_bound (P := P) (w := w) (code := c) (y := m.toNat) ez (by omega) (by omega)
            refine PV.same ?_ (rel_cut (m := m.toNat) hlen hall hnone hcells hc (by omega) (by omega))
            rcases optInt_some h hl with ⟨rfl, rfl⟩ | ⟨y, k, rfl, ey⟩
            · simp [execOp, ho, Instr.sliceAt, Instr.slice, Instr.sliceBounds, run_underlying hu, ex, hbm, hbz, hsz, hsu']
            · have hby := fun c => run_bound (P := P) (w := w) (code := c) (y := r'.toNat) ey h1 (by omega)
              simp [execOp, ho, Instr.sliceAt, Instr.slice, Instr.sliceBounds, run_underlying hu, ex, hbm, hbz, hby, hsz, hsu']
        · cases he
      · cases he
    · cases he
  · cases he
end
end Go.Abs
set_option linter.unusedVariables false
set_option linter.unusedSimpArgs false
namespace Go.Abs
open Go.RowKit Go.Lib

section
variable {P : Program} {T : List TRow} {V0 : View} {w0 w : World} {σ : AS} {a : Act} {ρ : Nat → Value} {β : Nat → Nat}

theorem pure_max (h : St V0 w0 σ a w ρ β) {o : Oper} {args : Array Operand} {ats : Array TypeId} (ho : o.op = .call { callee := .builtin .max, args := args, argTypes := ats }) {c : Cls} {z : AV}
    (he : pureOp T σ o (fun c v => some (c, v)) = some (c, z)) : PV P o V0 w0 σ a w ρ β z := by
  simp only [pureOp, ho] at he
  split at he
  · rename_i x y hxy
    have hx' : args = #[x, y] := by cases args; simp at hxy; subst hxy; rfl
    subst hx'
    split at he
    · rename_i i u j v hx hy
      have ex := av_int h hx
      have ey := av_int h hy
      simp only [cvk, Option.some.injEq, Prod.mk.injEq] at he
      obtain ⟨_, rfl⟩ := he
      refine PV.same ?_ rel_avint
      simp [execOp, ho, resolve, invoke, builtin, Builtin.max_, Builtin.max2, ex, ey]
    · cases he
  · cases he

theorem pure_min (h : St V0 w0 σ a w ρ β) {o : Oper} {args : Array Operand} {ats : Array TypeId} (ho : o.op = .call { callee := .builtin .min, args := args, argTypes := ats }) {c : Cls} {z : AV}
    (he : pureOp T σ o (fun c v => some (c, v)) = some (c, z)) : PV P o V0 w0 σ a w ρ β z := by
  simp only [pureOp, ho] at he
  split at he
  · rename_i x y hxy
    have hx' : args = #[x, y] := by cases args; simp at hxy; subst hxy; rfl
    subst hx'
    split at he
    · rename_i i u j v hx hy
      have ex := av_int h hx
      have ey := av_int h hy
      simp only [cvk, Option.some.injEq, Prod.mk.injEq] at he
      obtain ⟨_, rfl⟩ := he
      refine PV.same ?_ rel_avint
      simp [execOp, ho, resolve, invoke, builtin, Builtin.min_, Builtin.min2, ex, ey]
    · cases he
  · cases he

theorem foldl_cells : ∀ (vs : List Value) (k off : Nat) (cells : Array Value), off + k + vs.length ≤ cells.size →
    ((vs.zipIdx k).foldl (fun cs (p : Value × Nat) => cs.setIfInBounds (off + p.2) p.1) cells).toList = cells.toList.take (off + k) ++ vs ++ cells.toList.drop (off + k + vs.length)
  | [], k, off, cells, h => by simp
  | v :: vs, k, off, cells, h => by
    simp only [List.length_cons] at h
    rw [List.zipIdx_cons, List.foldl_cons, foldl_cells vs (k + 1) off _ (by simp; omega)]
    have := list_seg_step cells.toList (off + k) v vs (by simp; omega)
    simp only [Array.toList_setIfInBounds]
    have e1 : off + (k + 1) = off + k + 1 := by omega
    rw [e1, this]
    congr 2

theorem fill_rel {V : View} {flds : List (Nat × Nat)} (hav : ∀ x, AvRel V σ.rows σ.boxes ρ β (σ.av x) (a.eval x)) : ∀ (parts : List (Nat × Operand)) (cs cs' : List CV) (cells : Array Value), partsOf σ T flds parts cs = some cs' → All2 (LRel V) cs cells.toList →
    ∃ cells', Instr.fill (flds.toArray[·]?) cells (parts.map fun (i, x) => (i, a.eval x)) = some cells' ∧ All2 (LRel V) cs' cells'.toList
  | [], cs, cs', cells, h, hr => by simp only [partsOf, Option.some.injEq] at h; subst h; exact ⟨cells, rfl, hr⟩
  | (i, x) :: parts, cs, cs', cells, h, hr => by
    simp only [partsOf] at h
    have hlen := hr.length
    have go : ∀ (vs : List CV) (off size : Nat) (ws : List Value), flds[i]? = some (off, size) → (a.eval x).cells = ws.toArray → All2 (LRel V) vs ws → size = vs.length → off + vs.length ≤ cs.length →
        partsOf σ T flds parts (splice cs off vs) = some cs' → ∃ cells', Instr.fill (flds.toArray[·]?) cells (((i, x) :: parts).map fun (i, x) => (i, a.eval x)) = some cells' ∧ All2 (LRel V) cs' cells'.toList := by
      intro vs off size ws hf hc hvs hs hle hp
      have hl2 := hvs.length
      have hfo := foldl_cells ws 0 off cells (by simp at hlen; omega)
      obtain ⟨cells', h1, h2⟩ := fill_rel hav parts (splice cs off vs) cs' (ws.toArray.zipIdx.foldl (fun cs (p : Value × Nat) => cs.setIfInBounds (off + p.2) p.1) cells) hp (by
        have e : (ws.toArray.zipIdx.foldl (fun cs (p : Value × Nat) => cs.setIfInBounds (off + p.2) p.1) cells).toList = cells.toList.take off ++ ws ++ cells.toList.drop (off + ws.length) := by
          rw [← Array.foldl_toList]
          simpa using hfo
        rw [e, splice, hl2]
        exact ((hr.take off).append hvs).append (hr.drop _))
      refine ⟨cells', ?_, h2⟩
      have hc2 : (a.eval x).cells.size = size := by rw [hc]; simp; omega
      have hb : ¬ off + size > cells.size := by simp at hlen; omega
      simp only [List.map_cons, Instr.fill]
      rw [show flds.toArray[i]? = some (off, size) by simpa using hf]
      simp only [hc2, ne_eq, not_true_eq_false, false_or]
      rw [if_neg (by simpa [hc2] using hb)]
      rw [hc]
      exact h1
    split at h
    · rename_i off size hf
      have hx := hav x
      split at h
      · rename_i c hc
        rw [hc] at hx
        cases hb : (Nat.beq size 1 && Nat.blt off cs.length) with
        | false => simp [hb] at h
        | true =>
          simp only [hb, cond_true] at h
          rw [Bool.and_eq_true] at hb
          have h1 := (beq_iff _ _).1 hb.1
          have h2 : off + 1 ≤ cs.length := Nat.le_of_ble_eq_true hb.2
          exact go [c] off size [a.eval x] hf (lrel_cells hx) ⟨hx, trivial⟩ h1 h2 h
      · rename_i vs hc
        rw [hc] at hx
        obtain ⟨ws, e, hx⟩ := hx
        cases hb : (Nat.beq size vs.length && Nat.ble (off + vs.length) cs.length) with
        | false => simp [hb] at h
        | true =>
          simp only [hb, cond_true] at h
          rw [Bool.and_eq_true] at hb
          have h1 := (beq_iff _ _).1 hb.1
          have h2 := Nat.le_of_ble_eq_true hb.2
          exact go vs off size ws hf (by rw [e]; rfl) hx h1 h2 h
      · cases h
    · cases h

theorem pure_build (hT : TabOk P T) (h : St V0 w0 σ a w ρ β) {o : Oper} {t : TypeId} {parts : Array (Nat × Operand)} (ho : o.op = .build t parts) {c : Cls} {z : AV}
    (he : pureOp T σ o (fun c v => some (c, v)) = some (c, z)) : PV P o V0 w0 σ a w ρ β z := by
  simp only [pureOp, ho] at he
  split at he
  · rename_i r hr
    obtain ⟨rfl, hr'⟩ := hT t r hr
    split at he
    · rename_i u hty
      split at he
      · rename_i cs hcs
        simp only [Option.some.injEq, Prod.mk.injEq] at he
        obtain ⟨_, rfl⟩ := he
        have hd := hr'.desc
        rw [hty] at hd
        obtain ⟨fs, hu, hm, _⟩ := hd
        obtain ⟨i, zz, hi, hsz, _, hz, hrel, _⟩ := hr'.info
        have hz2 := rel_flat (hrel (St.V V0 w0 σ w ρ β))
        rw [hty] at hz2
        obtain ⟨cells', h1, h2⟩ := fill_rel (V := St.V V0 w0 σ w ρ β) h.av parts.toList _ cs zz.cells hcs hz2
        have hb : P.built r.id (parts.map fun (i, x) => (i, a.eval x)).toList = some cells' := by
          simp only [Program.built, hi, hu, hz, hm, Array.toList_map]
          exact h1
        refine PV.same (v := .agg cells') ?_ ⟨cells'.toList, by simp, h2⟩
        have := run_build w r.id _ _ hb
        simp only [execOp, ho, Sem.run_bind, this, Result.andThen_ok, Sem.run_pure]
      · cases he
    · cases he
  · cases he

/-- Every operation that changes no table. -/
theorem pure_sound (hV0 : ∀ ad v, V0 ad v → w0.cell? ad = some v) (hT : TabOk P T) (h : St V0 w0 σ a w ρ β) {o : Oper} {c : Cls} {z : AV}
    (he : pureOp T σ o (fun c v => some (c, v)) = some (c, z)) : PV P o V0 w0 σ a w ρ β z := by
  have he0 := he
  unfold pureOp at he
  split at he <;> rename_i ho <;> try (cases he; done)
  all_goals clear he
  · exact pure_move h (.inl ho) he0
  · exact pure_move h (.inr ho) he0
  · exact pure_pick h ho he0
  · exact pure_load hV0 hT h ho he0
  · exact pure_bin hT h ho he0
  · exact pure_un h ho he0
  · exact pure_convert hV0 hT h ho he0
  · exact pure_fieldAddr hT h ho he0
  · exact pure_indexAddr hT h ho he0
  · exact pure_index hT h ho he0
  · exact pure_extract h ho he0
  · exact pure_slice hT h ho he0
  · exact pure_slice3 hT h ho he0
  · exact pure_build hT h ho he0
  · exact pure_len hT h ho he0
  · exact pure_max h ho he0
  · exact pure_min h ho he0
end
end Go.Abs
set_option linter.unusedVariables false
set_option linter.unusedSimpArgs false
namespace Go.Abs
open Go.RowKit Go.Lib

theorem mapR_rel {R S : RV → Value → Prop} {f : RV → RV} (hf : ∀ x v, R x v → S (f x) v) : ∀ {xs : List RV} {ys : List Value}, All2 R xs ys → All2 S (xs.map f) ys
  | [], [], _ => trivial
  | _ :: _, _ :: _, h => ⟨hf _ _ h.1, mapR_rel hf h.2⟩
  | [], _ :: _, h => h.elim
  | _ :: _, [], h => h.elim

section
variable {V0 : View} {w0 w w' : World} {σ : AS} {a : Act} {ρ : Nat → Value} {β : Nat → Nat}

/-- A state with fewer rows and boxes, and slots that know less. -/
theorem St.less (h : St V0 w0 σ a w ρ β) {σ' : AS} (hr : ∀ r row, look σ'.rows r = some row → look σ.rows r = some row) (hb : ∀ b cs, look σ'.boxes b = some cs → look σ.boxes b = some cs)
    (hs : SRel (AvRel (St.V V0 w0 σ' w ρ β) σ'.rows σ'.boxes ρ β) σ'.tmps a.tmps.toList) : St V0 w0 σ' a w ρ β := by
  have hr' : ∀ r, (look σ'.rows r).isSome = true → (look σ.rows r).isSome = true := fun r h1 => by
    obtain ⟨row, h2⟩ := Option.isSome_iff_exists.1 h1
    simp [hr r row h2]
  have hb' : ∀ b, (look σ'.boxes b).isSome = true → (look σ.boxes b).isSome = true := fun r h1 => by
    obtain ⟨row, h2⟩ := Option.isSome_iff_exists.1 h1
    simp [hb r row h2]
  have hV : ∀ ad v, St.V V0 w0 σ w ρ β ad v → St.V V0 w0 σ' w ρ β ad v := fun ad v hv =>
    view_mono (fun k _ _ hn => ⟨fun hh => hn (hh.elim (fun ⟨r, h1, h2⟩ => .inl ⟨r, hr' r h1, h2⟩) (fun ⟨b, h1, h2⟩ => .inr ⟨b, hb' b h1, h2⟩)), rfl⟩) hv
  exact ⟨h.below, h.defers, hs, fun r row h1 => (h.rows r row (hr r row h1)).mono hV (fun _ _ => rfl),
    fun b cs h1 => ⟨(h.boxes b cs (hb b cs h1)).1, (h.boxes b cs (hb b cs h1)).2.mono hV rfl⟩,
    fun r r' g hne h1 h2 => h.rr r r' g hne (hr' r h1) (hr' r' h2), fun r b g h1 h2 => h.rb r b g (hr' r h1) (hb' b h2), fun b b' hne h1 h2 => h.bb b b' hne (hb' b h1) (hb' b' h2)⟩

theorem St.lessV (h : St V0 w0 σ a w ρ β) {σ' : AS} (hr : ∀ r row, look σ'.rows r = some row → look σ.rows r = some row) (hb : ∀ b cs, look σ'.boxes b = some cs → look σ.boxes b = some cs)
    (ad : Addr) (v : Value) (hv : St.V V0 w0 σ w ρ β ad v) : St.V V0 w0 σ' w ρ β ad v := by
  refine view_mono (fun k _ _ hn => ⟨fun hh => hn ?_, rfl⟩) hv
  rcases hh with ⟨r, h1, h2⟩ | ⟨b, h1, h2⟩
  · obtain ⟨row, h3⟩ := Option.isSome_iff_exists.1 h1
    exact .inl ⟨r, by simp [hr r row h3], h2⟩
  · obtain ⟨row, h3⟩ := Option.isSome_iff_exists.1 h1
    exact .inr ⟨b, by simp [hb b row h3], h2⟩

theorem St.freeze (h : St V0 w0 σ a w ρ β) (r : Nat) : St V0 w0 (σ.freeze r) a w ρ β := by
  unfold AS.freeze
  cases hrow : look σ.rows r with
  | none => exact h
  | some row =>
    have hr : ∀ k row', look (del σ.rows r) k = some row' → look σ.rows k = some row' := fun k row' h1 => by
      rw [look_del] at h1; split at h1
      · cases h1
      · exact h1
    have hV := h.lessV (σ' := { σ with tmps := σ.tmps.map (AV.thaw r ⟨.slice row.t, row.xs⟩), rows := del σ.rows r }) hr (fun _ _ h => h)
    obtain ⟨yss, ⟨e1, e2⟩, hall⟩ := h.rows r row hrow
    have hcv : LRel (St.V V0 w0 { σ with tmps := σ.tmps.map (AV.thaw r ⟨.slice row.t, row.xs⟩), rows := del σ.rows r } w ρ β) ⟨.slice row.t, row.xs⟩ (ρ r) := by
      rcases e2 with ⟨e2, e3⟩ | ⟨g, cap, cur, e2, hB, hg, hn, hm, hcs, htake⟩
      · have hx : row.xs = [] := List.eq_nil_of_length_eq_zero e3
        rw [e2, hx]
        exact ⟨none, 0, [], rfl, Nat.le_refl _, trivial, fun _ => rfl, fun j u hj => by simp at hj⟩
      · rw [e2]
        refine ⟨some ⟨g, 0, none⟩, cap, yss, rfl, hn, hall.mono (Rel.mono hV _), (fun e => by cases e), fun j u hj => ⟨_, rfl, ?_⟩⟩
        rw [addr0]
        refine .inr ⟨hB, ?_, ?_⟩
        · rintro (⟨r', h1, h2⟩ | ⟨b, h1, h2⟩)
          · rw [look_del] at h1
            split at h1
            · cases h1
            · rename_i hne
              exact h.rr r r' g hne (by simp [hrow]) h1 (by rw [e2]; rfl) h2
          · exact h.rb r b g (by simp [hrow]) h1 (by rw [e2]; rfl) h2
        · rw [cell_of_row w g j cur row.e (0, 0) hg]
          rw [← htake] at hj
          simpa using take_get hj
    have hrv : ∀ x v, RvRel (St.V V0 w0 σ w ρ β) σ.rows ρ x v → RvRel (St.V V0 w0 { σ with tmps := σ.tmps.map (AV.thaw r ⟨.slice row.t, row.xs⟩), rows := del σ.rows r } w ρ β) (del σ.rows r) ρ (x.thaw r ⟨.slice row.t, row.xs⟩) v := by
      intro x v hx
      cases x with
      | cv c => exact LRel.mono hV c v hx
      | agg cs => obtain ⟨vs, h1, h2⟩ := hx; exact ⟨vs, h1, h2.mono (LRel.mono hV)⟩
      | own k =>
        obtain ⟨h1, h2⟩ := hx
        simp only [RV.thaw]
        cases hk : Nat.beq k r with
        | true =>
          have := (beq_iff _ _).1 hk; subst this
          rw [h1]; exact hcv
        | false =>
          have hne := beq_ff.1 hk
          exact ⟨h1, by rw [look_del, if_neg (Ne.symm hne)]; exact h2⟩
    refine h.less hr (fun _ _ h => h) (map_rel ?_ h.slots)
    intro x v hx
    cases x with
    | rv x => exact hrv x v hx
    | lit u => exact hx
    | box b off => exact hx
    | oel k sz i off =>
      simp only [AV.thaw]
      cases hk : Nat.beq k r with
      | true => trivial
      | false =>
        have hne := beq_ff.1 hk
        obtain ⟨row', g, h1, h2⟩ := hx
        exact ⟨row', g, by show look (del σ.rows r) k = _; rw [look_del, if_neg (Ne.symm hne)]; exact h1, h2⟩
    | vel cs => obtain ⟨ad, vs, h1, h2, h3⟩ := hx; exact ⟨ad, vs, h1, h2.mono (LRel.mono hV), fun j u hj => hV _ _ (h3 j u hj)⟩
    | tup l => obtain ⟨vs, h1, h2⟩ := hx; exact ⟨vs, h1, mapR_rel hrv h2⟩
    | nil => trivial

theorem St.frz (h : St V0 w0 σ a w ρ β) (x : Operand) : St V0 w0 (σ.frz x) a w ρ β := by
  unfold AS.frz
  split
  · exact h.freeze _
  · exact h

theorem St.frzs (h : St V0 w0 σ a w ρ β) : ∀ xs, St V0 w0 (σ.frzs xs) a w ρ β := by
  intro xs
  induction xs generalizing σ with
  | nil => exact h
  | cons x xs ih => exact ih (h.frz x)

/-- The slots of a state that lost a row. -/
theorem lose_rel {V V' : View} {rows rows' : List (Nat × Row)} {boxes : List (Nat × List CV)} {r : Nat} (hV : ∀ a v, V a v → V' a v) (hr : ∀ k, k ≠ r → look rows' k = look rows k) (x : AV) (v : Value)
    (hx : AvRel V rows boxes ρ β x v) : AvRel V' rows' boxes ρ β (x.loseRow r) v := by
  cases x with
  | rv x =>
    cases x with
    | cv c => exact LRel.mono hV c v hx
    | agg cs => obtain ⟨vs, h1, h2⟩ := hx; exact ⟨vs, h1, h2.mono (LRel.mono hV)⟩
    | own k =>
      simp only [AV.loseRow]
      cases hk : Nat.beq k r with
      | true => trivial
      | false => exact ⟨hx.1, by rw [hr k (beq_ff.1 hk)]; exact hx.2⟩
  | lit u => exact hx
  | box b off => exact hx
  | oel k sz i off =>
    simp only [AV.loseRow]
    cases hk : Nat.beq k r with
    | true => trivial
    | false => obtain ⟨row', g, h1, h2⟩ := hx; exact ⟨row', g, by rw [hr k (beq_ff.1 hk)]; exact h1, h2⟩
  | vel cs => obtain ⟨ad, vs, h1, h2, h3⟩ := hx; exact ⟨ad, vs, h1, h2.mono (LRel.mono hV), fun j u hj => hV _ _ (h3 j u hj)⟩
  | tup l =>
    simp only [AV.loseRow]
    cases hk : l.any (RV.lose r) with
    | true => trivial
    | false =>
      obtain ⟨vs, h1, h2⟩ := hx
      refine ⟨vs, h1, ?_⟩
      clear h1
      induction l generalizing vs with
      | nil => cases vs with
        | nil => trivial
        | cons _ _ => exact h2.elim
      | cons y ys ih =>
        cases vs with
        | nil => exact h2.elim
        | cons u us =>
          simp only [List.any_cons, Bool.or_eq_false_iff] at hk
          refine ⟨?_, ih hk.2 us h2.2⟩
          cases y with
          | cv c => exact LRel.mono hV c u h2.1
          | agg cs => obtain ⟨vs', h3, h4⟩ := h2.1; exact ⟨vs', h3, h4.mono (LRel.mono hV)⟩
          | own k => exact ⟨h2.1.1, by rw [hr k (beq_ff.1 hk.1)]; exact h2.1.2⟩
  | nil => trivial

theorem St.loseRow (h : St V0 w0 σ a w ρ β) (r : Nat) : St V0 w0 (σ.loseRow r) a w ρ β := by
  have hr : ∀ k row', look (del σ.rows r) k = some row' → look σ.rows k = some row' := fun k row' h1 => by
    rw [look_del] at h1; split at h1
    · cases h1
    · exact h1
  have hV := h.lessV (σ' := σ.loseRow r) hr (fun _ _ h => h)
  exact h.less (σ' := σ.loseRow r) hr (fun _ _ h => h) (map_rel (lose_rel hV (fun k hk => by show look (del σ.rows r) k = _; rw [look_del, if_neg (Ne.symm hk)])) h.slots)

theorem St.loseBox (h : St V0 w0 σ a w ρ β) (d : Nat) : St V0 w0 (σ.loseBox d) a w ρ β := by
  have hb : ∀ k cs, look (del σ.boxes d) k = some cs → look σ.boxes k = some cs := fun k row' h1 => by
    rw [look_del] at h1; split at h1
    · cases h1
    · exact h1
  have hV := h.lessV (σ' := σ.loseBox d) (fun _ _ h => h) hb
  refine h.less (fun _ _ h => h) hb (map_rel ?_ h.slots)
  intro x v hx
  cases x with
  | rv x => exact RvRel.mono hV (fun r hr => ⟨hr, rfl⟩) x v hx
  | lit u => exact hx
  | box b off =>
    simp only [AV.loseBox]
    cases hk : Nat.beq b d with
    | true => trivial
    | false => exact ⟨hx.1, by show (look (del σ.boxes d) b).isSome = true; rw [look_del, if_neg (Ne.symm (beq_ff.1 hk))]; exact hx.2⟩
  | oel k sz i off => exact hx
  | vel cs => obtain ⟨ad, vs, h1, h2, h3⟩ := hx; exact ⟨ad, vs, h1, h2.mono (LRel.mono hV), fun j u hj => hV _ _ (h3 j u hj)⟩
  | tup l => obtain ⟨vs, h1, h2⟩ := hx; exact ⟨vs, h1, h2.mono (RvRel.mono hV (fun r hr => ⟨hr, rfl⟩))⟩
  | nil => trivial

def upd {α : Type} (f : Nat → α) (d : Nat) (v : α) : Nat → α := fun k => if k = d then v else f k

theorem St.rename (h : St V0 w0 σ a w ρ β) {r d : Nat} (hd : look σ.rows d = none) : ∃ ρ', St V0 w0 (σ.rename r d) a w ρ' β ∧ ((look σ.rows r).isSome = true → ρ' d = ρ r ∧ (look (σ.rename r d).rows d).isSome = true) := by
  unfold AS.rename
  cases hrow : look σ.rows r with
  | none => exact ⟨ρ, h, by simp⟩
  | some row =>
    have hrd : r ≠ d := fun e => by rw [e, hd] at hrow; cases hrow
    have hlook : ∀ k, look (put (del σ.rows r) d row) k = if d = k then some row else if r = k then none else look σ.rows k := fun k => by rw [look_put, look_del]
    -- where a key of the new table comes from
    have hback : ∀ k row', look (put (del σ.rows r) d row) k = some row' → ∃ k', look σ.rows k' = some row' ∧ upd ρ d (ρ r) k = ρ k' ∧ k' = (if k = d then r else k) := fun k row' h1 => by
      rw [hlook] at h1
      by_cases hk : d = k
      · subst hk; simp at h1; subst h1; exact ⟨r, hrow, by simp [upd], by simp⟩
      · rw [if_neg hk] at h1
        by_cases hk2 : r = k
        · simp [hk2] at h1
        · rw [if_neg hk2] at h1; exact ⟨k, h1, by simp [upd, Ne.symm hk], by simp [Ne.symm hk]⟩
    have hback' : ∀ k, (look (put (del σ.rows r) d row) k).isSome = true → ∃ k', (look σ.rows k').isSome = true ∧ upd ρ d (ρ r) k = ρ k' ∧ k' = (if k = d then r else k) ∧ k ≠ r := fun k h1 => by
      obtain ⟨row', h2⟩ := Option.isSome_iff_exists.1 h1
      obtain ⟨k', h3, h4, h5⟩ := hback k row' h2
      refine ⟨k', by simp [h3], h4, h5, fun e => ?_⟩
      rw [e, hlook, if_neg (Ne.symm hrd)] at h2
      simp at h2
    have hV : ∀ ad v, St.V V0 w0 σ w ρ β ad v → view V0 w0.heap.size (Hid (put (del σ.rows r) d row) σ.boxes (upd ρ d (ρ r)) β) w ad v := fun ad v hv =>
      view_mono (fun k _ _ hn => ⟨fun hh => hn (hh.elim (fun ⟨k', h1, h2⟩ => by
        obtain ⟨k2, h3, h4, _⟩ := hback' k' h1
        exact .inl ⟨k2, h3, by rw [← h4]; exact h2⟩) .inr), rfl⟩) hv
    have hfwd : ∀ k row', look σ.rows k = some row' → look (put (del σ.rows r) d row) (bif Nat.beq k r then d else k) = some row' ∧ upd ρ d (ρ r) (bif Nat.beq k r then d else k) = ρ k := fun k row' h1 => by
      cases hk : Nat.beq k r with
      | true =>
        have := (beq_iff _ _).1 hk; subst this
        rw [hrow] at h1
        simp only [cond_true]
        exact ⟨by rw [hlook, if_pos rfl]; exact h1, by simp [upd]⟩
      | false =>
        have hne := beq_ff.1 hk
        simp only [cond_false]
        have hkd : d ≠ k := fun e => by rw [← e, hd] at h1; cases h1
        exact ⟨by rw [hlook, if_neg hkd, if_neg (Ne.symm hne)]; exact h1, by simp [upd, Ne.symm hkd]⟩
    have hrv : ∀ x v, RvRel (St.V V0 w0 σ w ρ β) σ.rows ρ x v → RvRel (view V0 w0.heap.size (Hid (put (del σ.rows r) d row) σ.boxes (upd ρ d (ρ r)) β) w) (put (del σ.rows r) d row) (upd ρ d (ρ r)) (x.ren r d) v := by
      intro x v hx
      cases x with
      | cv c => exact LRel.mono hV c v hx
      | agg cs => obtain ⟨vs, h1, h2⟩ := hx; exact ⟨vs, h1, h2.mono (LRel.mono hV)⟩
      | own k =>
        obtain ⟨row', h1⟩ := Option.isSome_iff_exists.1 hx.2
        obtain ⟨h2, h3⟩ := hfwd k row' h1
        exact ⟨by rw [h3]; exact hx.1, by rw [h2]; rfl⟩
    refine ⟨upd ρ d (ρ r), ⟨h.below, h.defers, map_rel ?_ h.slots, ?_, ?_, ?_, ?_, ?_⟩, fun _ => ⟨by simp [upd], by show (look (put (del σ.rows r) d row) d).isSome = true; rw [hlook, if_pos rfl]; rfl⟩⟩
    · intro x v hx
      cases x with
      | rv x => exact hrv x v hx
      | lit u => exact hx
      | box b off => exact hx
      | oel k sz i off =>
        obtain ⟨row', g, h1, h2, h3⟩ := hx
        obtain ⟨h4, h5⟩ := hfwd k row' h1
        exact ⟨row', g, h4, by rw [h5]; exact h2, h3⟩
      | vel cs => obtain ⟨ad, vs, h1, h2, h3⟩ := hx; exact ⟨ad, vs, h1, h2.mono (LRel.mono hV), fun j u hj => hV _ _ (h3 j u hj)⟩
      | tup l => obtain ⟨vs, h1, h2⟩ := hx; exact ⟨vs, h1, mapR_rel hrv h2⟩
      | nil => trivial
    · intro k row' h1
      obtain ⟨k', h2, h3, _⟩ := hback k row' h1
      rw [h3]
      exact (h.rows k' row' h2).mono hV (fun _ _ => rfl)
    · intro b cs h1
      exact ⟨(h.boxes b cs h1).1, (h.boxes b cs h1).2.mono hV rfl⟩
    · intro k k2 g hne h1 h2 h3
      obtain ⟨k', h4, h5, h6, h7⟩ := hback' k h1
      obtain ⟨k2', h8, h9, h10, h11⟩ := hback' k2 h2
      rw [h9]; rw [h5] at h3
      refine h.rr k' k2' g ?_ h4 h8 h3
      rw [h6, h10]
      by_cases e1 : k = d <;> by_cases e2 : k2 = d <;> simp [e1, e2]
      · exact absurd (e1.trans e2.symm) hne
      · exact fun e => h11 e.symm
      · exact h7
      · exact hne
    · intro k b g h1 h2 h3
      obtain ⟨k', h4, h5, _⟩ := hback' k h1
      rw [h5] at h3
      exact h.rb k' b g h4 h2 h3
    · exact h.bb

end
end Go.Abs
set_option linter.unusedVariables false
set_option linter.unusedSimpArgs false
namespace Go.Abs
open Go.RowKit Go.Lib

section
variable {V0 : View} {w0 w w' : World} {σ : AS} {a : Act} {ρ : Nat → Value} {β : Nat → Nat}

theorem St.hidB (h : St V0 w0 σ a w ρ β) {k : Nat} (hk : Hid σ.rows σ.boxes ρ β k) : w0.heap.size ≤ k ∧ k < w.heap.size := by
  rcases hk with ⟨r, h1, h2⟩ | ⟨b, h1, h2⟩
  · obtain ⟨row, h3⟩ := Option.isSome_iff_exists.1 h1
    exact (h.rows r row h3).block h2
  · obtain ⟨cs, h3⟩ := Option.isSome_iff_exists.1 h1
    subst h2
    exact ⟨(h.boxes b cs h3).1, (h.boxes b cs h3).2.block⟩

theorem St.grownBelow (h : St V0 w0 σ a w ρ β) {G : Option Nat} (hg : w.grownBy w' G) (hG : ∀ g, G = some g → Hid σ.rows σ.boxes ρ β g) : Below w0.heap.size w0 w' :=
  h.below.trans ⟨hg.os, hg.tape, hg.output, hg.size, fun k hk => hg.block k (Nat.lt_of_lt_of_le hk h.below.size) (fun e => by have := (h.hidB (hG k e.symm)).1; omega)⟩

theorem isSome_of {α : Type} {o : Option α} {x : α} (h : o = some x) : o.isSome = true := by simp [h]

theorem St.addRow (h : St V0 w0 σ a w ρ β) {d : Nat} {rows1 : List (Nat × Row)} {tmps1 : Slots} {G : Option Nat} {v' : Value} {row' : Row}
    (hr1 : ∀ k row, look rows1 k = some row → look σ.rows k = some row)
    (ht1 : SRel (AvRel (St.V V0 w0 σ w ρ β) rows1 σ.boxes ρ β) tmps1 a.tmps.toList)
    (hd : look rows1 d = none) (hg : w.grownBy w' G)
    (hG : ∀ g, G = some g → Hid σ.rows σ.boxes ρ β g ∧ (∀ k, (look rows1 k).isSome = true → (ρ k).ownBlock ≠ some g) ∧ (∀ b, (look σ.boxes b).isSome = true → β b ≠ g))
    (hnew : ∀ k, v'.ownBlock = some k → G = some k ∨ w.heap.size ≤ k)
    (hrow : ∃ yss : List (List Value), w'.ownsRow w0.heap.size row'.e row'.t.size v' row'.xs.length yss.flatten ∧ All2 (Rel (St.V V0 w0 σ w ρ β) row'.t) row'.xs yss) :
    St V0 w0 ⟨setN tmps1 d (.rv (.own d)), put rows1 d row', σ.boxes⟩ (a.put (some d) v') w' (upd ρ d v') β := by
  have hlook : ∀ k, look (put rows1 d row') k = if d = k then some row' else look rows1 k := fun k => look_put _ _ _ _
  have hr1' : ∀ k, (look rows1 k).isSome = true → (look σ.rows k).isSome = true := fun k h1 => by
    obtain ⟨row, h2⟩ := Option.isSome_iff_exists.1 h1
    exact isSome_of (hr1 k row h2)
  have hkeep : ∀ k, (look rows1 k).isSome = true → upd ρ d v' k = ρ k ∧ d ≠ k := fun k h1 => by
    have : d ≠ k := fun e => by rw [← e, hd] at h1; cases h1
    exact ⟨by simp [upd, Ne.symm this], this⟩
  have hV : ∀ ad v, St.V V0 w0 σ w ρ β ad v → view V0 w0.heap.size (Hid (put rows1 d row') σ.boxes (upd ρ d v') β) w' ad v := fun ad v hv => by
    refine view_mono (fun k hB hk hn => ⟨?_, ?_⟩) hv
    · rintro (⟨r, h1, h2⟩ | ⟨b, h1, h2⟩)
      · by_cases hrd : d = r
        · subst hrd
          rw [show upd ρ d v' d = v' by simp [upd]] at h2
          rcases hnew k h2 with h3 | h3
          · exact hn (hG k h3).1
          · omega
        · rw [hlook, if_neg hrd] at h1
          rw [(hkeep r h1).1] at h2
          exact hn (.inl ⟨r, hr1' r h1, h2⟩)
      · exact hn (.inr ⟨b, h1, h2⟩)
    · exact hg.block k hk (fun e => hn (hG k e.symm).1)
  have hold : ∀ r row, look rows1 r = some row → RowRel (view V0 w0.heap.size (Hid (put rows1 d row') σ.boxes (upd ρ d v') β) w') w' w0.heap.size (ρ r) row := fun r row h1 =>
    (h.rows r row (hr1 r row h1)).mono hV (fun k hk => hg.block k ((h.rows r row (hr1 r row h1)).block hk).2 (fun e => (hG k e.symm).2.1 r (isSome_of h1) hk))
  -- the new row's block is nobody else's
  have hother : ∀ k g, (look rows1 k).isSome = true → v'.ownBlock = some g → (ρ k).ownBlock ≠ some g := fun k g h1 h2 h3 => by
    rcases hnew g h2 with h4 | h4
    · exact (hG g h4).2.1 k h1 h3
    · have := (h.hidB (.inl ⟨k, hr1' k h1, h3⟩)).2; omega
  refine ⟨h.grownBelow hg (fun g e => (hG g e).1), by rw [put_defers']; exact h.defers, ?_, ?_, ?_, ?_, ?_, h.bb⟩
  · have h1 := ht1.mono (AvRel.mono (V' := view V0 w0.heap.size (Hid (put rows1 d row') σ.boxes (upd ρ d v') β) w') (rows' := put rows1 d row') (boxes' := σ.boxes) (ρ' := upd ρ d v') (β' := β) hV
      (fun r row h1 => ⟨(hkeep r (isSome_of h1)).1, row, by rw [hlook, if_neg (hkeep r (isSome_of h1)).2]; exact h1, rfl⟩) (fun b hb => ⟨hb, rfl⟩))
    have h2 := setN_rel (i := d) (x := .rv (.own d)) (y := v') h1 ⟨by simp [upd], by rw [hlook, if_pos rfl]; rfl⟩
    simpa [Act.put] using h2
  · intro r row h1
    have h1' : look (put rows1 d row') r = some row := h1
    rw [hlook] at h1'
    by_cases hrd : d = r
    · subst hrd
      rw [if_pos rfl] at h1'
      obtain rfl : row' = row := by simpa using h1'
      obtain ⟨yss, h2, h3⟩ := hrow
      rw [show upd ρ d v' d = v' by simp [upd]]
      exact ⟨yss, h2, h3.mono (Rel.mono hV _)⟩
    · rw [if_neg hrd] at h1'
      rw [(hkeep r (isSome_of h1')).1]
      exact hold r row h1'
  · intro b cs h1
    exact ⟨(h.boxes b cs h1).1, (h.boxes b cs h1).2.mono hV (hg.block _ (h.boxes b cs h1).2.block (fun e => (hG _ e.symm).2.2 b (isSome_of h1) rfl))⟩
  · intro r r' g hne h1 h2 h3
    have h1' : (look (put rows1 d row') r).isSome = true := h1
    have h2' : (look (put rows1 d row') r').isSome = true := h2
    rw [hlook] at h1' h2'
    by_cases e1 : d = r
    · subst e1
      rw [if_neg hne] at h2'
      rw [show upd ρ d v' d = v' by simp [upd]] at h3
      rw [(hkeep r' h2').1]
      exact hother r' g h2' h3
    · rw [if_neg e1] at h1'
      rw [(hkeep r h1').1] at h3
      by_cases e2 : d = r'
      · subst e2
        rw [show upd ρ d v' d = v' by simp [upd]]
        exact fun h4 => hother r g h1' h4 h3
      · rw [if_neg e2] at h2'
        rw [(hkeep r' h2').1]
        exact h.rr r r' g hne (hr1' r h1') (hr1' r' h2') h3
  · intro r b g h1 h2 h3
    have h1' : (look (put rows1 d row') r).isSome = true := h1
    rw [hlook] at h1'
    by_cases e1 : d = r
    · subst e1
      rw [show upd ρ d v' d = v' by simp [upd]] at h3
      intro e
      rcases hnew g h3 with h4 | h4
      · exact (hG g h4).2.2 b h2 e
      · have := (h.hidB (.inr ⟨b, h2, e⟩)).2; omega
    · rw [if_neg e1] at h1'
      rw [(hkeep r h1').1] at h3
      exact h.rb r b g (hr1' r h1') h2 h3

theorem St.addBox (h : St V0 w0 σ a w ρ β) {d : Nat} {cur : Array Value} {e : TypeId} {cs : List CV} (hd : look σ.boxes d = none) (hcs : All2 (LRel (St.V V0 w0 σ w ρ β)) cs cur.toList) :
    St V0 w0 ⟨setN σ.tmps d (.box d 0), σ.rows, put σ.boxes d cs⟩ (a.put (some d) (.pointer (some ⟨w.heap.size, 0, none⟩))) (w.alloc (.cells cur e)) ρ (upd β d w.heap.size) := by
  have hlook : ∀ k, look (put σ.boxes d cs) k = if d = k then some cs else look σ.boxes k := fun k => look_put _ _ _ _
  have hold : ∀ k, k < w.heap.size → (w.alloc (.cells cur e)).heap[k]? = w.heap[k]? := fun k hk => heap_alloc_old w _ k hk
  have hkeep : ∀ k, (look σ.boxes k).isSome = true → upd β d w.heap.size k = β k ∧ d ≠ k := fun k h1 => by
    have : d ≠ k := fun e => by rw [← e, hd] at h1; cases h1
    exact ⟨by simp [upd, Ne.symm this], this⟩
  have hb : Below w.heap.size w (w.alloc (.cells cur e)) := ⟨rfl, rfl, rfl, by simp, hold⟩
  have hV : ∀ ad v, St.V V0 w0 σ w ρ β ad v → view V0 w0.heap.size (Hid σ.rows (put σ.boxes d cs) ρ (upd β d w.heap.size)) (w.alloc (.cells cur e)) ad v := fun ad v hv => by
    refine view_mono (fun k hB hk hn => ⟨?_, hold k hk⟩) hv
    rintro (hr | ⟨b, h1, h2⟩)
    · exact hn (.inl hr)
    · rw [hlook] at h1
      by_cases hbd : d = b
      · subst hbd
        simp [upd] at h2; omega
      · rw [if_neg hbd] at h1
        rw [(hkeep b h1).1] at h2
        exact hn (.inr ⟨b, h1, h2⟩)
  refine ⟨h.below.trans (hb.mono h.below.size), by rw [put_defers']; exact h.defers, ?_, ?_, ?_, h.rr, ?_, ?_⟩
  · have h1 := h.slots.mono (AvRel.mono (V' := view V0 w0.heap.size (Hid σ.rows (put σ.boxes d cs) ρ (upd β d w.heap.size)) (w.alloc (.cells cur e))) (rows' := σ.rows) (boxes' := put σ.boxes d cs) (ρ' := ρ) (β' := upd β d w.heap.size) hV
      (fun r row h1 => ⟨rfl, row, h1, rfl⟩) (fun b hb => ⟨by rw [hlook, if_neg (hkeep b hb).2]; exact hb, (hkeep b hb).1⟩))
    have h2 := setN_rel (i := d) (x := .box d 0) (y := .pointer (some ⟨w.heap.size, 0, none⟩)) h1 ⟨by simp [upd], by rw [hlook, if_pos rfl]; rfl⟩
    simpa [Act.put] using h2
  · intro r row h1
    exact (h.rows r row h1).mono hV (fun k hk => hold k ((h.rows r row h1).block hk).2)
  · intro b cs' h1
    have h1' : look (put σ.boxes d cs) b = some cs' := h1
    rw [hlook] at h1'
    by_cases hbd : d = b
    · subst hbd
      rw [if_pos rfl] at h1'
      obtain rfl : cs = cs' := by simpa using h1'
      rw [show upd β d w.heap.size d = w.heap.size by simp [upd]]
      exact ⟨h.below.size, cur, e, heap_alloc_new w _, hcs.mono (LRel.mono hV)⟩
    · rw [if_neg hbd] at h1'
      rw [(hkeep b (isSome_of h1')).1]
      exact ⟨(h.boxes b cs' h1').1, (h.boxes b cs' h1').2.mono hV (hold _ (h.boxes b cs' h1').2.block)⟩
  · intro r b g h1 h2 h3
    have h2' : (look (put σ.boxes d cs) b).isSome = true := h2
    rw [hlook] at h2'
    by_cases hbd : d = b
    · subst hbd
      rw [show upd β d w.heap.size d = w.heap.size by simp [upd]]
      intro e'
      have := (h.hidB (.inl ⟨r, h1, h3⟩)).2; omega
    · rw [if_neg hbd] at h2'
      rw [(hkeep b h2').1]
      exact h.rb r b g h1 h2' h3
  · intro b b' hne h1 h2
    have h1' : (look (put σ.boxes d cs) b).isSome = true := h1
    have h2' : (look (put σ.boxes d cs) b').isSome = true := h2
    rw [hlook] at h1' h2'
    by_cases e1 : d = b
    · subst e1
      rw [if_neg hne] at h2'
      rw [show upd β d w.heap.size d = w.heap.size by simp [upd], (hkeep b' h2').1]
      intro e'
      have := (h.hidB (.inr ⟨b', h2', e'.symm⟩)).2; omega
    · rw [if_neg e1] at h1'
      by_cases e2 : d = b'
      · subst e2
        rw [show upd β d w.heap.size d = w.heap.size by simp [upd], (hkeep b h1').1]
        intro e'
        have := (h.hidB (.inr ⟨b, h1', e'⟩)).2; omega
      · rw [if_neg e2] at h2'
        rw [(hkeep b h1').1, (hkeep b' h2').1]
        exact h.bb b b' hne h1' h2'

theorem St.setBox (h : St V0 w0 σ a w ρ β) {b : Nat} {cs cs' : List CV} (hb : look σ.boxes b = some cs) (hg : w.grownBy w' (some (β b))) {cur' : Array Value} {e : TypeId}
    (hn : w'.heap[β b]? = some (.cells cur' e (0, 0))) (hcs : All2 (LRel (St.V V0 w0 σ w ρ β)) cs' cur'.toList) : St V0 w0 { σ with boxes := put σ.boxes b cs' } a w' ρ β := by
  have hlook : ∀ k, look (put σ.boxes b cs') k = if b = k then some cs' else look σ.boxes k := fun k => look_put _ _ _ _
  have hsome : ∀ k, (look (put σ.boxes b cs') k).isSome = true ↔ (look σ.boxes k).isSome = true := fun k => by
    rw [hlook]; by_cases hk : b = k
    · subst hk; simp [hb]
    · simp [hk]
  have hhid : Hid σ.rows σ.boxes ρ β (β b) := .inr ⟨b, isSome_of hb, rfl⟩
  have hV : ∀ ad v, St.V V0 w0 σ w ρ β ad v → view V0 w0.heap.size (Hid σ.rows (put σ.boxes b cs') ρ β) w' ad v := fun ad v hv => by
    refine view_mono (fun k hB hk hn' => ⟨?_, hg.block k hk (fun e => hn' (by cases e; exact hhid))⟩) hv
    rintro (hr | ⟨b', h1, h2⟩)
    · exact hn' (.inl hr)
    · exact hn' (.inr ⟨b', (hsome b').1 h1, h2⟩)
  refine ⟨h.grownBelow hg (fun g e => by cases e; exact hhid), h.defers, h.slots.mono (AvRel.mono hV (fun r row h1 => ⟨rfl, row, h1, rfl⟩) (fun b' hb' => ⟨(hsome b').2 hb', rfl⟩)), ?_, ?_, h.rr, ?_, ?_⟩
  · intro r row h1
    exact (h.rows r row h1).mono hV (fun k hk => hg.block k ((h.rows r row h1).block hk).2 (fun e => by
      cases e; exact h.rb r b _ (isSome_of h1) (isSome_of hb) hk rfl))
  · intro b' cs2 h1
    have h1' : look (put σ.boxes b cs') b' = some cs2 := h1
    rw [hlook] at h1'
    by_cases hk : b = b'
    · subst hk
      rw [if_pos rfl] at h1'
      obtain rfl : cs' = cs2 := by simpa using h1'
      exact ⟨(h.boxes b cs hb).1, cur', e, hn, hcs.mono (LRel.mono hV)⟩
    · rw [if_neg hk] at h1'
      exact ⟨(h.boxes b' cs2 h1').1, (h.boxes b' cs2 h1').2.mono hV (hg.block _ (h.boxes b' cs2 h1').2.block (fun e => by
        have := h.bb b b' hk (isSome_of hb) (isSome_of h1')
        exact this (by simpa using e.symm)))⟩
  · exact fun r b' g h1 h2 h3 => h.rb r b' g h1 ((hsome b').1 h2) h3
  · exact fun b1 b2 hne h1 h2 => h.bb b1 b2 hne ((hsome b1).1 h1) ((hsome b2).1 h2)

theorem St.setRow (h : St V0 w0 σ a w ρ β) {q : Nat} {row row' : Row} (hq : look σ.rows q = some row) (hsz : row'.t.size = row.t.size) {g : Nat} (hgq : (ρ q).ownBlock = some g) (hg : w.grownBy w' (some g))
    (hrow : ∃ yss : List (List Value), w'.ownsRow w0.heap.size row'.e row'.t.size (ρ q) row'.xs.length yss.flatten ∧ All2 (Rel (St.V V0 w0 σ w ρ β) row'.t) row'.xs yss) :
    St V0 w0 { σ with rows := put σ.rows q row' } a w' ρ β := by
  have hlook : ∀ k, look (put σ.rows q row') k = if q = k then some row' else look σ.rows k := fun k => look_put _ _ _ _
  have hsome : ∀ k, (look (put σ.rows q row') k).isSome = true ↔ (look σ.rows k).isSome = true := fun k => by
    rw [hlook]; by_cases hk : q = k
    · subst hk; simp [hq]
    · simp [hk]
  have hhid : Hid σ.rows σ.boxes ρ β g := .inl ⟨q, isSome_of hq, hgq⟩
  have hV : ∀ ad v, St.V V0 w0 σ w ρ β ad v → view V0 w0.heap.size (Hid (put σ.rows q row') σ.boxes ρ β) w' ad v := fun ad v hv => by
    refine view_mono (fun k hB hk hn' => ⟨?_, hg.block k hk (fun e => hn' (by cases e; exact hhid))⟩) hv
    rintro (⟨r, h1, h2⟩ | hb)
    · exact hn' (.inl ⟨r, (hsome r).1 h1, h2⟩)
    · exact hn' (.inr hb)
  refine ⟨h.grownBelow hg (fun g' e => by cases e; exact hhid), h.defers, h.slots.mono (AvRel.mono hV ?_ (fun b' hb' => ⟨hb', rfl⟩)), ?_, ?_, ?_, ?_, h.bb⟩
  · intro r row2 h1
    refine ⟨rfl, ?_⟩
    by_cases hk : q = r
    · subst hk
      rw [hq] at h1
      obtain rfl : row = row2 := by simpa using h1
      exact ⟨row', by rw [hlook, if_pos rfl], hsz⟩
    · exact ⟨row2, by rw [hlook, if_neg hk]; exact h1, rfl⟩
  · intro r row2 h1
    have h1' : look (put σ.rows q row') r = some row2 := h1
    rw [hlook] at h1'
    by_cases hk : q = r
    · subst hk
      rw [if_pos rfl] at h1'
      obtain rfl : row' = row2 := by simpa using h1'
      obtain ⟨yss, h2, h3⟩ := hrow
      exact ⟨yss, h2, h3.mono (Rel.mono hV _)⟩
    · rw [if_neg hk] at h1'
      exact (h.rows r row2 h1').mono hV (fun k hk' => hg.block k ((h.rows r row2 h1').block hk').2 (fun e => by
        cases e
        exact h.rr q r g hk (isSome_of hq) (isSome_of h1') hgq hk'))
  · intro b cs h1
    exact ⟨(h.boxes b cs h1).1, (h.boxes b cs h1).2.mono hV (hg.block _ (h.boxes b cs h1).2.block (fun e => h.rb q b g (isSome_of hq) (isSome_of h1) hgq (by simpa using e)))⟩
  · exact fun r r' g hne h1 h2 h3 => h.rr r r' g hne ((hsome r).1 h1) ((hsome r').1 h2) h3
  · exact fun r b g h1 h2 h3 => h.rb r b g ((hsome r).1 h1) h2 h3

/-- Behind a call: the world grew, some new rows are the caller's. -/
theorem St.call (h : St V0 w0 σ a w ρ β) {rows' : List (Nat × Row)} {ρ' : Nat → Value} (hb : Below w.heap.size w w')
    (hr2 : ∀ k row, look σ.rows k = some row → look rows' k = some row ∧ ρ' k = ρ k)
    (hr : ∀ k row, look rows' k = some row → look σ.rows k = some row ∨ (look σ.rows k = none ∧ RowRel (view V0 w0.heap.size (Hid rows' σ.boxes ρ' β) w') w' w.heap.size (ρ' k) row))
    (hdis : ∀ k k' g, k ≠ k' → look σ.rows k = none → look σ.rows k' = none → (look rows' k).isSome = true → (look rows' k').isSome = true → (ρ' k).ownBlock = some g → (ρ' k').ownBlock ≠ some g) :
    St V0 w0 { σ with rows := rows' } a w' ρ' β ∧ ∀ ad v, St.V V0 w0 σ w ρ β ad v → view V0 w0.heap.size (Hid rows' σ.boxes ρ' β) w' ad v := by
  have hnew : ∀ k g, look σ.rows k = none → (look rows' k).isSome = true → (ρ' k).ownBlock = some g → w.heap.size ≤ g ∧ g < w'.heap.size := fun k g h1 h2 h3 => by
    obtain ⟨row, h4⟩ := Option.isSome_iff_exists.1 h2
    rcases hr k row h4 with h5 | ⟨_, h5⟩
    · rw [h1] at h5; cases h5
    · exact h5.block h3
  have hold : ∀ k, look σ.rows k ≠ none → ρ' k = ρ k ∧ (look σ.rows k).isSome = true := fun k h1 => by
    cases hk : look σ.rows k with
    | none => exact absurd hk h1
    | some row => exact ⟨(hr2 k row hk).2, rfl⟩
  have hV : ∀ ad v, St.V V0 w0 σ w ρ β ad v → view V0 w0.heap.size (Hid rows' σ.boxes ρ' β) w' ad v := fun ad v hv => by
    refine view_mono (fun k hB hk hn => ⟨?_, hb.block k hk⟩) hv
    rintro (⟨r, h1, h2⟩ | hbx)
    · by_cases hn0 : look σ.rows r = none
      · have := (hnew r k hn0 h1 h2).1; omega
      · obtain ⟨h3, h4⟩ := hold r hn0
        rw [h3] at h2
        exact hn (.inl ⟨r, h4, h2⟩)
    · exact hn (.inr hbx)
  refine ⟨⟨h.below.trans (hb.mono h.below.size), h.defers, h.slots.mono (AvRel.mono hV (fun r row h1 => ⟨(hr2 r row h1).2, row, (hr2 r row h1).1, rfl⟩) (fun b hb' => ⟨hb', rfl⟩)), ?_, ?_, ?_, ?_, h.bb⟩, hV⟩
  · intro r row h1
    rcases hr r row h1 with h2 | ⟨h2, h3⟩
    · rw [(hr2 r row h2).2]
      exact (h.rows r row h2).mono hV (fun k hk => hb.block k ((h.rows r row h2).block hk).2)
    · obtain ⟨yss, ⟨h4, h5⟩, h6⟩ := h3
      refine ⟨yss, ⟨h4, ?_⟩, h6⟩
      rcases h5 with h5 | ⟨g, cap, cur, h5, h7, h8⟩
      · exact .inl h5
      · exact .inr ⟨g, cap, cur, h5, Nat.le_trans h.below.size h7, h8⟩
  · intro b cs h1
    exact ⟨(h.boxes b cs h1).1, (h.boxes b cs h1).2.mono hV (hb.block _ (h.boxes b cs h1).2.block)⟩
  · intro r r' g hne h1 h2 h3
    by_cases e1 : look σ.rows r = none <;> by_cases e2 : look σ.rows r' = none
    · exact hdis r r' g hne e1 e2 h1 h2 h3
    · obtain ⟨h4, h5⟩ := hold r' e2
      rw [h4]
      intro h6
      have := (hnew r g e1 h1 h3).1
      have := (h.hidB (.inl ⟨r', h5, h6⟩)).2
      omega
    · obtain ⟨h4, h5⟩ := hold r e1
      rw [h4] at h3
      intro h6
      have := (hnew r' g e2 h2 h6).1
      have := (h.hidB (.inl ⟨r, h5, h3⟩)).2
      omega
    · obtain ⟨h4, h5⟩ := hold r e1
      obtain ⟨h6, h7⟩ := hold r' e2
      rw [h4] at h3; rw [h6]
      exact h.rr r r' g hne h5 h7 h3
  · intro r b g h1 h2 h3
    by_cases e1 : look σ.rows r = none
    · intro e
      have := (hnew r g e1 h1 h3).1
      have := (h.hidB (.inr ⟨b, h2, e⟩)).2
      omega
    · obtain ⟨h4, h5⟩ := hold r e1
      rw [h4] at h3
      exact h.rb r b g h5 h2 h3
end
end Go.Abs
set_option linter.unusedVariables false
set_option linter.unusedSimpArgs false
namespace Go.Abs
open Go.RowKit Go.Lib

/-- A value of a type, as a slot holds it. -/
def VRel (V : View) : (t : Ty) → t.den → Value → Prop
  | .st t, x, v => ∃ cs : List Value, v = .agg cs.toArray ∧ Rel V t x cs
  | t, x, v => LRel V ⟨t, x⟩ v

theorem VRel.mono {V V' : View} (h : ∀ a v, V a v → V' a v) {t : Ty} {x : t.den} {v : Value} (hr : VRel V t x v) : VRel V' t x v := by
  cases t with
  | st t => obtain ⟨cs, h1, h2⟩ := hr; exact ⟨cs, h1, Rel.mono h _ _ _ h2⟩
  | _ => exact LRel.mono h _ _ hr

/-- The cells of a value. -/
theorem VRel.cells {V : View} {t : Ty} {x : t.den} {v : Value} (hr : VRel V t x v) : Rel V t x v.cells.toList := by
  cases t with
  | st t => obtain ⟨cs, h1, h2⟩ := hr; subst h1; exact h2
  | _ => rw [lrel_cells hr]; exact hr

section
variable {P : Program} {T : List TRow} {V0 : View} {w0 w w' : World} {σ : AS} {a : Act} {ρ : Nat → Value} {β : Nat → Nat}

theorem unleaf1 {t : Ty} {c : CV} {x : t.den} (h : (unleaf t [c]).map (·.1) = some x) : c = ⟨t, x⟩ := by
  cases hu : unleaf t [c] with
  | none => simp [hu] at h
  | some p =>
    obtain ⟨y, r⟩ := p
    simp [hu] at h
    subst h
    have := unleaf_eq hu
    simp at this
    exact this.1

theorem typed_rel {V : View} {rows : List (Nat × Row)} {boxes : List (Nat × List CV)} {t : Ty} {av : AV} {x : t.den} {v : Value} (h : typed t av = some x) (hr : AvRel V rows boxes ρ β av v) : VRel V t x v := by
  have leafc : ∀ {t : Ty} {x : t.den} {c : CV}, (∀ u, t ≠ .st u) → (unleaf t [c]).map (·.1) = some x → LRel V c v → VRel V t x v := fun {t x c} hn h1 h2 => by
    have := unleaf1 h1
    subst this
    cases t with
    | st u => exact absurd rfl (hn u)
    | _ => exact h2
  unfold typed at h
  split at h
  · rename_i cs
    obtain ⟨vs, h1, h2⟩ := hr
    refine ⟨vs, h1, rel_of_flat ?_⟩
    rw [← unflat1_eq h]
    exact h2
  · rename_i t vs
    split at h
    · rename_i cs hl
      obtain ⟨l1, h1, h2⟩ := litFlat_rel (V := V) hl
      refine ⟨vs.toList, ?_, rel_of_flat ?_⟩
      · have : v = .agg vs := hr
        simpa using this
      · rw [← unflat1_eq h, h1, List.append_nil]; exact h2
    · cases h
  · cases h
  · rename_i c hn
    exact leafc (fun u e => by subst e; exact hn u rfl) h hr
  · rename_i v' hn1 hn2
    split at h
    · rename_i c hl
      obtain ⟨l1, h1, h2⟩ := litFlat_rel (V := V) hl
      have h3 : v = v' := hr
      rw [List.append_nil] at h1
      subst h1
      subst h3
      exact leafc (fun u e => by subst e; exact hn2 u rfl) h h2.1
    · cases h
  · cases h

theorem cells_rel {V : View} {rows : List (Nat × Row)} {boxes : List (Nat × List CV)} {t : Ty} {av : AV} {cs : List CV} {v : Value} (h : cells t av = some cs) (hr : AvRel V rows boxes ρ β av v) : All2 (LRel V) cs v.cells.toList := by
  unfold cells at h
  split at h
  · simp only [Option.some.injEq] at h
    subst h
    rw [lrel_cells hr]
    exact ⟨hr, trivial⟩
  · simp only [Option.some.injEq] at h
    subst h
    obtain ⟨vs, h1, h2⟩ := hr
    subst h1
    exact h2
  · split at h
    · rename_i v' cs' hl
      simp only [Option.some.injEq] at h
      subst h
      obtain ⟨l1, h1, h2⟩ := litFlat_rel (V := V) hl
      have h3 : v = _ := hr
      rw [h3, h1, List.append_nil]
      exact h2
    · cases h
  · cases h

theorem freeze_look (r k : Nat) : look (σ.freeze r).rows k = if r = k then none else look σ.rows k := by
  unfold AS.freeze
  cases hr : look σ.rows r with
  | none => by_cases h : r = k
            · subst h; simp [hr]
            · simp [h]
  | some row => exact look_del _ _ _

/-! ## What executions do -/

def ExecTo (P : Program) (o : Oper) (a : Act) (w : World) (K : Act → World → Prop) : Prop :=
  ∀ (next : Act → World → Prop) (Q : Exit → Act → World → Prop), (∀ a' w', K a' w' → next a' w') → o.wp P a w next Q

theorem exec_value {o : Oper} {K : Act → World → Prop} {v : Value} (h : (execOp a.eval o).run P w = .ok (.value v) w') (hK : K (a.put o.dst v) w') : ExecTo P o a w K := fun next Q hn => by
  unfold Oper.wp; rw [h]; exact hn _ _ hK

theorem exec_skip {o : Oper} {K : Act → World → Prop} (h : (execOp a.eval o).run P w = .ok .skip w') (hK : K (a.put o.dst undef) w') : ExecTo P o a w K := fun next Q hn => by
  unfold Oper.wp; rw [h]; exact hn _ _ hK

/-- The state behind. -/
def To (V0 : View) (w0 : World) (σ' : AS) (a' : Act) (w' : World) : Prop := ∃ ρ' β', St V0 w0 σ' a' w' ρ' β'

theorem exec_pure (hV0 : ∀ ad v, V0 ad v → w0.cell? ad = some v) (hT : TabOk P T) (h : St V0 w0 σ a w ρ β) {o : Oper} {c : Cls} {z : AV}
    (he : pureOp T σ o (fun c v => some (c, v)) = some (c, z)) : ExecTo P o a w (To V0 w0 (σ.putd o.dst z)) := by
  obtain ⟨v, w', h1, h2, h3⟩ := pure_sound hV0 hT h he
  exact exec_value h1 ⟨ρ, β, (h.grow h2).slot h3⟩

theorem grownBy_refl (w : World) : w.grownBy w none := ⟨rfl, rfl, rfl, Nat.le_refl _, fun _ _ _ => rfl⟩

theorem addRow_some {d : Option Tmp} {row : Row} {c c' : Cls} {σ' : AS} (h : addRow σ d row c (fun c s => some (c, s)) = some (c', σ')) :
    ∃ d', d = some d' ∧ look σ.rows d' = none ∧ σ' = ⟨setN σ.tmps d' (.rv (.own d')), put σ.rows d' row, σ.boxes⟩ := by
  cases d with
  | none => simp [addRow] at h
  | some d =>
    simp only [addRow] at h
    split at h
    · rename_i hn
      simp only [Option.some.injEq, Prod.mk.injEq] at h
      exact ⟨d, rfl, hn, h.2.symm⟩
    · cases h

theorem addBox_some {d : Option Tmp} {cs : List CV} {c c' : Cls} {σ' : AS} (h : addBox σ d cs c (fun c s => some (c, s)) = some (c', σ')) :
    ∃ d', d = some d' ∧ look σ.boxes d' = none ∧ σ' = ⟨setN σ.tmps d' (.box d' 0), σ.rows, put σ.boxes d' cs⟩ := by
  cases d with
  | none => simp [addBox] at h
  | some d =>
    simp only [addBox] at h
    split at h
    · rename_i hn
      simp only [Option.some.injEq, Prod.mk.injEq] at h
      exact ⟨d, rfl, hn, h.2.symm⟩
    · cases h

/-- A new row, in a world that grew. -/
theorem St.newRow (h : St V0 w0 σ a w ρ β) {d : Nat} {v' : Value} {row' : Row} (hd : look σ.rows d = none) (hg : w.grownBy w' none) (hnew : ∀ k, v'.ownBlock = some k → w.heap.size ≤ k)
    (hrow : ∃ yss : List (List Value), w'.ownsRow w0.heap.size row'.e row'.t.size v' row'.xs.length yss.flatten ∧ All2 (Rel (St.V V0 w0 σ w ρ β) row'.t) row'.xs yss) :
    To V0 w0 ⟨setN σ.tmps d (.rv (.own d)), put σ.rows d row', σ.boxes⟩ (a.put (some d) v') w' :=
  ⟨_, _, h.addRow (fun _ _ h => h) h.slots hd hg (fun _ e => by cases e) (fun k hk => .inr (hnew k hk)) hrow⟩

theorem zero_rel {V : View} {r : TRow} (hr : TOk P T r) : ∃ i z, P.info? r.id = some i ∧ i.size = r.ty.size ∧ i.bytes = r.bytes ∧ i.zero = some z ∧ Rel V r.ty r.ty.zero z.cells.toList := by
  obtain ⟨i, z, h1, h2, h3, h4, h5, _⟩ := hr.info
  exact ⟨i, z, h1, h2, h3, h4, h5 V⟩

end
end Go.Abs
set_option linter.unusedVariables false
set_option linter.unusedSimpArgs false
namespace Go.Abs

section
variable {R : Type}

theorem binV_nat (op : BinOp) (x y : AV) (k : Cls → AV → Option R) : binV op x y k = (binV op x y (fun c v => some (c, v))).bind fun p => k p.1 p.2 := by
  unfold binV cvk
  repeat' split
  all_goals first
    | rfl
    | (cases (_ == (0 : Int)) <;> rfl)
    | (cases Nat.ble _ _ <;> rfl)

theorem binB_nat (op : BinOp) (x y : AV) (k : Cls → AV → Option R) : binB op x y k = (binB op x y (fun c v => some (c, v))).bind fun p => k p.1 p.2 := by
  unfold binB cvk
  repeat' split
  all_goals rfl

theorem lenV_nat (σ : AS) (t : Ty) (x : AV) (k : Cls → AV → Option R) : lenV σ t x k = (lenV σ t x (fun c v => some (c, v))).bind fun p => k p.1 p.2 := by
  unfold lenV cvk
  repeat' split
  all_goals rfl

theorem bind_nat {α : Type} (o : Option α) (f : α → Option (Cls × AV)) (g : α → Option R) (k : Cls × AV → Option R) (h : ∀ x, g x = (f x).bind k) : o.bind g = (o.bind f).bind k := by
  cases o with
  | none => rfl
  | some x => exact h x

theorem cond_nat (b : Bool) (c c' : Cls) (x y : AV) (k : Cls → AV → Option R) : (bif b then k c x else k c' y) = (bif b then some (c, x) else some (c', y)).bind fun p => k p.1 p.2 := by cases b <;> rfl

theorem pure_nat (T : List TRow) (σ : AS) (o : Oper) (k : Cls → AV → Option R) : pureOp T σ o k = (pureOp T σ o (fun c v => some (c, v))).bind fun p => k p.1 p.2 := by
  obtain ⟨dst, op, type, pos, after, guard⟩ := o
  cases op
  case binOp => 
    simp only [pureOp]
    repeat' split
    all_goals first
      | rfl
      | exact binB_nat _ _ _ _
      | exact binV_nat _ _ _ _
  case call c =>
    obtain ⟨callee, args, ats⟩ := c
    cases callee with
    | builtin b =>
      cases b <;> first
        | rfl
        | (simp only [pureOp, cvk]
           repeat' split
           all_goals first
             | rfl
             | exact lenV_nat _ _ _ _)
    | value f => rfl
    | invoke r m => rfl
  case slice t x lo hi mx =>
    cases mx <;> simp only [pureOp, cvk] <;> repeat' split
    all_goals first
      | rfl
      | (cases inCut _ _ _ <;> rfl)
      | (cases (_ && _) <;> rfl)
  all_goals simp only [pureOp, cvk]
  all_goals try rfl
  all_goals repeat' split
  all_goals first
    | rfl
    | (apply bind_nat; intro x; repeat' split)
    | (cases Nat.beq _ _ <;> first | rfl | (simp only [cond_true, cond_false]; apply bind_nat; intro x; rfl))
    | (cases Nat.ble _ _ <;> rfl)
    | exact cond_nat _ _ _ _ _ _
  all_goals rfl
end
end Go.Abs
set_option linter.unusedVariables false
set_option linter.unusedSimpArgs false
namespace Go.Abs
open Go.RowKit Go.Lib

section
variable {P : Program} {T : Tab} {V0 : View} {w0 w w' : World} {σ : AS} {a : Act} {ρ : Nat → Value} {β : Nat → Nat}
variable {Φ : (f : FuncId) → DenL (T.sig f).args → Option (DenL ((T.sig f).res.map (·.1)))}

theorem elemRow_some {P : Program} {T : List TRow} {t : TypeId} {u : Ty} {e : TypeId} {bytes : Nat} (hT : TabOk P T) (h : elemRow T t = some (u, e, bytes)) :
    ∃ re, P.underlying t = some (.slice e) ∧ TOk P T re ∧ re.id = e ∧ re.ty = u ∧ re.bytes = bytes ∧ 0 < bytes := by
  unfold elemRow at h
  split at h
  · rename_i r hr
    obtain ⟨rfl, hr'⟩ := hT t r hr
    split at h
    · rename_i u' hty
      split at h
      · rename_i re hre
        cases hb : Nat.blt 0 re.bytes with
        | false => simp [hb] at h
        | true =>
          simp only [hb, cond_true, Option.some.injEq, Prod.mk.injEq] at h
          obtain ⟨rfl, rfl, rfl⟩ := h
          obtain ⟨h1, re', h2, h3, h4⟩ := elem_of hT hr' hty
          have hd := hr'.desc
          rw [hty] at hd
          obtain ⟨_, re2, h5, h6⟩ := hd
          rw [hre] at h5
          obtain rfl : re = re2 := by simpa using h5
          obtain ⟨h7, h8⟩ := hT _ re hre
          exact ⟨re, h1, h8, h7, h6, rfl, Nat.le_of_ble_eq_true hb⟩
      · cases h
    · cases h
  · cases h

theorem ownsRow_nil' {w : World} {B : Nat} {e : TypeId} {n : Nat} : w.ownsRow B e n (.slice none 0 0) 0 [] := World.ownsRow_nil w B e n

theorem exec_pure' (hV0 : ∀ ad v, V0 ad v → w0.cell? ad = some v) {T : List TRow} (hT : TabOk P T) (h : St V0 w0 σ a w ρ β) {o : Oper} {F : Cls → Cls} {c : Cls} {σ' : AS}
    (he : pureOp T σ o (fun c' v => some (F c', σ.putd o.dst v)) = some (c, σ')) : ExecTo P o a w (To V0 w0 σ') := by
  rw [pure_nat] at he
  cases hp : pureOp T σ o (fun c v => some (c, v)) with
  | none => rw [hp] at he; cases he
  | some p =>
    obtain ⟨c1, z⟩ := p
    rw [hp] at he
    simp only [Option.bind_some, Option.some.injEq, Prod.mk.injEq] at he
    obtain ⟨_, rfl⟩ := he
    exact exec_pure hV0 hT h hp

theorem do_assign (hV0 : ∀ ad v, V0 ad v → w0.cell? ad = some v) (hT : TabOk P T.rows) (h : St V0 w0 σ a w ρ β) {o : Oper} {x : Operand} (ho : o.op = .assign x) {c : Cls} {σ' : AS}
    (he : doOp T Φ σ o (fun c s => some (c, s)) = some (c, σ')) : ExecTo P o a w (To V0 w0 σ') := by
  have hrun : (execOp a.eval o).run P w = .ok (.value (a.eval x)) w := by simp [execOp, ho]
  simp only [doOp, ho] at he
  have hx := h.av x
  split at he
  · rename_i r d hr hd
    rw [hr] at hx
    cases hb : Nat.beq r d with
    | true =>
      simp only [hb, cond_true, Option.some.injEq, Prod.mk.injEq] at he
      obtain ⟨_, rfl⟩ := he
      have := (beq_iff _ _).1 hb; subst this
      exact exec_value hrun ⟨ρ, β, h.slot hx⟩
    | false =>
      have hne := beq_ff.1 hb
      simp only [hb, cond_false, Option.some.injEq, Prod.mk.injEq] at he
      obtain ⟨_, rfl⟩ := he
      have h1 := h.freeze d
      obtain ⟨ρ', h2, h3⟩ := h1.rename (r := r) (d := d) (by rw [freeze_look, if_pos rfl])
      have h4 : (look (σ.freeze d).rows r).isSome = true := by rw [freeze_look, if_neg (Ne.symm hne)]; exact hx.2
      obtain ⟨h5, h6⟩ := h3 h4
      exact exec_value hrun ⟨ρ', β, h2.slot ⟨by rw [h5]; exact hx.1, h6⟩⟩
  · rename_i d hl hd
    have ex := av_lit h hl
    split at he
    · rename_i u e b hel
      obtain ⟨d', hd', hlk, rfl⟩ := addRow_some he
      have h1 := h.freeze d
      have := h1.newRow (d := d') (v' := .slice none 0 0) (row' := ⟨e, u, []⟩) (w' := w) hlk (grownBy_refl w) (fun k hk => by cases hk) ⟨[], ownsRow_nil', trivial⟩
      refine exec_value hrun ?_
      rw [ex, hd, hd']
      exact this
    · cases he
  · exact exec_pure' hV0 hT h he

theorem setRow_grown {w : World} {g : Nat} {cs : Array Value} : w.grownBy (w.setRow g cs) (some g) :=
  ⟨rfl, rfl, rfl, by simp, fun k _ hk => setRow_other w g k _ (fun e => hk (by rw [e]))⟩

/-- Cells put in place of others, in a list of rows. -/
theorem flatten_splice {n : Nat} : ∀ {yss : List (List Value)} (i : Nat) (ys vs : List Value) (off : Nat), (∀ l ∈ yss, l.length = n) → yss[i]? = some ys → off + vs.length ≤ n →
    (yss.set i (ys.take off ++ vs ++ ys.drop (off + vs.length))).flatten = yss.flatten.take (i * n + off) ++ vs ++ yss.flatten.drop (i * n + off + vs.length)
  | [], i, ys, vs, off, _, h, _ => by simp at h
  | l :: yss, 0, ys, vs, off, hl, h, hle => by
    simp at h; subst h
    have h1 := hl l (by simp)
    have e1 : off - l.length = 0 := by omega
    have e2 : off + vs.length - l.length = 0 := by omega
    simp [List.take_append, List.drop_append, e1, e2]
  | l :: yss, i + 1, ys, vs, off, hl, h, hle => by
    have h1 := hl l (by simp)
    have ih := flatten_splice (yss := yss) i ys vs off (fun l hl' => hl l (by simp [hl'])) (by simpa using h) hle
    have e1 : (i + 1) * n + off - l.length = i * n + off := by rw [Nat.succ_mul]; omega
    have e2 : (i + 1) * n + off + vs.length - l.length = i * n + off + vs.length := by rw [Nat.succ_mul]; omega
    have e3 : List.take ((i + 1) * n + off) l = l := List.take_of_length_le (by rw [Nat.succ_mul]; omega)
    have e4 : List.drop ((i + 1) * n + off + vs.length) l = [] := List.drop_eq_nil_of_le (by rw [Nat.succ_mul]; omega)
    simp only [List.append_assoc] at ih
    simp [List.take_append, List.drop_append, e1, e2, e3, e4, ih]

theorem all2_lengths {V : View} {t : Ty} : ∀ {xs : List t.den} {yss : List (List Value)}, All2 (Rel V t) xs yss → ∀ l ∈ yss, l.length = t.size
  | [], [], _, l, h => by simp at h
  | x :: xs, y :: yss, h, l, hl => by
    rcases List.mem_cons.1 hl with rfl | hl
    · exact Rel.length h.1
    · exact all2_lengths h.2 l hl
  | [], _ :: _, h, _, _ => h.elim
  | _ :: _, [], h, _, _ => h.elim

theorem do_store (hV0 : ∀ ad v, V0 ad v → w0.cell? ad = some v) (hT : TabOk P T.rows) (h : St V0 w0 σ a w ρ β) {o : Oper} {t : TypeId} {x v : Operand} (ho : o.op = .store t x v) {c : Cls} {σ' : AS}
    (he : doOp T Φ σ o (fun c s => some (c, s)) = some (c, σ')) : ExecTo P o a w (To V0 w0 σ') := by
  simp only [doOp, ho] at he
  split at he
  · rename_i r hr
    obtain ⟨rfl, hr'⟩ := hT t r hr
    have h1 := h.frz v
    split at he
    · rename_i vs hvs
      have hcv := cells_rel hvs (h1.av v)
      have hone : ∀ u ∈ (a.eval v).cells.toList, u.oneCell' = true := fun u hu => by
        obtain ⟨j, hj⟩ := List.getElem?_of_mem hu
        obtain ⟨c, _, hc⟩ := hcv.get' j u hj
        exact lrel_one hc
      cases hb : Nat.beq vs.length r.ty.size with
      | false => simp [hb] at he
      | true =>
        simp only [hb, cond_true] at he
        have hsz := (beq_iff _ _).1 hb
        have hlen : (a.eval v).cells.toList.length = vs.length := hcv.length.symm
        have hlen' : (a.eval v).cells.size = vs.length := by simpa using hlen
        have hsv : ∀ (g off : Nat) (cur : Array Value) (e : TypeId), a.eval x = .pointer (some ⟨g, off, none⟩) → w.heap[g]? = some (.cells cur e (0, 0)) → off + vs.length ≤ cur.size →
            (execOp a.eval o).run P w = .ok .skip (w.setRow g (cur.toList.take off ++ (a.eval v).cells.toList ++ cur.toList.drop (off + vs.length)).toArray) := fun g off cur e hx hg hle => by
          have hst := run_storeCells_at P g off e (a.eval v).cells.toList 0 cur w hg (by rw [hlen]; simpa using hle) hone
          rw [hlen] at hst
          simp only [Nat.add_zero] at hst
          simp [execOp, ho, Instr.storeAt, hx, Instr.sureAddr, storeVar, size_run hr', hlen', hsz, hst]
        have hx := h1.av x
        split at he
        · rename_i b off hbx
          rw [hbx] at hx
          split at he
          · rename_i cs hcs
            cases hle : Nat.ble (off + vs.length) cs.length with
            | false => simp [hle] at he
            | true =>
              simp only [hle, cond_true, Option.some.injEq, Prod.mk.injEq] at he
              obtain ⟨_, rfl⟩ := he
              have hle' := Nat.le_of_ble_eq_true hle
              obtain ⟨cur, e, hg, hrel⟩ := (h1.boxes b cs hcs).2
              have hcl : cs.length = cur.size := by simpa using hrel.length
              have hrun := hsv (β b) off cur e hx.1 hg (by omega)
              have hnew := setRow_heap w (β b) cur (cur.toList.take off ++ (a.eval v).cells.toList ++ cur.toList.drop (off + vs.length)).toArray e (0, 0) hg
              have h2 := h1.setBox (cs' := splice cs off vs) hcs setRow_grown hnew (by
                simp only [splice]
                exact ((hrel.take off).append hcv).append (hrel.drop _))
              exact exec_skip hrun ⟨ρ, β, h2.slot trivial⟩
          · cases he
        · rename_i q sz i off hq
          rw [hq] at hx
          split at he
          · rename_i row hrow
            obtain ⟨row', g, hrow', hgq, rfl, hx⟩ := hx
            rw [hrow] at hrow'
            obtain rfl : row = row' := by simpa using hrow'
            cases hz : row.xs[i]? with
            | none => simp [hz] at he
            | some z =>
              simp only [hz, Option.bind_some] at he
              split at he
              · rename_i z' hz'
                cases hle : Nat.ble (off + vs.length) row.t.size with
                | false => simp [hle] at he
                | true =>
                  simp only [hle, cond_true, Option.some.injEq, Prod.mk.injEq] at he
                  obtain ⟨_, rfl⟩ := he
                  have hle' := Nat.le_of_ble_eq_true hle
                  obtain ⟨yss, ⟨e1, e2⟩, hall⟩ := h1.rows q row hrow
                  rcases e2 with ⟨e2, e3⟩ | ⟨g', cap, cur, e2, hB, hg, hn, hm, hcs, htake⟩
                  · have : row.xs = [] := List.eq_nil_of_length_eq_zero e3
                    rw [this] at hz; simp at hz
                  · have hgg : g' = g := by rw [e2] at hgq; simpa [Value.ownBlock] using hgq
                    subst hgg
                    obtain ⟨ys, hy1, hy2, hy3⟩ := flatten_at hall i z hz
                    have hilt : i < row.xs.length := (List.getElem?_eq_some_iff.1 hz).1
                    have hmul : i * row.t.size + row.t.size ≤ row.xs.length * row.t.size := by
                      rw [← Nat.succ_mul]; exact Nat.mul_le_mul_right _ hilt
                    have hcap : row.xs.length * row.t.size ≤ cur.size := by rw [hcs]; exact Nat.mul_le_mul_right _ hn
                    have hrun := hsv g' (i * row.t.size + off) cur row.e hx hg (by omega)
                    have hnew := setRow_heap w g' cur (cur.toList.take (i * row.t.size + off) ++ (a.eval v).cells.toList ++ cur.toList.drop (i * row.t.size + off + vs.length)).toArray row.e (0, 0) hg
                    have hfl := flatten_length hall
                    have hsp := flatten_splice (yss := yss) i ys (a.eval v).cells.toList off (all2_lengths hall) hy1 (by rw [hlen]; exact hle')
                    rw [hlen] at hsp
                    have hzrel : Rel (St.V V0 w0 (σ.frz v) w ρ β) row.t z' (ys.take off ++ (a.eval v).cells.toList ++ ys.drop (off + vs.length)) := by
                      refine rel_of_flat ?_
                      rw [← unflat1_eq hz']
                      exact (((rel_flat hy2).take off).append hcv).append ((rel_flat hy2).drop _)
                    have h2 := h1.setRow (row' := ⟨row.e, row.t, row.xs.set i z'⟩) (w' := w.setRow g' (cur.toList.take (i * row.t.size + off) ++ (a.eval v).cells.toList ++ cur.toList.drop (i * row.t.size + off + vs.length)).toArray) hrow rfl (g := g') hgq setRow_grown
                      ⟨yss.set i (ys.take off ++ (a.eval v).cells.toList ++ ys.drop (off + vs.length)), by
                        refine ⟨?_, .inr ⟨g', cap, _, by simpa using e2, hB, hnew, by simpa using hn, hm, ?_, ?_⟩⟩
                        · rw [hsp]; simp [hlen, hfl]; omega
                        · simp [hlen']; omega
                        · rw [hsp, ← htake]
                          simp only [List.length_set]
                          rw [List.take_append, List.take_append, List.take_take, List.take_take]
                          have e5 : i * row.t.size + off ≤ row.xs.length * row.t.size := by omega
                          rw [Nat.min_eq_right e5, Nat.min_eq_left e5]
                          rw [List.drop_take]
                          congr 1
                          · congr 1
                            rw [List.take_of_length_le]
                            simp [hlen]; omega
                          · congr 1
                            simp [hlen]; omega, hall.set hzrel⟩
                    exact exec_skip hrun ⟨ρ, β, h2.slot trivial⟩
              · cases he
          · cases he
        · cases he
    · cases he
  · cases he
end
end Go.Abs
set_option linter.unusedVariables false
set_option linter.unusedSimpArgs false
namespace Go.Abs
open Go.RowKit Go.Lib

section
variable {P : Program} {T : Tab} {V0 : View} {w0 w w' : World} {σ : AS} {a : Act} {ρ : Nat → Value} {β : Nat → Nat}
variable {Φ : (f : FuncId) → DenL (T.sig f).args → Option (DenL ((T.sig f).res.map (·.1)))}

theorem do_alloc (hT : TabOk P T.rows) (h : St V0 w0 σ a w ρ β) {o : Oper} {t : TypeId} (ho : o.op = .alloc t) {c : Cls} {σ' : AS}
    (he : doOp T Φ σ o (fun c s => some (c, s)) = some (c, σ')) : ExecTo P o a w (To V0 w0 σ') := by
  simp only [doOp, ho] at he
  split at he
  · rename_i r hr
    obtain ⟨rfl, hr'⟩ := hT t r hr
    obtain ⟨d, hd, hlk, rfl⟩ := addBox_some he
    obtain ⟨i, z, h1, h2, h3, h4, h5⟩ := zero_rel (V := St.V V0 w0 σ w ρ β) hr'
    have := h.addBox (d := d) (cur := z.cells) (e := r.id) (cs := zeroCV r.ty) hlk (rel_flat h5)
    refine exec_value (v := .pointer (some ⟨w.heap.size, 0, none⟩)) (w' := w.alloc (.cells z.cells r.id)) ?_ ⟨ρ, _, by rw [hd]; exact this⟩
    simp [execOp, ho, Instr.alloc, zeroValue, typeInfo, h1, h4, newVar, newRow]
  · cases he

theorem do_box (hT : TabOk P T.rows) (h : St V0 w0 σ a w ρ β) {o : Oper} {t : TypeId} {v : Operand} (ho : o.op = .box t v) {c : Cls} {σ' : AS}
    (he : doOp T Φ σ o (fun c s => some (c, s)) = some (c, σ')) : ExecTo P o a w (To V0 w0 σ') := by
  simp only [doOp, ho] at he
  split at he
  · rename_i r hr
    obtain ⟨rfl, hr'⟩ := hT t r hr
    split at he
    · rename_i vs hvs
      have h1 := h.frz v
      have hcv := cells_rel hvs (h1.av v)
      cases hb : Nat.beq vs.length r.ty.size with
      | false => simp [hb] at he
      | true =>
        simp only [hb, cond_true] at he
        obtain ⟨d, hd, hlk, rfl⟩ := addBox_some he
        have := h1.addBox (d := d) (cur := (a.eval v).cells) (e := r.id) (cs := vs) hlk hcv
        refine exec_value (v := .pointer (some ⟨w.heap.size, 0, none⟩)) (w' := w.alloc (.cells (a.eval v).cells r.id)) ?_ ⟨ρ, _, by rw [hd]; exact this⟩
        simp [execOp, ho, Instr.box, newVar, newRow]
    · cases he
  · cases he

theorem do_build (hV0 : ∀ ad v, V0 ad v → w0.cell? ad = some v) (hT : TabOk P T.rows) (h : St V0 w0 σ a w ρ β) {o : Oper} {t : TypeId} {parts : Array (Nat × Operand)} (ho : o.op = .build t parts) {c : Cls} {σ' : AS}
    (he : doOp T Φ σ o (fun c s => some (c, s)) = some (c, σ')) : ExecTo P o a w (To V0 w0 σ') := by
  simp only [doOp, ho] at he
  exact exec_pure' hV0 hT (h.frzs _) he

theorem mapcat_flatten {α : Type} : ∀ (n : Nat) (z : List α), (List.replicate n z).flatten.length = n * z.length
  | 0, z => by simp
  | n + 1, z => by simp

/-- Zero cells again and again. -/
theorem made_eq (z : Array Value) (n : Nat) : madeCells z (n * z.size) = ((List.replicate n z.toList).flatten).toArray := by
  apply Array.ext
  · simp [madeCells]
  · intro i h1 h2
    have h3 : i < n * z.size := by simpa [madeCells] using h1
    have hz : 0 < z.size := by
      rcases Nat.eq_zero_or_pos z.size with h | h
      · rw [h] at h3; omega
      · exact h
    have hm : i % z.size < z.size := Nat.mod_lt _ hz
    have key : ∀ (n i : Nat), i < n * z.size → (List.replicate n z.toList).flatten[i]? = some (z[i % z.size]'(Nat.mod_lt _ hz)) := by
      intro n
      induction n with
      | zero => intro i hi; omega
      | succ n ih =>
        intro i hi
        rw [List.replicate_succ, List.flatten_cons]
        by_cases hlt : i < z.size
        · rw [List.getElem?_append_left (by simpa using hlt)]
          simp [hlt, Nat.mod_eq_of_lt hlt]
        · rw [List.getElem?_append_right (by simpa using Nat.not_lt.1 hlt)]
          rw [Nat.succ_mul] at hi
          have := ih (i - z.size) (by omega)
          simp only [Array.length_toList]
          rw [this]
          congr 2
          conv => rhs; rw [← Nat.sub_add_cancel (Nat.not_lt.1 hlt)]
          simp
    have := key n i h3
    have h4 : madeCells z (n * z.size) = (Array.range (n * z.size)).map (z[· % z.size]!) := rfl
    simp only [h4, Array.getElem_map, Array.getElem_range, List.getElem_toArray]
    have h5 : i < (List.replicate n z.toList).flatten.length := by simpa using h2
    rw [List.getElem?_eq_getElem h5] at this
    rw [Option.some.inj this]
    simp [hm]

theorem elems_rel {V : View} {rows : List (Nat × Row)} {boxes : List (Nat × List CV)} {t : Ty} (hav : ∀ x, AvRel V rows boxes ρ β (σ.av x) (a.eval x)) : ∀ (parts : List (Nat × Operand)) (xs xs' : List t.den) (yss : List (List Value)),
    elems σ t parts xs = some xs' → All2 (Rel V t) xs yss →
    ∃ yss', Instr.fill (fun i => some (i * t.size, t.size)) yss.flatten.toArray (parts.map fun (i, x) => (i, a.eval x)) = some yss'.flatten.toArray ∧ All2 (Rel V t) xs' yss'
  | [], xs, xs', yss, h, hr => by simp only [elems, Option.some.injEq] at h; subst h; exact ⟨yss, rfl, hr⟩
  | (i, x) :: parts, xs, xs', yss, h, hr => by
    simp only [elems] at h
    split at h
    · rename_i v hv
      cases hb : Nat.blt i xs.length with
      | false => simp [hb] at h
      | true =>
        simp only [hb, cond_true] at h
        have hlt : i + 1 ≤ xs.length := Nat.le_of_ble_eq_true hb
        have hvr := (typed_rel hv (hav x)).cells
        have hvl := Rel.length hvr
        obtain ⟨ys, hy1, hy2, hy3⟩ := flatten_at hr i (xs[i]'(by omega)) (List.getElem?_eq_getElem (by omega))
        have hyl := Rel.length hy2
        have hsp := flatten_splice (yss := yss) i ys (a.eval x).cells.toList 0 (all2_lengths hr) hy1 (by rw [hvl]; omega)
        rw [hvl] at hsp
        simp only [Nat.zero_add, List.take_zero, List.nil_append, Nat.add_zero] at hsp
        have hd : ys.drop t.size = [] := List.drop_eq_nil_of_le (by omega)
        rw [hd, List.append_nil] at hsp
        obtain ⟨yss', h1, h2⟩ := elems_rel hav parts (xs.set i v) xs' (yss.set i (a.eval x).cells.toList) h (hr.set hvr)
        refine ⟨yss', ?_, h2⟩
        have hsz : (a.eval x).cells.size = t.size := by simpa using hvl
        have hfl := flatten_length hr
        have hmul : i * t.size + t.size ≤ xs.length * t.size := by rw [← Nat.succ_mul]; exact Nat.mul_le_mul_right _ hlt
        simp only [List.map_cons, Instr.fill]
        rw [if_neg (by simp [hsz, hfl]; omega)]
        have hfo := foldl_cells (a.eval x).cells.toList 0 (i * t.size) yss.flatten.toArray (by simp [hfl, hsz]; omega)
        have e : ((a.eval x).cells.zipIdx.foldl (fun cs (p : Value × Nat) => cs.setIfInBounds (i * t.size + p.2) p.1) yss.flatten.toArray) = (yss.set i (a.eval x).cells.toList).flatten.toArray := by
          apply Array.ext'
          rw [← Array.foldl_toList, Array.toList_zipIdx]
          rw [hsp]
          simpa [hsz] using hfo
        rw [← h1]
        congr 1
    · cases h

theorem elems_length {t : Ty} : ∀ (parts : List (Nat × Operand)) (xs xs' : List t.den), elems σ t parts xs = some xs' → xs'.length = xs.length
  | [], xs, xs', h => by simp only [elems, Option.some.injEq] at h; rw [h]
  | (i, x) :: parts, xs, xs', h => by
    simp only [elems] at h
    split at h
    · cases hb : Nat.blt i xs.length with
      | false => simp [hb] at h
      | true =>
        simp only [hb, cond_true] at h
        rw [elems_length parts _ xs' h]; simp
    · cases h

theorem all2_zero {V : View} {t : Ty} {zs : List Value} (h : Rel V t t.zero zs) (n : Nat) : All2 (Rel V t) (List.replicate n t.zero) (List.replicate n zs) := All2.replicate h n

/-- A row just made. -/
theorem ownsRow_new {w : World} {B : Nat} {e : TypeId} {size n cap : Nat} {cs : Array Value} {xs : List Value} (hB : B ≤ w.heap.size) (hn : n ≤ cap) (hm : cap ≤ maxLen) (hs : cs.size = cap * size) (hx : cs.toList.take (n * size) = xs) (hl : xs.length = n * size) :
    (w.alloc (.cells cs e)).ownsRow B e size (.slice (some ⟨w.heap.size, 0, none⟩) n cap) n xs :=
  ⟨hl, .inr ⟨w.heap.size, cap, cs, rfl, hB, heap_alloc_new w _, hn, hm, hs, hx⟩⟩

theorem do_makeSlice (hT : TabOk P T.rows) (h : St V0 w0 σ a w ρ β) {o : Oper} {t : TypeId} {l cc : Operand} (ho : o.op = .makeSlice t l cc) {c : Cls} {σ' : AS}
    (he : doOp T Φ σ o (fun c s => some (c, s)) = some (c, σ')) : ExecTo P o a w (To V0 w0 σ') := by
  simp only [doOp, ho] at he
  split at he
  · rename_i u e bytes hel
    obtain ⟨re, hu, hre, hid, hty, hby, hpos⟩ := elemRow_some hT hel
    have main : ∀ (k k' : IntKind) (n m : Int), a.eval l = .int k n → a.eval cc = .int k' m → okMake bytes n m = true → ∀ d, o.dst = some d → look σ.rows d = none →
        ExecTo P o a w (To V0 w0 ⟨setN σ.tmps d (.rv (.own d)), put σ.rows d ⟨e, u, List.replicate n.toNat u.zero⟩, σ.boxes⟩) := by
      intro k k' n m el ec hok d hd hlk
      simp only [okMake, Bool.and_eq_true, decide_eq_true_eq] at hok
      obtain ⟨⟨h0, h1⟩, h2⟩ := hok
      obtain ⟨i, z, i1, i2, i3, i4, i5⟩ := zero_rel (V := St.V V0 w0 σ w ρ β) hre
      have hm0 : 0 ≤ m := Int.le_trans h0 h1
      have hmb : m ≤ (bytes : Int) * m := by
        have : 1 * m ≤ (bytes : Int) * m := Int.mul_le_mul_of_nonneg_right (by omega) hm0
        rwa [Int.one_mul] at this
      have hb2 : (i.bytes : Int) * m ≤ 281474976710656 := by rw [i3, hby]; omega
      have hrun := run_make (P := P) w t e i z hu (by rw [← hid]; exact i1) i4 k k' n m h0 h1 hb2 (by omega)
      have hzs : z.cells.size = u.size := by have := Rel.length i5; rw [hty] at this; simpa using this
      have his : i.size = z.cells.size := by rw [i2, hty, hzs]
      rw [his, made_eq] at hrun
      have hnm : n.toNat ≤ m.toNat := by omega
      have hsz : ((List.replicate m.toNat z.cells.toList).flatten.toArray).size = m.toNat * u.size := by simp [hzs]
      refine exec_value (v := .slice (some ⟨w.heap.size, 0, none⟩) n.toNat m.toNat) (w' := w.alloc (.cells (List.replicate m.toNat z.cells.toList).flatten.toArray e)) (by simp [execOp, ho, el, ec, hrun]) ?_
      rw [hd]
      have hfl : (List.replicate n.toNat z.cells.toList).flatten.length = n.toNat * u.size := by simp [hzs]
      refine h.newRow hlk (World.grownBy_alloc w _ none) (fun k hk => by simp [Value.ownBlock] at hk; omega) ⟨List.replicate n.toNat z.cells.toList, ?_, by rw [hty] at i5; exact all2_zero i5 _⟩
      simp only [List.length_replicate]
      refine ownsRow_new h.below.size hnm ?_ hsz ?_ hfl
      · simp only [maxLen]; omega
      · have e1 : m.toNat = n.toNat + (m.toNat - n.toNat) := by omega
        rw [e1, ← List.replicate_append_replicate, List.flatten_append]
        show List.take _ (_ ++ _) = _
        rw [← hfl, List.take_left]
    split at he
    · rename_i k n k' m hl hc
      cases hok : okMake bytes n m with
      | false => simp [hok] at he
      | true =>
        simp only [hok, cond_true] at he
        obtain ⟨d, hd, hlk, rfl⟩ := addRow_some he
        exact main _ _ n m (av_int h hl) (av_int h hc) hok d hd hlk
    · cases he
  · cases he

theorem do_buildSlice (hT : TabOk P T.rows) (h : St V0 w0 σ a w ρ β) {o : Oper} {t : TypeId} {len : Nat} {parts : Array (Nat × Operand)} (ho : o.op = .buildSlice t len parts) {c : Cls} {σ' : AS}
    (he : doOp T Φ σ o (fun c s => some (c, s)) = some (c, σ')) : ExecTo P o a w (To V0 w0 σ') := by
  simp only [doOp, ho] at he
  split at he
  · rename_i u e bytes hel
    obtain ⟨re, hu, hre, hid, hty, hby, hpos⟩ := elemRow_some hT hel
    have h1 := h.frzs (parts.toList.map (·.2))
    split at he
    · rename_i xs hxs
      cases hle : (Nat.ble (len * u.size) 16777216 && Nat.ble len 16777216) with
      | false => simp [hle] at he
      | true =>
        simp only [hle, cond_true] at he
        rw [Bool.and_eq_true] at hle
        have hle' := Nat.le_of_ble_eq_true hle.1
        have hlen := Nat.le_of_ble_eq_true hle.2
        obtain ⟨d, hd, hlk, rfl⟩ := addRow_some he
        obtain ⟨i, z, i1, i2, i3, i4, i5⟩ := zero_rel (V := St.V V0 w0 (σ.frzs (parts.toList.map (·.2))) w ρ β) hre
        rw [hid] at i1
        have hzs : z.cells.size = u.size := by have := Rel.length i5; rw [hty] at this; simpa using this
        rw [hty] at i5 i2
        obtain ⟨yss, f1, f2⟩ := elems_rel h1.av parts.toList _ xs (List.replicate len z.cells.toList) hxs (all2_zero i5 len)
        have hmade : (Array.range (len * u.size)).map (z.cells[· % z.cells.size]!) = (List.replicate len z.cells.toList).flatten.toArray := by
          rw [← made_eq, hzs]; unfold madeCells; rw [hzs]
        have hxl : xs.length = len := by rw [elems_length _ _ _ hxs]; simp
        have hsz : i.size = u.size := i2
        have hfl := flatten_length f2
        have hrun : (execOp a.eval o).run P w = .ok (.value (.slice (some ⟨w.heap.size, 0, none⟩) len len)) (w.alloc (.cells yss.flatten.toArray e)) := by
          have hn : ¬ len * u.size > 16777216 := by omega
          have f1' : Instr.fill (fun i => some (i * u.size, u.size)) (List.replicate len z.cells.toList).flatten.toArray (List.map (fun x => (x.fst, a.eval x.snd)) parts.toList) = some yss.flatten.toArray := f1
          have hr0 : Array.map (fun x => (default : Value)) (Array.range 0) = #[] := by simp
          by_cases hz : len * u.size = 0
          · have he : (List.replicate len z.cells.toList).flatten = [] := by
              apply List.eq_nil_of_length_eq_zero
              simp [hzs, hz]
            rw [he] at f1'
            simp [execOp, ho, Instr.buildSlice, run_underlying hu, sizeOf, typeInfo, i1, hsz, hn, hz, hr0, f1', newRow]
          · simp [execOp, ho, Instr.buildSlice, run_underlying hu, sizeOf, typeInfo, zeroValue, i1, i4, hsz, hn, hz, hmade, f1', newRow]
        refine exec_value hrun ?_
        rw [hd]
        refine h1.newRow hlk (World.grownBy_alloc w _ none) (fun k hk => by simp [Value.ownBlock] at hk; omega) ⟨yss, ?_, f2⟩
        show (w.alloc (.cells yss.flatten.toArray e)).ownsRow _ _ u.size _ xs.length _
        have hlm : len ≤ maxLen := by simp only [maxLen]; omega
        rw [hxl]
        exact ownsRow_new h1.below.size (Nat.le_refl _) hlm (by simp [hfl, hxl]) (by show List.take (len * u.size) yss.flatten = _; rw [← hxl, ← hfl, List.take_length]) (by rw [hfl, hxl])
    · cases he
  · cases he
end
end Go.Abs
set_option linter.unusedVariables false
set_option linter.unusedSimpArgs false
namespace Go.Abs
open Go.RowKit Go.Lib

section
variable {P : Program} {T : Tab} {V0 : View} {w0 w w' : World} {σ : AS} {a : Act} {ρ : Nat → Value} {β : Nat → Nat}
variable {Φ : (f : FuncId) → DenL (T.sig f).args → Option (DenL ((T.sig f).res.map (·.1)))}

theorem append_run (base : Nat) (t ty e : TypeId) (i : TypeInfo) (z : Value) (size bytes : Nat) (ht : P.underlying t = some (.slice e)) (hi : P.info? e = some i) (hz : i.zero = some z)
    (hsize : i.size = size) (hby : i.bytes = bytes) (hzs : z.cells.size = size) (hsz : 0 < size) (hb0 : 0 < bytes)
    (v : Value) (n : Nat) (xs : List Value) (hown : w.ownsRow base e size v n xs)
    (A : Option Addr) (m c : Nat) (news : List Value) (hl : news.length = m * size) (hmc : m ≤ c) (hA : A = none → c = 0) (hnews : ∀ j u, news[j]? = some u → ∃ ad, A = some ad ∧ w.cell? (ad.add j) = some u) (h1 : ∀ u ∈ news, u.oneCell' = true)
    (hbytes : (n + m) * bytes ≤ 140737488355328) (hbase : base ≤ w.heap.size) :
    ∃ v' w', (Builtin.append_ #[t, t] ty #[v, .slice A m c]).run P w = .ok v' w' ∧ w'.ownsRow base e size v' (n + m) (xs ++ news) ∧ w.grownBy w' v.ownBlock ∧
      (∀ k, v'.ownBlock = some k → v.ownBlock = some k ∨ w.heap.size ≤ k) := by
  cases A with
  | none =>
    have hc := hA rfl
    subst hc
    obtain rfl : m = 0 := by omega
    have : news = [] := List.eq_nil_of_length_eq_zero (by simpa using hl)
    subst this
    have hrun := run_append_owned_none (P := P) (w := w) base t ty e i size ht hi v n xs hown
    exact ⟨v, w, hrun, by simpa using hown, ⟨rfl, rfl, rfl, Nat.le_refl _, fun _ _ _ => rfl⟩, fun k hk => .inl hk⟩
  | some ad =>
    have hn' : ∀ j u, news[j]? = some u → w.cell? (ad.add j) = some u := fun j u hj => by
      obtain ⟨ad', e', h⟩ := hnews j u hj
      obtain rfl : ad = ad' := by simpa using e'
      exact h
    have hle : n + m ≤ (n + m) * bytes := Nat.le_mul_of_pos_right _ hb0
    have h63 : n + m ≤ maxLen := by simp only [maxLen]; omega
    obtain ⟨v', w', hr, h2, h3, h4⟩ := run_append_own (P := P) w base t ty e i z size bytes ht hi hz hsize hby hzs hsz v n xs hown ad m c news hl hn' h1 h63 hbytes hbase
    refine ⟨v', w', hr, h2, h3, fun k hk => ?_⟩
    subst hsize hby
    rcases hown.2 with ⟨rfl, rfl⟩ | ⟨g, cap, cur, rfl, hbg, hg, hnc, hcm, hcs, htake⟩
    · by_cases hm : m = 0
      · have := h4.2 ⟨rfl, hm⟩
        rw [this] at hk; cases hk
      · have hr2 := run_append_nil (P := P) w t ty e i z ht hi hz ad m c news hl hn' (by omega) (by omega) (by simp only [Nat.zero_add] at hbytes; omega)
        rw [hr2] at hr
        injection hr with hr1 hr3
        rw [← hr1] at hk
        simp [Value.ownBlock] at hk
        exact .inr (by omega)
    · by_cases hroom : n + m ≤ cap
      · have hfit : n * i.size + news.length ≤ cur.size := by rw [hl, hcs, ← Nat.add_mul]; exact Nat.mul_le_mul_right _ hroom
        have hr2 := run_append_room (P := P) w t ty e i ht hi g n cap cur hg ad m c news hl hn' h1 hroom hfit
        rw [hr2] at hr
        injection hr with hr1 hr3
        rw [← hr1] at hk
        exact .inl hk
      · have holds : ∀ j u, xs[j]? = some u → w.cell? ((⟨g, 0, none⟩ : Addr).add j) = some u := hown.cells (g := g) rfl
        have hr2 := run_append_grow (P := P) w t ty e i z ht hi hz ⟨g, 0, none⟩ n cap xs hown.1 holds ad m c news hl hn' (by omega) (by omega) (growslice_fits (by omega) hbytes)
        rw [hr2] at hr
        injection hr with hr1 hr3
        rw [← hr1] at hk
        simp [Value.ownBlock] at hk
        exact .inr (by omega)

theorem appended_rel (hV0 : ∀ ad v, V0 ad v → w0.cell? ad = some v) (h : St V0 w0 σ a w ρ β) {t : Ty} {r : Nat} {x : Operand} {ys : List t.den} (he : appended t r σ (σ.av x) = some ys) :
    ∃ (A : Option Addr) (c : Nat) (yss : List (List Value)), a.eval x = .slice A ys.length c ∧ ys.length ≤ c ∧ All2 (Rel (St.V V0 w0 σ w ρ β) t) ys yss ∧ (A = none → c = 0) ∧
      ∀ j u, yss.flatten[j]? = some u → ∃ ad, A = some ad ∧ w.cell? (ad.add j) = some u := by
  have hx := h.av x
  unfold appended at he
  split at he
  · rename_i c hc
    have := unleaf1 he
    subst this
    rw [hc] at hx
    obtain ⟨A, cc, yss, e1, e2, e3, e4, e5⟩ := lrel_slice hx
    exact ⟨A, cc, yss, e1, e2, e3, e4, fun j u hj => by
      obtain ⟨ad, e, hv⟩ := e5 j u hj
      exact ⟨ad, e, view_cell hV0 h.below hv⟩⟩
  · rename_i q hq
    rw [hq] at hx
    split at he
    · rename_i row hrow
      cases hqr : Nat.beq q r with
      | true => simp [hqr] at he
      | false =>
        simp only [hqr, cond_false] at he
        have := unleaf1 he
        injection this with h1 h2
        injection h1 with h1
        obtain ⟨e', t', xs⟩ := row
        simp only at h1
        subst h1
        simp only [heq_eq_eq] at h2
        subst h2
        obtain ⟨A, cc, er, hlen, hnone⟩ := h.row hrow
        obtain ⟨yss, h3, h4⟩ := h.rowCells hrow
        refine ⟨A, cc, yss, by rw [hx.1, er], hlen, h3, hnone, fun j u hj => ?_⟩
        obtain ⟨yss', ⟨_, h5⟩, _⟩ := h.rows q _ hrow
        rcases h5 with ⟨h5, h6⟩ | ⟨g, cap, cur, h5, _⟩
        · have hx0 : xs = [] := List.eq_nil_of_length_eq_zero h6
          subst hx0
          have := flatten_length h3
          have hlt := (List.getElem?_eq_some_iff.1 hj).1
          simp at this
          rw [List.length_flatten] at hlt
          omega
        · rw [er] at h5
          injection h5 with h7 h8 h9
          subst h7
          exact ⟨_, rfl, by rw [addr0]; exact h4 g (by rw [er]; rfl) j u hj⟩
    · cases he
  · rename_i hl
    rw [hl] at hx
    simp only [Option.some.injEq] at he
    subst he
    exact ⟨none, 0, [], hx, Nat.le_refl _, trivial, fun _ => rfl, fun j u hj => by simp at hj⟩
  · cases he

theorem all2_one {V : View} {t : Ty} {xs : List t.den} {yss : List (List Value)} (h : All2 (Rel V t) xs yss) : ∀ u ∈ yss.flatten, u.oneCell' = true := by
  intro u hu
  obtain ⟨l, hl, hul⟩ := List.mem_flatten.1 hu
  obtain ⟨i, hi⟩ := List.getElem?_of_mem hl
  obtain ⟨x, _, hr⟩ := h.get' i l hi
  obtain ⟨j, hj⟩ := List.getElem?_of_mem hul
  obtain ⟨c, _, hc⟩ := (rel_flat hr).get' j u hj
  exact lrel_one hc

theorem do_append (hV0 : ∀ ad v, V0 ad v → w0.cell? ad = some v) (hT : TabOk P T.rows) (h : St V0 w0 σ a w ρ β) {o : Oper} {args : Array Operand} {ats : Array TypeId} (ho : o.op = .call { callee := .builtin .append, args := args, argTypes := ats })
    {c : Cls} {σ' : AS} (he : doOp T Φ σ o (fun c s => some (c, s)) = some (c, σ')) : ExecTo P o a w (To V0 w0 σ') := by
  simp only [doOp, ho] at he
  split at he
  · rename_i s x t tx hargs hats
    have hx' : args = #[s, x] := by cases args; simp at hargs; subst hargs; rfl
    have ht' : ats = #[t, tx] := by cases ats; simp at hats; subst hats; rfl
    subst hx' ht'
    cases htt : Nat.beq t tx with
    | false => simp [htt] at he
    | true =>
      have := (beq_iff _ _).1 htt
      subst this
      simp only [htt, cond_true] at he
      split at he
      · rename_i u e bytes hel
        obtain ⟨re, hu, hre, hid, hty, hby, hpos⟩ := elemRow_some hT hel
        obtain ⟨i, z, i1, i2, i3, i4, i5⟩ := zero_rel (V := St.V V0 w0 σ w ρ β) hre
        rw [hid] at i1
        rw [hty] at i5 i2
        rw [hby] at i3
        have hzs : z.cells.size = u.size := by simpa using Rel.length i5
        have hexec : ∀ (v' : Value) (w' : World), (Builtin.append_ #[t, t] o.type #[a.eval s, a.eval x]).run P w = .ok v' w' → (execOp a.eval o).run P w = .ok (.value v') w' := fun v' w' hv => by
          simp [execOp, ho, resolve, invoke, builtin, hv]
        split at he
        · rename_i r hr
          obtain ⟨es, hes⟩ := av_own h hr
          split at he
          · rename_i row hrow
            split at he
            · rename_i ys hys
              cases hc : (Nat.beq row.e e && Nat.beq row.t.size u.size && okApp bytes u.size row.xs.length ys.length) with
              | false => simp [hc] at he
              | true =>
                simp only [hc, cond_true] at he
                simp only [Bool.and_eq_true, okApp] at hc
                obtain ⟨⟨c1, c2⟩, c3, c4⟩ := hc
                have c1' := (beq_iff _ _).1 c1
                have c2' := (beq_iff _ _).1 c2
                have c3' : 0 < u.size := Nat.le_of_ble_eq_true c3
                have c4' := Nat.le_of_ble_eq_true c4
                obtain ⟨d, hd, hlk, rfl⟩ := addRow_some he
                obtain ⟨A, cc, yss, ex, f1, f2, f3, f4⟩ := appended_rel hV0 h hys
                obtain ⟨zss, hown, hall⟩ := h.rows r row hrow
                rw [c1', c2'] at hown
                obtain ⟨v', w', hrun, g1, g2, g3⟩ := append_run (P := P) w0.heap.size t o.type e i z u.size bytes hu i1 i4 i2 i3 hzs c3' hpos (ρ r) row.xs.length zss.flatten hown A ys.length cc yss.flatten (by rw [flatten_length f2, c2']) f1 f3 f4 (all2_one f2) c4' h.below.size
                refine exec_value (hexec v' w' (by rw [es, ex]; exact hrun)) ?_
                rw [hd]
                have hdel : ∀ k, look (del σ.rows r) k = if r = k then none else look σ.rows k := fun k => look_del _ _ _
                refine ⟨_, _, h.addRow (rows1 := (σ.loseRow r).rows) (tmps1 := (σ.loseRow r).tmps) (G := (ρ r).ownBlock) (row' := ⟨e, row.t, row.xs ++ ys⟩) ?_ ?_ hlk g2 ?_ g3 ⟨zss ++ yss, ?_, hall.append f2⟩⟩
                · intro k row' h1
                  have h1' : look (del σ.rows r) k = some row' := h1
                  rw [hdel] at h1'
                  split at h1'
                  · cases h1'
                  · exact h1'
                · exact map_rel (lose_rel (fun _ _ h => h) (fun k hk => by show look (del σ.rows r) k = _; rw [hdel, if_neg (Ne.symm hk)])) h.slots
                · intro g hg
                  refine ⟨.inl ⟨r, isSome_of hrow, hg⟩, fun k hk => ?_, fun b hb => h.rb r b g (isSome_of hrow) hb hg⟩
                  have hk' : (look (del σ.rows r) k).isSome = true := hk
                  rw [hdel] at hk'
                  split at hk'
                  · cases hk'
                  · rename_i hne
                    exact h.rr r k g hne (isSome_of hrow) hk' hg
                · rw [List.flatten_append, c2', List.length_append]; exact g1
            · cases he
          · cases he
        · rename_i hl
          have es := av_lit h hl
          split at he
          · rename_i ys hys
            cases hc : okApp bytes u.size 0 ys.length with
            | false => simp [hc] at he
            | true =>
              simp only [hc, cond_true] at he
              simp only [Bool.and_eq_true, okApp] at hc
              obtain ⟨c3, c4⟩ := hc
              have c3' : 0 < u.size := Nat.le_of_ble_eq_true c3
              have c4' := Nat.le_of_ble_eq_true c4
              obtain ⟨d, hd, hlk, rfl⟩ := addRow_some he
              obtain ⟨A, cc, yss, ex, f1, f2, f3, f4⟩ := appended_rel hV0 h hys
              obtain ⟨v', w', hrun, g1, g2, g3⟩ := append_run (P := P) w0.heap.size t o.type e i z u.size bytes hu i1 i4 i2 i3 hzs c3' hpos (.slice none 0 0) 0 [] (World.ownsRow_nil w _ e _) A ys.length cc yss.flatten (by rw [flatten_length f2]) f1 f3 f4 (all2_one f2) c4' h.below.size
              refine exec_value (hexec v' w' (by rw [es, ex]; exact hrun)) ?_
              rw [hd]
              refine h.newRow hlk g2 (fun k hk => (g3 k hk).resolve_left (fun e => by cases e)) ⟨yss, ?_, f2⟩
              simpa using g1
          · cases he
        · cases he
      · cases he
  · cases he
end
end Go.Abs
set_option linter.unusedVariables false
set_option linter.unusedSimpArgs false
namespace Go.Abs
open Go.RowKit Go.Lib

section
variable {P : Program} {T : Tab} {V0 : View} {w0 w w' : World} {σ : AS} {a : Act} {ρ : Nat → Value} {β : Nat → Nat}
variable {Φ : (f : FuncId) → DenL (T.sig f).args → Option (DenL ((T.sig f).res.map (·.1)))}

theorem do_slice (hV0 : ∀ ad v, V0 ad v → w0.cell? ad = some v) (hT : TabOk P T.rows) (h : St V0 w0 σ a w ρ β) {o : Oper} {t : TypeId} {x : Operand} {lo hi mx : Option Operand} (ho : o.op = .slice t x lo hi mx)
    {c : Cls} {σ' : AS} (he : doOp T Φ σ o (fun c s => some (c, s)) = some (c, σ')) : ExecTo P o a w (To V0 w0 σ') := by
  simp only [doOp, ho] at he
  split at he
  · rename_i q hq
    obtain ⟨ex, _⟩ := av_own h hq
    split at he
    · rename_i hi' row hrow
      split at he
      · rename_i u e bytes k n hel hn
        obtain ⟨re, hu, hre, hid, hty, hby, hpos⟩ := elemRow_some hT hel
        have main : ∀ (k : IntKind) (n : Int), a.eval hi' = .int k n → (Nat.beq u.size row.t.size && inCut row.xs.length 0 n) = true → ∀ d, o.dst = some d → look (σ.loseRow q).rows d = none →
            ExecTo P o a w (To V0 w0 ⟨setN (σ.loseRow q).tmps d (.rv (.own d)), put (σ.loseRow q).rows d ⟨row.e, row.t, row.xs.take n.toNat⟩, (σ.loseRow q).boxes⟩) := by
          intro k n en hc d hd hlk
          rw [Bool.and_eq_true] at hc
          have hsu := (beq_iff _ _).1 hc.1
          obtain ⟨c1, c2, c3⟩ := inCut_iff.1 hc.2
          obtain ⟨A, cap, er, hlen, hnone⟩ := h.row hrow
          have hsz : (sizeOf e).run P w = .ok u.size w := by rw [← hid, ← hty]; exact size_run hre w
          have hb := fun code => run_bound (P := P) (w := w) (y := cap) (code := code) en c2 (by omega)
          have hA : (if cap = 0 then A else A.map (·.add (0 * u.size))) = A := by
            split
            · rfl
            · cases A with
              | none => rfl
              | some ad => simp [Addr.add]
          have hrun : (execOp a.eval o).run P w = .ok (.value (.slice A n.toNat cap)) w := by
            have hb' : (Instr.sliceBounds true row.xs.length cap none (some (a.eval hi')) none).run P w = .ok (0, n.toNat, cap) w := by
              simp [Instr.sliceBounds, hb]
            have hs : (Instr.slice t (.slice A row.xs.length cap) none (some (a.eval hi')) none).run P w = .ok (.slice A n.toNat cap) w := by
              simp only [Instr.slice, Sem.run_bind, run_underlying hu, Result.andThen_ok, hb', hsz, Sem.run_pure, hA, Nat.sub_zero]
            simp only [execOp, ho, Instr.sliceAt, Sem.run_bind, run_underlying hu, Result.andThen_ok, ex, er, Option.map_none, Option.map_some, hs, Sem.run_pure]
          refine exec_value hrun ?_
          rw [hd]
          have hdel : ∀ k, look (del σ.rows q) k = if q = k then none else look σ.rows k := fun k => look_del _ _ _
          have hob : (Value.slice A n.toNat cap).ownBlock = (ρ q).ownBlock := by rw [er]; cases A <;> rfl
          obtain ⟨yss, ⟨e1, e2⟩, hall⟩ := h.rows q row hrow
          refine ⟨_, _, h.addRow (rows1 := (σ.loseRow q).rows) (tmps1 := (σ.loseRow q).tmps) (G := (ρ q).ownBlock) (row' := ⟨row.e, row.t, row.xs.take n.toNat⟩) ?_ ?_ hlk ⟨rfl, rfl, rfl, Nat.le_refl _, fun _ _ _ => rfl⟩ ?_ (fun k hk => .inl (by rw [← hob]; exact hk)) ⟨yss.take n.toNat, ?_, hall.take _⟩⟩
          · intro k row' h1
            have h1' : look (del σ.rows q) k = some row' := h1
            rw [hdel] at h1'
            split at h1'
            · cases h1'
            · exact h1'
          · exact map_rel (lose_rel (fun _ _ h => h) (fun k hk => by show look (del σ.rows q) k = _; rw [hdel, if_neg (Ne.symm hk)])) h.slots
          · intro g hg
            refine ⟨.inl ⟨q, isSome_of hrow, hg⟩, fun k hk => ?_, fun b hb => h.rb q b g (isSome_of hrow) hb hg⟩
            have hk' : (look (del σ.rows q) k).isSome = true := hk
            rw [hdel] at hk'
            split at hk'
            · cases hk'
            · rename_i hne
              exact h.rr q k g hne (isSome_of hrow) hk' hg
          · have hft := flatten_take n.toNat hall
            have hfl := flatten_length hall
            have hmul : n.toNat * row.t.size ≤ row.xs.length * row.t.size := Nat.mul_le_mul_right _ (by omega)
            have hln : (row.xs.take n.toNat).length = n.toNat := by rw [List.length_take]; omega
            show w.ownsRow w0.heap.size row.e row.t.size _ (row.xs.take n.toNat).length _
            rw [hln, hft]
            refine ⟨by rw [List.length_take, hfl]; omega, ?_⟩
            rcases e2 with ⟨e2, e3⟩ | ⟨g, cap', cur, e2, f1, f2, f3, f4, f5, f6⟩
            · rw [er] at e2
              injection e2 with e4 e5 e6
              left
              have : n.toNat = 0 := by omega
              rw [this, e4, e6]
              exact ⟨rfl, rfl⟩
            · rw [er] at e2
              injection e2 with e4 e5 e6
              subst e4 e6
              exact .inr ⟨g, cap, cur, rfl, f1, f2, by omega, f4, f5, by rw [← f6, List.take_take, Nat.min_eq_left hmul]⟩
        cases hc : (Nat.beq u.size row.t.size && inCut row.xs.length 0 n) with
        | false => simp [hc] at he
        | true =>
          simp only [hc, cond_true] at he
          obtain ⟨d, hd, hlk, rfl⟩ := addRow_some he
          exact main _ n (av_int h hn) hc d hd hlk
      · cases he
    · exact exec_pure' hV0 hT (h.freeze q) he
  · exact exec_pure' hV0 hT h he

/-! ## Calls -/

def ArgsOk (V : View) : (ts : List Ty) → DenL ts → List Value → Prop
  | [], _, vs => vs = []
  | [t], x, vs => ∃ v, vs = [v] ∧ VRel V t x v
  | t :: u :: ts, x, vs => ∃ v r, vs = v :: r ∧ VRel V t x.1 v ∧ ArgsOk V (u :: ts) x.2 r

def ResOne (V : View) (w : World) (B : Nat) (ρ : Nat → Value) (d : Nat) (p : Ty × Option TypeId) (x : p.1.den) (v : Value) : Prop :=
  match p.2 with
  | none => VRel V p.1 x v
  | some e => v = ρ d ∧ ∃ row, ownRow p.1 e x = some row ∧ RowRel V w B (ρ d) row

def ResOk (V : View) (w : World) (B : Nat) (ρ : Nat → Value) : Nat → (ts : List (Ty × Option TypeId)) → DenL (ts.map (·.1)) → List Value → Prop
  | _, [], _, vs => vs = []
  | d, [p], x, vs => ∃ v, vs = [v] ∧ ResOne V w B ρ d p x v
  | d, p :: q :: ts, x, vs => ∃ v r, vs = v :: r ∧ ResOne V w B ρ d p x.1 v ∧ ResOk V w B ρ (d + 1) (q :: ts) x.2 r

/-- One value, or a tuple. -/
def resV : List Value → Value
  | [v] => v
  | l => .tuple l.toArray

def OwnHid (keys : List Nat) (ρ : Nat → Value) (k : Nat) : Prop := ∃ j ∈ keys, (ρ j).ownBlock = some k

/-- What a call leaves behind. -/
def Left (V0 : View) (w0 : World) (ts : List (Ty × Option TypeId)) (y : DenL (ts.map (·.1))) (d : Nat) (e : Ending) (w' : World) : Prop :=
  ∃ vs ρ, e = .returned (resV vs) ∧ Below w0.heap.size w0 w' ∧
    (∀ k k' g, k ∈ keysOf d ts → k' ∈ keysOf d ts → k ≠ k' → (ρ k).ownBlock = some g → (ρ k').ownBlock ≠ some g) ∧
    ResOk (view V0 w0.heap.size (OwnHid (keysOf d ts) ρ) w') w' w0.heap.size ρ d ts y vs

def FnOk (P : Program) (T : Tab) (Φ : (f : FuncId) → DenL (T.sig f).args → Option (DenL ((T.sig f).res.map (·.1)))) : Prop :=
  ∀ f x y, Φ f x = some y → ∀ (V0 : View) (w0 : World) (args : Array Value) (d : Nat), (∀ ad v, V0 ad v → w0.cell? ad = some v) → ArgsOk V0 (T.sig f).args x args.toList →
    Calls P f args w0 (Left V0 w0 (T.sig f).res y d) ∧ ∃ fn, P.funcs[f]? = some fn ∧ fn.body.isSome = true ∧ (fn.name == "runtime.NumGoroutine") = false

theorem getArgs_rel {V : View} {rows : List (Nat × Row)} {boxes : List (Nat × List CV)} (hav : ∀ x, AvRel V rows boxes ρ β (σ.av x) (a.eval x)) : ∀ (ts : List Ty) (xs : List Operand) (y : DenL ts),
    getArgs ts (xs.map σ.av) = some y → ArgsOk V ts y (xs.map a.eval)
  | [], [], y, h => rfl
  | [t], [x], y, h => ⟨_, rfl, typed_rel h (hav x)⟩
  | t :: u :: ts, x :: xs, y, h => by
    simp only [List.map_cons, getArgs] at h
    split at h
    · rename_i v hv
      split at h
      · rename_i z hz
        simp only [Option.some.injEq] at h
        subst h
        exact ⟨_, _, rfl, typed_rel hv (hav x), getArgs_rel hav (u :: ts) xs z hz⟩
      · cases h
    · cases h
  | [], _ :: _, y, h => by simp [getArgs] at h
  | [t], [], y, h => by simp [getArgs] at h
  | [t], _ :: _ :: _, y, h => by simp [getArgs] at h
  | t :: u :: ts, [], y, h => by simp [getArgs] at h
end
end Go.Abs
