/- YtofjebmoebhiiaaGreatDoorXf: a part of the proof (P0). No condition. -/
import Derived.Test.YtofjebmoebhiiaaGreatDoorXe
set_option linter.unusedVariables false
set_option maxRecDepth 100000
set_option exponentiation.threshold 2000
namespace Go.Proofs.YtofjebmoebhiiaaGreatDoor.Ev
open Go.Abs
def f47_P (_n : Nat) (s : Ts) : Option Ts := bif okApp 16 2 0 s.length then some s else none
theorem f47_P_ok (n : Nat) (s : Ts) : Le (f47_P n s) (f47 s) := le (evI_eq1 T B lf 84 s) (lr _)
def f108_P (_n : Nat) (s : ByteArray) (c : Int) : Option Int := bif decide (0 ≤ c) && decide (c < 256) then some (idxB c 0 s.data.toList) else none
theorem f108_P_ok (n : Nat) (s : ByteArray) (c : Int) : Le (f108_P n s c) (f108 s c) := le (evI_eq1 T B lf 165 (s, c)) (lr _)
def f5_P (fu : Nat) (l : Ts) (w : Int × Int × Unit) : Option (Bool) :=
 bif ((l.length : Int) == (0 : Int)) then
  some (denEq yT (w.1, (w.2.1, ())) ((0 : Int), ((0 : Int), ())))
 else
  some false
theorem f5_P_ok (fu : Nat) (l : Ts) (w : Int × Int × Unit) : Le (f5_P fu l w) (f5 l w) := le (f5_eq l w) (
 lc (lr _) (lr _))
def f6_Ls : Nat → (Ts → Ts → (Int) → Option (Bool))
 | 0 => (fun _ _ _ => none)
 | fu + 1 => (fun a b i =>
  bif (decide (i < (a.length : Int))) then
   (idx a i).bind fun v0 =>
   (idx b i).bind fun v1 =>
   bif (!(denEq yT (v0.1, (v0.2.1, ())) (v1.1, (v1.2.1, ())))) then
    some false
   else
    (f6_Ls fu) a b (W (i + (1 : Int)))
  else
   some true)
theorem f6_Ls_ok : ∀ fu, (∀ (a : Ts) (b : Ts) (i : Int), Le ((f6_Ls fu) a b i) (f6_L0 a b i))
 | 0 => fun _ _ _ => ln _
 | fu + 1 => by
  have ih := f6_Ls_ok fu
  exact fun a b i => le (f6_L0_eq a b i) (
   lc (
   lb fun v0 =>
   lb fun v1 =>
   lc (lr _) (
   ih a b (W (i + (1 : Int))))) (lr _))
def f6_P (fu : Nat) (a : Ts) (b : Ts) : Option (Bool) :=
 bif ((a.length : Int) != (b.length : Int)) then
  some false
 else
  (f6_Ls fu) a b (0 : Int)
theorem f6_P_ok (fu : Nat) (a : Ts) (b : Ts) : Le (f6_P fu a b) (f6 a b) := le (f6_eq a b) (
 lc (lr _) (
 (f6_Ls_ok fu) a b (0 : Int)))
def f10_Ls : Nat → (Ts → Ts → (Int) → Option (Bool))
 | 0 => (fun _ _ _ => none)
 | fu + 1 => (fun a b i =>
  bif (decide (i < (a.length : Int))) then
   (idx a i).bind fun v0 =>
   (idx b i).bind fun v1 =>
   bif (!(denEq yT (v0.1, (v0.2.1, ())) (v1.1, (v1.2.1, ())))) then
    some false
   else
    (f10_Ls fu) a b (W (i + (1 : Int)))
  else
   some true)
theorem f10_Ls_ok : ∀ fu, (∀ (a : Ts) (b : Ts) (i : Int), Le ((f10_Ls fu) a b i) (f10_L0 a b i))
 | 0 => fun _ _ _ => ln _
 | fu + 1 => by
  have ih := f10_Ls_ok fu
  exact fun a b i => le (f10_L0_eq a b i) (
   lc (
   lb fun v0 =>
   lb fun v1 =>
   lc (lr _) (
   ih a b (W (i + (1 : Int))))) (lr _))
def f10_P (fu : Nat) (a : Ts) (b : Ts) : Option (Bool) :=
 bif ((a.length : Int) != (b.length : Int)) then
  some false
 else
  (f10_Ls fu) a b (0 : Int)
theorem f10_P_ok (fu : Nat) (a : Ts) (b : Ts) : Le (f10_P fu a b) (f10 a b) := le (f10_eq a b) (
 lc (lr _) (
 (f10_Ls_ok fu) a b (0 : Int)))
def f11_Ls : Nat → ((List Int) → (Int) → Ts → Option Ts)
 | 0 => (fun _ _ _ => none)
 | fu + 1 => (fun l i out =>
  bif (decide ((W (i + (1 : Int))) < (l.length : Int))) then
   (idx l i).bind fun v0 =>
   (idx l (W (i + (1 : Int)))).bind fun v1 =>
   bif (okApp 16 2 out.length 1) then
    let e2 : Ts := (out ++ ([(v0, (v1, ()))] : Ts))
    (f11_Ls fu) l (W (i + (2 : Int))) e2
   else
    none
  else
   some out)
theorem f11_Ls_ok : ∀ fu, (∀ (l : List Int) (i : Int) (out : Ts), Le ((f11_Ls fu) l i out) (f11_L0 l i out))
 | 0 => fun _ _ _ => ln _
 | fu + 1 => by
  have ih := f11_Ls_ok fu
  exact fun l i out => le (f11_L0_eq l i out) (
   lc (
   lb fun v0 =>
   lb fun v1 =>
   lc (
   let e2 : Ts := (out ++ ([(v0, (v1, ()))] : Ts))
   ih l (W (i + (2 : Int))) e2) (lr _)) (lr _))
def f11_P (fu : Nat) (l : List Int) : Option Ts :=
 (f11_Ls fu) l (0 : Int) ([] : Ts)
theorem f11_P_ok (fu : Nat) (l : List Int) : Le (f11_P fu l) (f11 l) := le (f11_eq l) (
 (f11_Ls_ok fu) l (0 : Int) ([] : Ts))
def f16_Ls : Nat → ((Int) → (Int) → Option (Bool))
 | 0 => (fun _ _ => none)
 | fu + 1 => (fun p k =>
  bif (decide (k < p)) then
   bif (decide (p ≤ (251 : Int))) then
    bif (!(k == 0)) then
     bif ((p.tmod k) == (0 : Int)) then
      some false
     else
      (f16_Ls fu) p (W (k + (1 : Int)))
    else
     none
   else
    bif (decide (p ≥ (2 : Int))) then
     some (decide (p ≤ (251 : Int)))
    else
     some false
  else
   bif (decide (p ≥ (2 : Int))) then
    some (decide (p ≤ (251 : Int)))
   else
    some false)
theorem f16_Ls_ok : ∀ fu, (∀ (p : Int) (k : Int), Le ((f16_Ls fu) p k) (f16_L0 p k))
 | 0 => fun _ _ => ln _
 | fu + 1 => by
  have ih := f16_Ls_ok fu
  exact fun p k => le (f16_L0_eq p k) (
   lc (
   lc (
   lc (
   lc (lr _) (
   ih p (W (k + (1 : Int))))) (lr _)) (
   lc (lr _) (lr _))) (
   lc (lr _) (lr _)))
def f16_P (fu : Nat) (p : Int) : Option (Bool) :=
 (f16_Ls fu) p (2 : Int)
theorem f16_P_ok (fu : Nat) (p : Int) : Le (f16_P fu p) (f16 p) := le (f16_eq p) (
 (f16_Ls_ok fu) p (2 : Int))
def f22_P (fu : Nat) (a : Int × Int × Unit) (b : Int × Int × Unit) : Option (Int) :=
 some (W (a.1 - b.1))
theorem f22_P_ok (fu : Nat) (a : Int × Int × Unit) (b : Int × Int × Unit) : Le (f22_P fu a b) (f22 a b) := le (f22_eq a b) (lr _)
def f25_Ls : Nat → ((List Int) → (List Int) → (Int) → Option (Int))
 | 0 => (fun _ _ _ => none)
 | fu + 1 => (fun a b i =>
  bif (decide (i < (a.length : Int))) then
   (idx a i).bind fun v0 =>
   (idx b i).bind fun v1 =>
   bif (decide (v0 < v1)) then
    some (-1 : Int)
   else
    (idx a i).bind fun v2 =>
    (idx b i).bind fun v3 =>
    bif (decide (v2 > v3)) then
     some (1 : Int)
    else
     (f25_Ls fu) a b (W (i + (1 : Int)))
  else
   some (0 : Int))
theorem f25_Ls_ok : ∀ fu, (∀ (a : List Int) (b : List Int) (i : Int), Le ((f25_Ls fu) a b i) (f25_L0 a b i))
 | 0 => fun _ _ _ => ln _
 | fu + 1 => by
  have ih := f25_Ls_ok fu
  exact fun a b i => le (f25_L0_eq a b i) (
   lc (
   lb fun v0 =>
   lb fun v1 =>
   lc (lr _) (
   lb fun v2 =>
   lb fun v3 =>
   lc (lr _) (
   ih a b (W (i + (1 : Int)))))) (lr _))
def f25_P (fu : Nat) (a : List Int) (b : List Int) : Option (Int) :=
 bif ((a.length : Int) != (b.length : Int)) then
  bif (decide ((a.length : Int) < (b.length : Int))) then
   some (-1 : Int)
  else
   some (1 : Int)
 else
  (f25_Ls fu) a b (0 : Int)
theorem f25_P_ok (fu : Nat) (a : List Int) (b : List Int) : Le (f25_P fu a b) (f25 a b) := le (f25_eq a b) (
 lc (
 lc (lr _) (lr _)) (
 (f25_Ls_ok fu) a b (0 : Int)))
def f28_Ls : Nat → ((ByteArray) → (Int) → Option (ByteArray × ByteArray × Bool))
 | 0 => (fun _ _ => none)
 | fu + 1 => (fun a i =>
  bif (decide (i < (a.size : Int))) then
   (sidx a i).bind fun v0 =>
   bif (v0 == (47 : Int)) then
    bif (inCut a.size (0 : Int) i) then
     bif (inCut a.size (W (i + (1 : Int))) (a.size : Int)) then
      let e1 : ByteArray := (a.extract (W (i + (1 : Int))).toNat (a.size : Int).toNat)
      some ((a.extract (0 : Int).toNat i.toNat), e1, true)
     else
      none
    else
     none
   else
    (f28_Ls fu) a (W (i + (1 : Int)))
  else
   some (a, (bs [49]), false))
theorem f28_Ls_ok : ∀ fu, (∀ (a : ByteArray) (i : Int), Le ((f28_Ls fu) a i) (f28_L0 a i))
 | 0 => fun _ _ => ln _
 | fu + 1 => by
  have ih := f28_Ls_ok fu
  exact fun a i => le (f28_L0_eq a i) (
   lc (
   lb fun v0 =>
   lc (
   lc (
   lc (
   let e1 : ByteArray := (a.extract (W (i + (1 : Int))).toNat (a.size : Int).toNat)
   lr _) (lr _)) (lr _)) (
   ih a (W (i + (1 : Int))))) (lr _))
def f28_P (fu : Nat) (a : ByteArray) : Option (ByteArray × ByteArray × Bool) :=
 (f28_Ls fu) a (0 : Int)
theorem f28_P_ok (fu : Nat) (a : ByteArray) : Le (f28_P fu a) (f28 a) := le (f28_eq a) (
 (f28_Ls_ok fu) a (0 : Int))
def f30_Ls : Nat → ((Int) → (Int) → Option (Bool))
 | 0 => (fun _ _ => none)
 | fu + 1 => (fun p t =>
  bif (decide (t < (16 : Int))) then
   bif (decide (t > (1 : Int))) then
    bif (!(t == 0)) then
     bif ((p.tmod t) == (0 : Int)) then
      bif (p != t) then
       some false
      else
       (f30_Ls fu) p (W (t + (1 : Int)))
     else
      (f30_Ls fu) p (W (t + (1 : Int)))
    else
     none
   else
    (f30_Ls fu) p (W (t + (1 : Int)))
  else
   bif (decide (p > (1 : Int))) then
    some (decide (p ≤ (251 : Int)))
   else
    some false)
theorem f30_Ls_ok : ∀ fu, (∀ (p : Int) (t : Int), Le ((f30_Ls fu) p t) (f30_L0 p t))
 | 0 => fun _ _ => ln _
 | fu + 1 => by
  have ih := f30_Ls_ok fu
  exact fun p t => le (f30_L0_eq p t) (
   lc (
   lc (
   lc (
   lc (
   lc (lr _) (
   ih p (W (t + (1 : Int))))) (
   ih p (W (t + (1 : Int))))) (lr _)) (
   ih p (W (t + (1 : Int))))) (
   lc (lr _) (lr _)))
def f30_P (fu : Nat) (p : Int) : Option (Bool) :=
 (f30_Ls fu) p (0 : Int)
theorem f30_P_ok (fu : Nat) (p : Int) : Le (f30_P fu p) (f30 p) := le (f30_eq p) (
 (f30_Ls_ok fu) p (0 : Int))
def f32_Ls : Nat → ((Int) → Ts → Ts → (Int) → (Int) → Option (Int))
 | 0 => (fun _ _ _ _ _ => none)
 | fu + 1 => (fun p c t t2 t3 =>
  bif (decide (t3 < t2)) then
   (idx t t3).bind fun v0 =>
   bif (decide (v0.1 < (0 : Int))) then
    some (1 : Int)
   else
    bif (decide (v0.1 ≥ (1024 : Int))) then
     some (1 : Int)
    else
     bif (decide (v0.2.1 < (1 : Int))) then
      some (1 : Int)
     else
      bif (decide (v0.2.1 ≥ p)) then
       some (1 : Int)
      else
       bif (decide (t3 > (0 : Int))) then
        (idx c (W (t3 - (1 : Int)))).bind fun v1 =>
        bif (decide (v0.1 ≤ v1.1)) then
         some (6 : Int)
        else
         (f32_Ls fu) p c t t2 (W (t3 + (1 : Int)))
       else
        (f32_Ls fu) p c t t2 (W (t3 + (1 : Int)))
  else
   some (0 : Int))
theorem f32_Ls_ok : ∀ fu, (∀ (p : Int) (c : Ts) (t : Ts) (t2 : Int) (t3 : Int), Le ((f32_Ls fu) p c t t2 t3) (f32_L0 p c t t2 t3))
 | 0 => fun _ _ _ _ _ => ln _
 | fu + 1 => by
  have ih := f32_Ls_ok fu
  exact fun p c t t2 t3 => le (f32_L0_eq p c t t2 t3) (
   lc (
   lb fun v0 =>
   lc (lr _) (
   lc (lr _) (
   lc (lr _) (
   lc (lr _) (
   lc (
   lb fun v1 =>
   lc (lr _) (
   ih p c t t2 (W (t3 + (1 : Int))))) (
   ih p c t t2 (W (t3 + (1 : Int))))))))) (lr _))
def f32_P (fu : Nat) (p : Int) (c : Ts) : Option (Int) :=
 (f30_P fu p).bind fun r0 =>
 bif (!r0) then
  some (8 : Int)
 else
  (f32_Ls fu) p c c (c.length : Int) (0 : Int)
theorem f32_P_ok (fu : Nat) (p : Int) (c : Ts) : Le (f32_P fu p c) (f32 p c) := le (f32_eq p c) (
 lx (f30_P_ok fu p) fun r0 =>
 lc (lr _) (
 (f32_Ls_ok fu) p c c (c.length : Int) (0 : Int)))
def f33_P (fu : Nat) (t : Int × Int × Unit) (t2 : Int) : Option (Bool) :=
 some (decide (t.1 ≥ t2))
theorem f33_P_ok (fu : Nat) (t : Int × Int × Unit) (t2 : Int) : Le (f33_P fu t t2) (f33 t t2) := le (f33_eq t t2) (lr _)
def f34_P (fu : Nat) (t : Int × Int × Unit) (t2 : Int × Cs × Unit) (t3 : Int × ByteArray × Ts × Unit) : Option (Bool) :=
 (idx t2.2.1 t.1).bind fun v0 =>
 some (v0.1 != (W (t3.1 - (1 : Int))))
theorem f34_P_ok (fu : Nat) (t : Int × Int × Unit) (t2 : Int × Cs × Unit) (t3 : Int × ByteArray × Ts × Unit) : Le (f34_P fu t t2 t3) (f34 t t2 t3) := le (f34_eq t t2 t3) (
 lb fun v0 =>
 lr _)
def f40_Ls : Nat → ((Int) → (Bool) → (List Int) → (Bool) → (List Int) → Option (Bool × (List Int) × Unit))
 | 0 => (fun _ _ _ _ _ => none)
 | fu + 1 => (fun u neg d t t2 =>
  bif (decide (u > (0 : Int))) then
   let e0 : List Int := ([(IntKind.wrap .u32 (u.tmod (1000000000 : Int)))] : List Int)
   bif (okApp 4 1 d.length 1) then
    (f40_Ls fu) (IntKind.wrap .u64 (u.tdiv (1000000000 : Int))) neg (d ++ e0) t t2
   else
    none
  else
   some (neg, (d, ())))
theorem f40_Ls_ok : ∀ fu, (∀ (u : Int) (neg : Bool) (d : List Int) (t : Bool) (t2 : List Int), Le ((f40_Ls fu) u neg d t t2) (f40_L0 u neg d t t2))
 | 0 => fun _ _ _ _ _ => ln _
 | fu + 1 => by
  have ih := f40_Ls_ok fu
  exact fun u neg d t t2 => le (f40_L0_eq u neg d t t2) (
   lc (
   let e0 : List Int := ([(IntKind.wrap .u32 (u.tmod (1000000000 : Int)))] : List Int)
   lc (
   ih (IntKind.wrap .u64 (u.tdiv (1000000000 : Int))) neg (d ++ e0) t t2) (lr _)) (lr _))
def f40_P (fu : Nat) (n : Int) : Option (Bool × (List Int) × Unit) :=
 bif (decide (n < (0 : Int))) then
  (f40_Ls fu) (IntKind.wrap .u64 (0 - (IntKind.wrap .u64 n))) (decide (n < (0 : Int))) ([] : List Int) false ([] : List Int)
 else
  (f40_Ls fu) (IntKind.wrap .u64 n) (decide (n < (0 : Int))) ([] : List Int) false ([] : List Int)
theorem f40_P_ok (fu : Nat) (n : Int) : Le (f40_P fu n) (f40 n) := le (f40_eq n) (
 lc (
 (f40_Ls_ok fu) (IntKind.wrap .u64 (0 - (IntKind.wrap .u64 n))) (decide (n < (0 : Int))) ([] : List Int) false ([] : List Int)) (
 (f40_Ls_ok fu) (IntKind.wrap .u64 n) (decide (n < (0 : Int))) ([] : List Int) false ([] : List Int)))
def f41_P (fu : Nat) (a : Bool × (List Int) × Unit) : Option (Int) :=
 bif ((a.2.1.length : Int) == (0 : Int)) then
  some (0 : Int)
 else
  bif a.1 then
   some (-1 : Int)
  else
   some (1 : Int)
theorem f41_P_ok (fu : Nat) (a : Bool × (List Int) × Unit) : Le (f41_P fu a) (f41 a) := le (f41_eq a) (
 lc (lr _) (
 lc (lr _) (lr _)))
def f45_P (fu : Nat) (a : (Bool × (List Int) × Unit) × (Bool × (List Int) × Unit) × Unit) : Option (Bool × (List Int) × Unit) :=
 (f41_P fu (a.2.1.1, (a.2.1.2.1, ()))).bind fun r0 =>
 bif (r0 == (0 : Int)) then
  (f40_P fu (1 : Int)).bind fun r1 =>
  some (r1.1, (r1.2.1, ()))
 else
  some (a.2.1.1, (a.2.1.2.1, ()))
theorem f45_P_ok (fu : Nat) (a : (Bool × (List Int) × Unit) × (Bool × (List Int) × Unit) × Unit) : Le (f45_P fu a) (f45 a) := le (f45_eq a) (
 lx (f41_P_ok fu (a.2.1.1, (a.2.1.2.1, ()))) fun r0 =>
 lc (
 lx (f40_P_ok fu (1 : Int)) fun r1 =>
 lr _) (lr _))
def f46_Ls : Nat → ((List Int) → (Int) → (Int) → (List Int) → (Bool) → (List Int) → Option (ByteArray)) × ((Int) → (List Int) → (Int) → (Int) → (Int) → (List Int) → (Bool) → (List Int) → Option (ByteArray)) × ((List Int) → (Bool) → (List Int) → Option (ByteArray)) × ((Int) → (Int) → (List Int) → Option (ByteArray))
 | 0 => (fun _ _ _ _ _ _ => none, fun _ _ _ _ _ _ _ _ => none, fun _ _ _ => none, fun _ _ _ => none)
 | fu + 1 => (fun t t2 t3 out a a2 =>
  bif (decide (t3 < t2)) then
   (idx t t3).bind fun v0 =>
   (f46_Ls fu).2.1 v0 t t2 t3 (0 : Int) out a a2
  else
   (f46_Ls fu).2.2.1 out a a2,
  fun x t t2 t3 t4 out a a2 =>
  bif (decide (t4 < (9 : Int))) then
   let e0 : Int := (IntKind.wrap .u32 ((48 : Int) + (x.tmod (10 : Int))))
   bif (okApp 1 1 out.length 1) then
    (f46_Ls fu).2.1 (IntKind.wrap .u32 (x.tdiv (10 : Int))) t t2 t3 (W (t4 + (1 : Int))) (out ++ ([(IntKind.wrap .u8 e0)] : List Int)) a a2
   else
    none
  else
   (f46_Ls fu).1 t t2 (W (t3 + (1 : Int))) out a a2,
  fun out a a2 =>
  let e0 : Int := (W ((out.length : Int) - (1 : Int)))
  (idx out e0).bind fun _ =>
  (out[e0.toNat]?).bind fun v1 =>
  bif (v1 == (48 : Int)) then
   let e2 : Int := (W ((out.length : Int) - (1 : Int)))
   bif (inCut out.length 0 e2) then
    (f46_Ls fu).2.2.1 (out.take e2.toNat) a a2
   else
    none
  else
   bif a then
    bif (okApp 1 1 out.length 1) then
     let e3 : Int := ((out ++ ([(45 : Int)] : List Int)).length : Int)
     (f46_Ls fu).2.2.2 (0 : Int) (W (e3 - (1 : Int))) (out ++ ([(45 : Int)] : List Int))
    else
     none
   else
    let e4 : Int := (W ((out.length : Int) - (1 : Int)))
    (f46_Ls fu).2.2.2 (0 : Int) e4 out,
  fun i j out =>
  bif (decide (i < j)) then
   (idx out j).bind fun _ =>
   (out[j.toNat]?).bind fun v0 =>
   (idx out i).bind fun _ =>
   (out[i.toNat]?).bind fun v1 =>
   (idx out i).bind fun _ =>
   (out[i.toNat]?).bind fun v2 =>
   (idx (out.set i.toNat v0) j).bind fun _ =>
   ((out.set i.toNat v0)[j.toNat]?).bind fun v3 =>
   (f46_Ls fu).2.2.2 (W (i + (1 : Int))) (W (j - (1 : Int))) ((out.set i.toNat v0).set j.toNat v1)
  else
   some (strOf out))
theorem f46_Ls_ok : ∀ fu, (∀ (t : List Int) (t2 : Int) (t3 : Int) (out : List Int) (a : Bool) (a2 : List Int), Le ((f46_Ls fu).1 t t2 t3 out a a2) (f46_L0 t t2 t3 out a a2)) ∧ (∀ (x : Int) (t : List Int) (t2 : Int) (t3 : Int) (t4 : Int) (out : List Int) (a : Bool) (a2 : List Int), Le ((f46_Ls fu).2.1 x t t2 t3 t4 out a a2) (f46_L1 x t t2 t3 t4 out a a2)) ∧ (∀ (out : List Int) (a : Bool) (a2 : List Int), Le ((f46_Ls fu).2.2.1 out a a2) (f46_L2 out a a2)) ∧ (∀ (i : Int) (j : Int) (out : List Int), Le ((f46_Ls fu).2.2.2 i j out) (f46_L3 i j out))
 | 0 => ⟨(fun _ _ _ _ _ _ => ln _),
  (fun _ _ _ _ _ _ _ _ => ln _),
  (fun _ _ _ => ln _),
  (fun _ _ _ => ln _)⟩
 | fu + 1 => by
  have ih := f46_Ls_ok fu
  exact ⟨(fun t t2 t3 out a a2 => le (f46_L0_eq t t2 t3 out a a2) (
   lc (
   lb fun v0 =>
   ih.2.1 v0 t t2 t3 (0 : Int) out a a2) (
   ih.2.2.1 out a a2))),
  (fun x t t2 t3 t4 out a a2 => le (f46_L1_eq x t t2 t3 t4 out a a2) (
   lc (
   let e0 : Int := (IntKind.wrap .u32 ((48 : Int) + (x.tmod (10 : Int))))
   lc (
   ih.2.1 (IntKind.wrap .u32 (x.tdiv (10 : Int))) t t2 t3 (W (t4 + (1 : Int))) (out ++ ([(IntKind.wrap .u8 e0)] : List Int)) a a2) (lr _)) (
   ih.1 t t2 (W (t3 + (1 : Int))) out a a2))),
  (fun out a a2 => le (f46_L2_eq out a a2) (
   let e0 : Int := (W ((out.length : Int) - (1 : Int)))
   lb fun _ =>
   lb fun v1 =>
   lc (
   let e2 : Int := (W ((out.length : Int) - (1 : Int)))
   lc (
   ih.2.2.1 (out.take e2.toNat) a a2) (lr _)) (
   lc (
   lc (
   let e3 : Int := ((out ++ ([(45 : Int)] : List Int)).length : Int)
   ih.2.2.2 (0 : Int) (W (e3 - (1 : Int))) (out ++ ([(45 : Int)] : List Int))) (lr _)) (
   let e4 : Int := (W ((out.length : Int) - (1 : Int)))
   ih.2.2.2 (0 : Int) e4 out)))),
  (fun i j out => le (f46_L3_eq i j out) (
   lc (
   lb fun _ =>
   lb fun v0 =>
   lb fun _ =>
   lb fun v1 =>
   lb fun _ =>
   lb fun v2 =>
   lb fun _ =>
   lb fun v3 =>
   ih.2.2.2 (W (i + (1 : Int))) (W (j - (1 : Int))) ((out.set i.toNat v0).set j.toNat v1)) (lr _)))⟩
def f46_P (fu : Nat) (a : Bool × (List Int) × Unit) : Option (ByteArray) :=
 bif ((a.2.1.length : Int) == (0 : Int)) then
  some (bs [48])
 else
  let e0 : Int := (W ((9 : Int) * (a.2.1.length : Int)))
  bif (okMake 1 (0 : Int) (W (e0 + (1 : Int)))) then
   (f46_Ls fu).1 a.2.1 (a.2.1.length : Int) (0 : Int) ([] : List Int) a.1 a.2.1
  else
   none
theorem f46_P_ok (fu : Nat) (a : Bool × (List Int) × Unit) : Le (f46_P fu a) (f46 a) := le (f46_eq a) (
 lc (lr _) (
 let e0 : Int := (W ((9 : Int) * (a.2.1.length : Int)))
 lc (
 (f46_Ls_ok fu).1 a.2.1 (a.2.1.length : Int) (0 : Int) ([] : List Int) a.1 a.2.1) (lr _)))
def f48_P (fu : Nat) (c : Ts) : Option (Int × Bool) :=
 bif ((c.length : Int) == (0 : Int)) then
  some ((0 : Int), false)
 else
  let e0 : Int := (W ((c.length : Int) - (1 : Int)))
  (idx c e0).bind fun v1 =>
  some (v1.1, true)
theorem f48_P_ok (fu : Nat) (c : Ts) : Le (f48_P fu c) (f48 c) := le (f48_eq c) (
 lc (lr _) (
 let e0 : Int := (W ((c.length : Int) - (1 : Int)))
 lb fun v1 =>
 lr _))
def f55_Ls : Nat → ((List ((List Int) × ByteArray × Unit)) → (Int) → (List Int) → (Int) → Option (Int))
 | 0 => (fun _ _ _ _ => none)
 | fu + 1 => (fun f n s i =>
  bif (decide (i < n)) then
   (idx f i).bind fun v0 =>
   (f25_P fu v0.1 s).bind fun r1 =>
   bif (r1 == (0 : Int)) then
    some i
   else
    (f55_Ls fu) f n s (W (i + (1 : Int)))
  else
   some (-1 : Int))
theorem f55_Ls_ok : ∀ fu, (∀ (f : List ((List Int) × ByteArray × Unit)) (n : Int) (s : List Int) (i : Int), Le ((f55_Ls fu) f n s i) (f55_L0 f n s i))
 | 0 => fun _ _ _ _ => ln _
 | fu + 1 => by
  have ih := f55_Ls_ok fu
  exact fun f n s i => le (f55_L0_eq f n s i) (
   lc (
   lb fun v0 =>
   lx (f25_P_ok fu v0.1 s) fun r1 =>
   lc (lr _) (
   ih f n s (W (i + (1 : Int))))) (lr _))
def f55_P (fu : Nat) (f : List ((List Int) × ByteArray × Unit)) (n : Int) (s : List Int) : Option (Int) :=
 (f55_Ls fu) f n s (0 : Int)
theorem f55_P_ok (fu : Nat) (f : List ((List Int) × ByteArray × Unit)) (n : Int) (s : List Int) : Le (f55_P fu f n s) (f55 f n s) := le (f55_eq f n s) (
 (f55_Ls_ok fu) f n s (0 : Int))
def f56_Ls : Nat → ((List Int) → (Int) → (Int) → (List Int) → Option (List Int))
 | 0 => (fun _ _ _ _ => none)
 | fu + 1 => (fun s k i out =>
  bif (decide (i < (s.length : Int))) then
   bif (i != k) then
    (idx s i).bind fun v0 =>
    bif (okApp 8 1 out.length 1) then
     (f56_Ls fu) s k (W (i + (1 : Int))) (out ++ ([v0] : List Int))
    else
     none
   else
    (f56_Ls fu) s k (W (i + (1 : Int))) out
  else
   some out)
theorem f56_Ls_ok : ∀ fu, (∀ (s : List Int) (k : Int) (i : Int) (out : List Int), Le ((f56_Ls fu) s k i out) (f56_L0 s k i out))
 | 0 => fun _ _ _ _ => ln _
 | fu + 1 => by
  have ih := f56_Ls_ok fu
  exact fun s k i out => le (f56_L0_eq s k i out) (
   lc (
   lc (
   lb fun v0 =>
   lc (
   ih s k (W (i + (1 : Int))) (out ++ ([v0] : List Int))) (lr _)) (
   ih s k (W (i + (1 : Int))) out)) (lr _))
def f56_P (fu : Nat) (s : List Int) (k : Int) : Option (List Int) :=
 (f56_Ls fu) s k (0 : Int) ([] : List Int)
theorem f56_P_ok (fu : Nat) (s : List Int) (k : Int) : Le (f56_P fu s k) (f56 s k) := le (f56_eq s k) (
 (f56_Ls_ok fu) s k (0 : Int) ([] : List Int))
def f68_Ls : Nat → ((List Int) → (List Int) → (Int) → Option (Int))
 | 0 => (fun _ _ _ => none)
 | fu + 1 => (fun a b i =>
  bif (decide (i ≥ (0 : Int))) then
   (idx a i).bind fun v0 =>
   (idx b i).bind fun v1 =>
   bif (v0 != v1) then
    (idx a i).bind fun v2 =>
    (idx b i).bind fun v3 =>
    bif (decide (v2 < v3)) then
     some (-1 : Int)
    else
     some (1 : Int)
   else
    (f68_Ls fu) a b (W (i - (1 : Int)))
  else
   some (0 : Int))
theorem f68_Ls_ok : ∀ fu, (∀ (a : List Int) (b : List Int) (i : Int), Le ((f68_Ls fu) a b i) (f68_L0 a b i))
 | 0 => fun _ _ _ => ln _
 | fu + 1 => by
  have ih := f68_Ls_ok fu
  exact fun a b i => le (f68_L0_eq a b i) (
   lc (
   lb fun v0 =>
   lb fun v1 =>
   lc (
   lb fun v2 =>
   lb fun v3 =>
   lc (lr _) (lr _)) (
   ih a b (W (i - (1 : Int))))) (lr _))
def f68_P (fu : Nat) (a : List Int) (b : List Int) : Option (Int) :=
 bif ((a.length : Int) != (b.length : Int)) then
  bif (decide ((a.length : Int) < (b.length : Int))) then
   some (-1 : Int)
  else
   some (1 : Int)
 else
  let e0 : Int := (W ((a.length : Int) - (1 : Int)))
  (f68_Ls fu) a b e0
theorem f68_P_ok (fu : Nat) (a : List Int) (b : List Int) : Le (f68_P fu a b) (f68 a b) := le (f68_eq a b) (
 lc (
 lc (lr _) (lr _)) (
 let e0 : Int := (W ((a.length : Int) - (1 : Int)))
 (f68_Ls_ok fu) a b e0))
def f69_Ls : Nat → ((Int) → (Int) → Option (Int))
 | 0 => (fun _ _ => none)
 | fu + 1 => (fun x y =>
  bif (decide (y > (0 : Int))) then
   bif (!(y == 0)) then
    (f69_Ls fu) y (x.tmod y)
   else
    none
  else
   some x)
theorem f69_Ls_ok : ∀ fu, (∀ (x : Int) (y : Int), Le ((f69_Ls fu) x y) (f69_L0 x y))
 | 0 => fun _ _ => ln _
 | fu + 1 => by
  have ih := f69_Ls_ok fu
  exact fun x y => le (f69_L0_eq x y) (
   lc (
   lc (
   ih y (x.tmod y)) (lr _)) (lr _))
def f69_P (fu : Nat) (x : Int) (y : Int) : Option (Int) :=
 (f69_Ls fu) x y
theorem f69_P_ok (fu : Nat) (x : Int) (y : Int) : Le (f69_P fu x y) (f69 x y) := le (f69_eq x y) (
 (f69_Ls_ok fu) x y)
def f70_Ls : Nat → ((List Int) → (Int) → (Int) → Option (Int))
 | 0 => (fun _ _ _ => none)
 | fu + 1 => (fun d n i =>
  bif (decide (i ≥ (0 : Int))) then
   (idx d i).bind fun v0 =>
   let e1 : Int := (W ((W (n * (1000000000 : Int))) + (W v0)))
   (f70_Ls fu) d e1 (W (i - (1 : Int)))
  else
   some n)
theorem f70_Ls_ok : ∀ fu, (∀ (d : List Int) (n : Int) (i : Int), Le ((f70_Ls fu) d n i) (f70_L0 d n i))
 | 0 => fun _ _ _ => ln _
 | fu + 1 => by
  have ih := f70_Ls_ok fu
  exact fun d n i => le (f70_L0_eq d n i) (
   lc (
   lb fun v0 =>
   let e1 : Int := (W ((W (n * (1000000000 : Int))) + (W v0)))
   ih d e1 (W (i - (1 : Int)))) (lr _))
def f70_P (fu : Nat) (d : List Int) : Option (Int) :=
 let e0 : Int := (W ((d.length : Int) - (1 : Int)))
 (f70_Ls fu) d (0 : Int) e0
theorem f70_P_ok (fu : Nat) (d : List Int) : Le (f70_P fu d) (f70 d) := le (f70_eq d) (
 let e0 : Int := (W ((d.length : Int) - (1 : Int)))
 (f70_Ls_ok fu) d (0 : Int) e0)
def f72_Ls : Nat → ((List Int) → Option (List Int))
 | 0 => (fun _ => none)
 | fu + 1 => (fun d =>
  bif (decide ((d.length : Int) > (0 : Int))) then
   let e0 : Int := (W ((d.length : Int) - (1 : Int)))
   (idx d e0).bind fun v1 =>
   bif (v1 == (0 : Int)) then
    let e2 : Int := (W ((d.length : Int) - (1 : Int)))
    bif (inCut d.length (0 : Int) e2) then
     (f72_Ls fu) (cut d (0 : Int) e2)
    else
     none
   else
    some d
  else
   some d)
theorem f72_Ls_ok : ∀ fu, (∀ (d : List Int), Le ((f72_Ls fu) d) (f72_L0 d))
 | 0 => fun _ => ln _
 | fu + 1 => by
  have ih := f72_Ls_ok fu
  exact fun d => le (f72_L0_eq d) (
   lc (
   let e0 : Int := (W ((d.length : Int) - (1 : Int)))
   lb fun v1 =>
   lc (
   let e2 : Int := (W ((d.length : Int) - (1 : Int)))
   lc (
   ih (cut d (0 : Int) e2)) (lr _)) (lr _)) (lr _))
def f72_P (fu : Nat) (d : List Int) : Option (List Int) :=
 (f72_Ls fu) d
theorem f72_P_ok (fu : Nat) (d : List Int) : Le (f72_P fu d) (f72 d) := le (f72_eq d) (
 (f72_Ls_ok fu) d)
def f73_P (fu : Nat) (p : Int) : Option (Int × Int) :=
 (f30_P fu p).bind fun r0 =>
 bif (!r0) then
  some ((0 : Int), (8 : Int))
 else
  some (p, (0 : Int))
theorem f73_P_ok (fu : Nat) (p : Int) : Le (f73_P fu p) (f73 p) := le (f73_eq p) (
 lx (f30_P_ok fu p) fun r0 =>
 lc (lr _) (lr _))
def f74_P (fu : Nat) (f : Int) (a : Int) : Option (Int) :=
 bif (!(f == 0)) then
  bif (!(f == 0)) then
   some ((W ((a.tmod f) + f)).tmod f)
  else
   none
 else
  none
theorem f74_P_ok (fu : Nat) (f : Int) (a : Int) : Le (f74_P fu f a) (f74 f a) := le (f74_eq f a) (
 lc (
 lc (lr _) (lr _)) (lr _))
def f76_Ls : Nat → ((Int) → (List Ts) → (Int) → (Int) → Option (Int))
 | 0 => (fun _ _ _ _ => none)
 | fu + 1 => (fun p t t2 t3 =>
  bif (decide (t3 < t2)) then
   (idx t t3).bind fun v0 =>
   (f32_P fu p v0).bind fun r1 =>
   bif (r1 != (0 : Int)) then
    some r1
   else
    (f76_Ls fu) p t t2 (W (t3 + (1 : Int)))
  else
   some (0 : Int))
theorem f76_Ls_ok : ∀ fu, (∀ (p : Int) (t : List Ts) (t2 : Int) (t3 : Int), Le ((f76_Ls fu) p t t2 t3) (f76_L0 p t t2 t3))
 | 0 => fun _ _ _ _ => ln _
 | fu + 1 => by
  have ih := f76_Ls_ok fu
  exact fun p t t2 t3 => le (f76_L0_eq p t t2 t3) (
   lc (
   lb fun v0 =>
   lx (f32_P_ok fu p v0) fun r1 =>
   lc (lr _) (
   ih p t t2 (W (t3 + (1 : Int))))) (lr _))
def f76_P (fu : Nat) (p : Int) (l : List Ts) : Option (Int) :=
 (f76_Ls fu) p l (l.length : Int) (0 : Int)
theorem f76_P_ok (fu : Nat) (p : Int) (l : List Ts) : Le (f76_P fu p l) (f76 p l) := le (f76_eq p l) (
 (f76_Ls_ok fu) p l (l.length : Int) (0 : Int))
def f78_Ls : Nat → ((Nat) → (Int) → (Int) → (Int) → (List Os) → Option ((Unit) × (List Os))) × ((Nat) → (Int) → (Int) → (Int) → (Int) → (List Os) → Option ((Unit) × (List Os)))
 | 0 => (fun _ _ _ _ _ => none, fun _ _ _ _ _ _ => none)
 | fu + 1 => (fun data a b i hp3 =>
  bif (decide (i < b)) then
   (f78_Ls fu).2 data a b i i hp3
  else
   some ((), hp3),
  fun data a b i j hp3 =>
  bif (decide (j > a)) then
   (hget hp3 data).bind fun v0 =>
   (idx v0 j).bind fun _ =>
   (hget hp3 data).bind fun v1 =>
   (v1[j.toNat]?).bind fun v2 =>
   (hget hp3 data).bind fun v3 =>
   (idx v3 (W (j - (1 : Int)))).bind fun _ =>
   (hget hp3 data).bind fun v4 =>
   (v4[(W (j - (1 : Int))).toNat]?).bind fun v5 =>
   (f22_P fu (v2.1, (v2.2.1, ())) (v5.1, (v5.2.1, ()))).bind fun r6 =>
   bif (decide (r6 < (0 : Int))) then
    (hget hp3 data).bind fun v7 =>
    (idx v7 (W (j - (1 : Int)))).bind fun _ =>
    (hget hp3 data).bind fun v8 =>
    (v8[(W (j - (1 : Int))).toNat]?).bind fun v9 =>
    (hget hp3 data).bind fun v10 =>
    (idx v10 j).bind fun _ =>
    (hget hp3 data).bind fun v11 =>
    (v11[j.toNat]?).bind fun v12 =>
    (hget hp3 data).bind fun v13 =>
    (idx v13 j).bind fun _ =>
    (hget hp3 data).bind fun v14 =>
    (v14[j.toNat]?).bind fun v15 =>
    let e16 : List Os := (hset hp3 data (v14.set j.toNat (v9.1, (v9.2.1, ()))))
    (hget e16 data).bind fun v17 =>
    (idx v17 (W (j - (1 : Int)))).bind fun _ =>
    (hget e16 data).bind fun v18 =>
    (v18[(W (j - (1 : Int))).toNat]?).bind fun v19 =>
    let e20 : List Os := (hset e16 data (v18.set (W (j - (1 : Int))).toNat (v12.1, (v12.2.1, ()))))
    (f78_Ls fu).2 data a b i (W (j - (1 : Int))) e20
   else
    (f78_Ls fu).1 data a b (W (i + (1 : Int))) hp3
  else
   (f78_Ls fu).1 data a b (W (i + (1 : Int))) hp3)
theorem f78_Ls_ok : ∀ fu, (∀ (data : Nat) (a : Int) (b : Int) (i : Int) (hp3 : List Os), Le ((f78_Ls fu).1 data a b i hp3) (f78_L0 data a b i hp3)) ∧ (∀ (data : Nat) (a : Int) (b : Int) (i : Int) (j : Int) (hp3 : List Os), Le ((f78_Ls fu).2 data a b i j hp3) (f78_L1 data a b i j hp3))
 | 0 => ⟨(fun _ _ _ _ _ => ln _),
  (fun _ _ _ _ _ _ => ln _)⟩
 | fu + 1 => by
  have ih := f78_Ls_ok fu
  exact ⟨(fun data a b i hp3 => le (f78_L0_eq data a b i hp3) (
   lc (
   ih.2 data a b i i hp3) (lr _))),
  (fun data a b i j hp3 => le (f78_L1_eq data a b i j hp3) (
   lc (
   lb fun v0 =>
   lb fun _ =>
   lb fun v1 =>
   lb fun v2 =>
   lb fun v3 =>
   lb fun _ =>
   lb fun v4 =>
   lb fun v5 =>
   lx (f22_P_ok fu (v2.1, (v2.2.1, ())) (v5.1, (v5.2.1, ()))) fun r6 =>
   lc (
   lb fun v7 =>
   lb fun _ =>
   lb fun v8 =>
   lb fun v9 =>
   lb fun v10 =>
   lb fun _ =>
   lb fun v11 =>
   lb fun v12 =>
   lb fun v13 =>
   lb fun _ =>
   lb fun v14 =>
   lb fun v15 =>
   let e16 : List Os := (hset hp3 data (v14.set j.toNat (v9.1, (v9.2.1, ()))))
   lb fun v17 =>
   lb fun _ =>
   lb fun v18 =>
   lb fun v19 =>
   let e20 : List Os := (hset e16 data (v18.set (W (j - (1 : Int))).toNat (v12.1, (v12.2.1, ()))))
   ih.2 data a b i (W (j - (1 : Int))) e20) (
   ih.1 data a b (W (i + (1 : Int))) hp3)) (
   ih.1 data a b (W (i + (1 : Int))) hp3)))⟩
def f78_P (fu : Nat) (data : Nat) (a : Int) (b : Int) (hp3 : List Os) : Option ((Unit) × (List Os)) :=
 (f78_Ls fu).1 data a b (W (a + (1 : Int))) hp3
theorem f78_P_ok (fu : Nat) (data : Nat) (a : Int) (b : Int) (hp3 : List Os) : Le (f78_P fu data a b hp3) (f78 data a b hp3) := le (f78_eq data a b hp3) (
 (f78_Ls_ok fu).1 data a b (W (a + (1 : Int))) hp3)
def f81_P (fu : Nat) (data : Nat) (a : Int) (b : Int) (hp3 : List Os) : Option ((Int × Int) × (List Os)) :=
 let e0 : Int := (W ((W (b - a)).tdiv (4 : Int)))
 let e1 : Int := (W (a + (W (e0 * (1 : Int)))))
 let e2 : Int := (W ((W (b - a)).tdiv (4 : Int)))
 let e3 : Int := (W (a + (W (e2 * (2 : Int)))))
 let e4 : Int := (W ((W (b - a)).tdiv (4 : Int)))
 let e5 : Int := (W (a + (W (e4 * (3 : Int)))))
 bif (decide ((W (b - a)) ≥ (8 : Int))) then
  bif (decide ((W (b - a)) ≥ (50 : Int))) then
   none
  else
   none
 else
  some ((e3, (1 : Int)), hp3)
theorem f81_P_ok (fu : Nat) (data : Nat) (a : Int) (b : Int) (hp3 : List Os) : Le (f81_P fu data a b hp3) (f81 data a b hp3) := le (f81_eq data a b hp3) (
 let e0 : Int := (W ((W (b - a)).tdiv (4 : Int)))
 let e1 : Int := (W (a + (W (e0 * (1 : Int)))))
 let e2 : Int := (W ((W (b - a)).tdiv (4 : Int)))
 let e3 : Int := (W (a + (W (e2 * (2 : Int)))))
 let e4 : Int := (W ((W (b - a)).tdiv (4 : Int)))
 let e5 : Int := (W (a + (W (e4 * (3 : Int)))))
 lc (
 lc (lr _) (lr _)) (lr _))
def f82_Ls : Nat → ((Nat) → (Int) → (Int) → (List Os) → Option ((Unit) × (List Os)))
 | 0 => (fun _ _ _ _ => none)
 | fu + 1 => (fun data i j hp3 =>
  bif (decide (i < j)) then
   (hget hp3 data).bind fun v0 =>
   (idx v0 j).bind fun _ =>
   (hget hp3 data).bind fun v1 =>
   (v1[j.toNat]?).bind fun v2 =>
   (hget hp3 data).bind fun v3 =>
   (idx v3 i).bind fun _ =>
   (hget hp3 data).bind fun v4 =>
   (v4[i.toNat]?).bind fun v5 =>
   (hget hp3 data).bind fun v6 =>
   (idx v6 i).bind fun _ =>
   (hget hp3 data).bind fun v7 =>
   (v7[i.toNat]?).bind fun v8 =>
   let e9 : List Os := (hset hp3 data (v7.set i.toNat (v2.1, (v2.2.1, ()))))
   (hget e9 data).bind fun v10 =>
   (idx v10 j).bind fun _ =>
   (hget e9 data).bind fun v11 =>
   (v11[j.toNat]?).bind fun v12 =>
   let e13 : List Os := (hset e9 data (v11.set j.toNat (v5.1, (v5.2.1, ()))))
   (f82_Ls fu) data (W (i + (1 : Int))) (W (j - (1 : Int))) e13
  else
   some ((), hp3))
theorem f82_Ls_ok : ∀ fu, (∀ (data : Nat) (i : Int) (j : Int) (hp3 : List Os), Le ((f82_Ls fu) data i j hp3) (f82_L0 data i j hp3))
 | 0 => fun _ _ _ _ => ln _
 | fu + 1 => by
  have ih := f82_Ls_ok fu
  exact fun data i j hp3 => le (f82_L0_eq data i j hp3) (
   lc (
   lb fun v0 =>
   lb fun _ =>
   lb fun v1 =>
   lb fun v2 =>
   lb fun v3 =>
   lb fun _ =>
   lb fun v4 =>
   lb fun v5 =>
   lb fun v6 =>
   lb fun _ =>
   lb fun v7 =>
   lb fun v8 =>
   let e9 : List Os := (hset hp3 data (v7.set i.toNat (v2.1, (v2.2.1, ()))))
   lb fun v10 =>
   lb fun _ =>
   lb fun v11 =>
   lb fun v12 =>
   let e13 : List Os := (hset e9 data (v11.set j.toNat (v5.1, (v5.2.1, ()))))
   ih data (W (i + (1 : Int))) (W (j - (1 : Int))) e13) (lr _))
def f82_P (fu : Nat) (data : Nat) (a : Int) (b : Int) (hp3 : List Os) : Option ((Unit) × (List Os)) :=
 (f82_Ls fu) data a (W (b - (1 : Int))) hp3
theorem f82_P_ok (fu : Nat) (data : Nat) (a : Int) (b : Int) (hp3 : List Os) : Le (f82_P fu data a b hp3) (f82 data a b hp3) := le (f82_eq data a b hp3) (
 (f82_Ls_ok fu) data a (W (b - (1 : Int))) hp3)
def f83_Ls : Nat → ((Nat) → (Int) → (Int) → (Int) → (Int) → (List Os) → Option ((Bool) × (List Os))) × ((Nat) → (Int) → (Int) → (Int) → (Int) → (List Os) → Option ((Bool) × (List Os))) × ((Nat) → (Int) → (Int) → (Int) → (Int) → (Int) → (List Os) → Option ((Bool) × (List Os))) × ((Nat) → (Int) → (Int) → (Int) → (Int) → (Int) → (List Os) → Option ((Bool) × (List Os)))
 | 0 => (fun _ _ _ _ _ _ => none, fun _ _ _ _ _ _ => none, fun _ _ _ _ _ _ _ => none, fun _ _ _ _ _ _ _ => none)
 | fu + 1 => (fun data a b i j hp3 =>
  bif (decide (j < (5 : Int))) then
   (f83_Ls fu).2.1 data a b i j hp3
  else
   some (false, hp3),
  fun data a b i j hp3 =>
  bif (decide (i < b)) then
   (hget hp3 data).bind fun v0 =>
   (idx v0 i).bind fun _ =>
   (hget hp3 data).bind fun v1 =>
   (v1[i.toNat]?).bind fun v2 =>
   (hget hp3 data).bind fun v3 =>
   (idx v3 (W (i - (1 : Int)))).bind fun _ =>
   (hget hp3 data).bind fun v4 =>
   (v4[(W (i - (1 : Int))).toNat]?).bind fun v5 =>
   (f22_P fu (v2.1, (v2.2.1, ())) (v5.1, (v5.2.1, ()))).bind fun r6 =>
   bif (!(decide (r6 < (0 : Int)))) then
    (f83_Ls fu).2.1 data a b (W (i + (1 : Int))) j hp3
   else
    bif (i == b) then
     some (true, hp3)
    else
     bif (decide ((W (b - a)) < (50 : Int))) then
      some (false, hp3)
     else
      (hget hp3 data).bind fun v7 =>
      (idx v7 (W (i - (1 : Int)))).bind fun _ =>
      (hget hp3 data).bind fun v8 =>
      (v8[(W (i - (1 : Int))).toNat]?).bind fun v9 =>
      (hget hp3 data).bind fun v10 =>
      (idx v10 i).bind fun _ =>
      (hget hp3 data).bind fun v11 =>
      (v11[i.toNat]?).bind fun v12 =>
      (hget hp3 data).bind fun v13 =>
      (idx v13 i).bind fun _ =>
      (hget hp3 data).bind fun v14 =>
      (v14[i.toNat]?).bind fun v15 =>
      let e16 : List Os := (hset hp3 data (v14.set i.toNat (v9.1, (v9.2.1, ()))))
      (hget e16 data).bind fun v17 =>
      (idx v17 (W (i - (1 : Int)))).bind fun _ =>
      (hget e16 data).bind fun v18 =>
      (v18[(W (i - (1 : Int))).toNat]?).bind fun v19 =>
      let e20 : List Os := (hset e16 data (v18.set (W (i - (1 : Int))).toNat (v12.1, (v12.2.1, ()))))
      bif (decide ((W (i - a)) ≥ (2 : Int))) then
       (f83_Ls fu).2.2.1 data a b i j (W (i - (1 : Int))) e20
      else
       bif (decide ((W (b - i)) ≥ (2 : Int))) then
        (f83_Ls fu).2.2.2 data a b i j (W (i + (1 : Int))) e20
       else
        (f83_Ls fu).1 data a b i (W (j + (1 : Int))) e20
  else
   bif (i == b) then
    some (true, hp3)
   else
    bif (decide ((W (b - a)) < (50 : Int))) then
     some (false, hp3)
    else
     (hget hp3 data).bind fun v21 =>
     (idx v21 (W (i - (1 : Int)))).bind fun _ =>
     (hget hp3 data).bind fun v22 =>
     (v22[(W (i - (1 : Int))).toNat]?).bind fun v23 =>
     (hget hp3 data).bind fun v24 =>
     (idx v24 i).bind fun _ =>
     (hget hp3 data).bind fun v25 =>
     (v25[i.toNat]?).bind fun v26 =>
     (hget hp3 data).bind fun v27 =>
     (idx v27 i).bind fun _ =>
     (hget hp3 data).bind fun v28 =>
     (v28[i.toNat]?).bind fun v29 =>
     let e30 : List Os := (hset hp3 data (v28.set i.toNat (v23.1, (v23.2.1, ()))))
     (hget e30 data).bind fun v31 =>
     (idx v31 (W (i - (1 : Int)))).bind fun _ =>
     (hget e30 data).bind fun v32 =>
     (v32[(W (i - (1 : Int))).toNat]?).bind fun v33 =>
     let e34 : List Os := (hset e30 data (v32.set (W (i - (1 : Int))).toNat (v26.1, (v26.2.1, ()))))
     bif (decide ((W (i - a)) ≥ (2 : Int))) then
      (f83_Ls fu).2.2.1 data a b i j (W (i - (1 : Int))) e34
     else
      bif (decide ((W (b - i)) ≥ (2 : Int))) then
       (f83_Ls fu).2.2.2 data a b i j (W (i + (1 : Int))) e34
      else
       (f83_Ls fu).1 data a b i (W (j + (1 : Int))) e34,
  fun data a b i j j2 hp3 =>
  bif (decide (j2 ≥ (1 : Int))) then
   (hget hp3 data).bind fun v0 =>
   (idx v0 j2).bind fun _ =>
   (hget hp3 data).bind fun v1 =>
   (v1[j2.toNat]?).bind fun v2 =>
   (hget hp3 data).bind fun v3 =>
   (idx v3 (W (j2 - (1 : Int)))).bind fun _ =>
   (hget hp3 data).bind fun v4 =>
   (v4[(W (j2 - (1 : Int))).toNat]?).bind fun v5 =>
   (f22_P fu (v2.1, (v2.2.1, ())) (v5.1, (v5.2.1, ()))).bind fun r6 =>
   bif (!(decide (r6 < (0 : Int)))) then
    bif (decide ((W (b - i)) ≥ (2 : Int))) then
     (f83_Ls fu).2.2.2 data a b i j (W (i + (1 : Int))) hp3
    else
     (f83_Ls fu).1 data a b i (W (j + (1 : Int))) hp3
   else
    (hget hp3 data).bind fun v7 =>
    (idx v7 (W (j2 - (1 : Int)))).bind fun _ =>
    (hget hp3 data).bind fun v8 =>
    (v8[(W (j2 - (1 : Int))).toNat]?).bind fun v9 =>
    (hget hp3 data).bind fun v10 =>
    (idx v10 j2).bind fun _ =>
    (hget hp3 data).bind fun v11 =>
    (v11[j2.toNat]?).bind fun v12 =>
    (hget hp3 data).bind fun v13 =>
    (idx v13 j2).bind fun _ =>
    (hget hp3 data).bind fun v14 =>
    (v14[j2.toNat]?).bind fun v15 =>
    let e16 : List Os := (hset hp3 data (v14.set j2.toNat (v9.1, (v9.2.1, ()))))
    (hget e16 data).bind fun v17 =>
    (idx v17 (W (j2 - (1 : Int)))).bind fun _ =>
    (hget e16 data).bind fun v18 =>
    (v18[(W (j2 - (1 : Int))).toNat]?).bind fun v19 =>
    let e20 : List Os := (hset e16 data (v18.set (W (j2 - (1 : Int))).toNat (v12.1, (v12.2.1, ()))))
    (f83_Ls fu).2.2.1 data a b i j (W (j2 - (1 : Int))) e20
  else
   bif (decide ((W (b - i)) ≥ (2 : Int))) then
    (f83_Ls fu).2.2.2 data a b i j (W (i + (1 : Int))) hp3
   else
    (f83_Ls fu).1 data a b i (W (j + (1 : Int))) hp3,
  fun data a b i j j2 hp3 =>
  bif (decide (j2 < b)) then
   (hget hp3 data).bind fun v0 =>
   (idx v0 j2).bind fun _ =>
   (hget hp3 data).bind fun v1 =>
   (v1[j2.toNat]?).bind fun v2 =>
   (hget hp3 data).bind fun v3 =>
   (idx v3 (W (j2 - (1 : Int)))).bind fun _ =>
   (hget hp3 data).bind fun v4 =>
   (v4[(W (j2 - (1 : Int))).toNat]?).bind fun v5 =>
   (f22_P fu (v2.1, (v2.2.1, ())) (v5.1, (v5.2.1, ()))).bind fun r6 =>
   bif (!(decide (r6 < (0 : Int)))) then
    (f83_Ls fu).1 data a b i (W (j + (1 : Int))) hp3
   else
    (hget hp3 data).bind fun v7 =>
    (idx v7 (W (j2 - (1 : Int)))).bind fun _ =>
    (hget hp3 data).bind fun v8 =>
    (v8[(W (j2 - (1 : Int))).toNat]?).bind fun v9 =>
    (hget hp3 data).bind fun v10 =>
    (idx v10 j2).bind fun _ =>
    (hget hp3 data).bind fun v11 =>
    (v11[j2.toNat]?).bind fun v12 =>
    (hget hp3 data).bind fun v13 =>
    (idx v13 j2).bind fun _ =>
    (hget hp3 data).bind fun v14 =>
    (v14[j2.toNat]?).bind fun v15 =>
    let e16 : List Os := (hset hp3 data (v14.set j2.toNat (v9.1, (v9.2.1, ()))))
    (hget e16 data).bind fun v17 =>
    (idx v17 (W (j2 - (1 : Int)))).bind fun _ =>
    (hget e16 data).bind fun v18 =>
    (v18[(W (j2 - (1 : Int))).toNat]?).bind fun v19 =>
    let e20 : List Os := (hset e16 data (v18.set (W (j2 - (1 : Int))).toNat (v12.1, (v12.2.1, ()))))
    (f83_Ls fu).2.2.2 data a b i j (W (j2 + (1 : Int))) e20
  else
   (f83_Ls fu).1 data a b i (W (j + (1 : Int))) hp3)
theorem f83_Ls_ok : ∀ fu, (∀ (data : Nat) (a : Int) (b : Int) (i : Int) (j : Int) (hp3 : List Os), Le ((f83_Ls fu).1 data a b i j hp3) (f83_L0 data a b i j hp3)) ∧ (∀ (data : Nat) (a : Int) (b : Int) (i : Int) (j : Int) (hp3 : List Os), Le ((f83_Ls fu).2.1 data a b i j hp3) (f83_L1 data a b i j hp3)) ∧ (∀ (data : Nat) (a : Int) (b : Int) (i : Int) (j : Int) (j2 : Int) (hp3 : List Os), Le ((f83_Ls fu).2.2.1 data a b i j j2 hp3) (f83_L2 data a b i j j2 hp3)) ∧ (∀ (data : Nat) (a : Int) (b : Int) (i : Int) (j : Int) (j2 : Int) (hp3 : List Os), Le ((f83_Ls fu).2.2.2 data a b i j j2 hp3) (f83_L3 data a b i j j2 hp3))
 | 0 => ⟨(fun _ _ _ _ _ _ => ln _),
  (fun _ _ _ _ _ _ => ln _),
  (fun _ _ _ _ _ _ _ => ln _),
  (fun _ _ _ _ _ _ _ => ln _)⟩
 | fu + 1 => by
  have ih := f83_Ls_ok fu
  exact ⟨(fun data a b i j hp3 => le (f83_L0_eq data a b i j hp3) (
   lc (
   ih.2.1 data a b i j hp3) (lr _))),
  (fun data a b i j hp3 => le (f83_L1_eq data a b i j hp3) (
   lc (
   lb fun v0 =>
   lb fun _ =>
   lb fun v1 =>
   lb fun v2 =>
   lb fun v3 =>
   lb fun _ =>
   lb fun v4 =>
   lb fun v5 =>
   lx (f22_P_ok fu (v2.1, (v2.2.1, ())) (v5.1, (v5.2.1, ()))) fun r6 =>
   lc (
   ih.2.1 data a b (W (i + (1 : Int))) j hp3) (
   lc (lr _) (
   lc (lr _) (
   lb fun v7 =>
   lb fun _ =>
   lb fun v8 =>
   lb fun v9 =>
   lb fun v10 =>
   lb fun _ =>
   lb fun v11 =>
   lb fun v12 =>
   lb fun v13 =>
   lb fun _ =>
   lb fun v14 =>
   lb fun v15 =>
   let e16 : List Os := (hset hp3 data (v14.set i.toNat (v9.1, (v9.2.1, ()))))
   lb fun v17 =>
   lb fun _ =>
   lb fun v18 =>
   lb fun v19 =>
   let e20 : List Os := (hset e16 data (v18.set (W (i - (1 : Int))).toNat (v12.1, (v12.2.1, ()))))
   lc (
   ih.2.2.1 data a b i j (W (i - (1 : Int))) e20) (
   lc (
   ih.2.2.2 data a b i j (W (i + (1 : Int))) e20) (
   ih.1 data a b i (W (j + (1 : Int))) e20)))))) (
   lc (lr _) (
   lc (lr _) (
   lb fun v21 =>
   lb fun _ =>
   lb fun v22 =>
   lb fun v23 =>
   lb fun v24 =>
   lb fun _ =>
   lb fun v25 =>
   lb fun v26 =>
   lb fun v27 =>
   lb fun _ =>
   lb fun v28 =>
   lb fun v29 =>
   let e30 : List Os := (hset hp3 data (v28.set i.toNat (v23.1, (v23.2.1, ()))))
   lb fun v31 =>
   lb fun _ =>
   lb fun v32 =>
   lb fun v33 =>
   let e34 : List Os := (hset e30 data (v32.set (W (i - (1 : Int))).toNat (v26.1, (v26.2.1, ()))))
   lc (
   ih.2.2.1 data a b i j (W (i - (1 : Int))) e34) (
   lc (
   ih.2.2.2 data a b i j (W (i + (1 : Int))) e34) (
   ih.1 data a b i (W (j + (1 : Int))) e34))))))),
  (fun data a b i j j2 hp3 => le (f83_L2_eq data a b i j j2 hp3) (
   lc (
   lb fun v0 =>
   lb fun _ =>
   lb fun v1 =>
   lb fun v2 =>
   lb fun v3 =>
   lb fun _ =>
   lb fun v4 =>
   lb fun v5 =>
   lx (f22_P_ok fu (v2.1, (v2.2.1, ())) (v5.1, (v5.2.1, ()))) fun r6 =>
   lc (
   lc (
   ih.2.2.2 data a b i j (W (i + (1 : Int))) hp3) (
   ih.1 data a b i (W (j + (1 : Int))) hp3)) (
   lb fun v7 =>
   lb fun _ =>
   lb fun v8 =>
   lb fun v9 =>
   lb fun v10 =>
   lb fun _ =>
   lb fun v11 =>
   lb fun v12 =>
   lb fun v13 =>
   lb fun _ =>
   lb fun v14 =>
   lb fun v15 =>
   let e16 : List Os := (hset hp3 data (v14.set j2.toNat (v9.1, (v9.2.1, ()))))
   lb fun v17 =>
   lb fun _ =>
   lb fun v18 =>
   lb fun v19 =>
   let e20 : List Os := (hset e16 data (v18.set (W (j2 - (1 : Int))).toNat (v12.1, (v12.2.1, ()))))
   ih.2.2.1 data a b i j (W (j2 - (1 : Int))) e20)) (
   lc (
   ih.2.2.2 data a b i j (W (i + (1 : Int))) hp3) (
   ih.1 data a b i (W (j + (1 : Int))) hp3)))),
  (fun data a b i j j2 hp3 => le (f83_L3_eq data a b i j j2 hp3) (
   lc (
   lb fun v0 =>
   lb fun _ =>
   lb fun v1 =>
   lb fun v2 =>
   lb fun v3 =>
   lb fun _ =>
   lb fun v4 =>
   lb fun v5 =>
   lx (f22_P_ok fu (v2.1, (v2.2.1, ())) (v5.1, (v5.2.1, ()))) fun r6 =>
   lc (
   ih.1 data a b i (W (j + (1 : Int))) hp3) (
   lb fun v7 =>
   lb fun _ =>
   lb fun v8 =>
   lb fun v9 =>
   lb fun v10 =>
   lb fun _ =>
   lb fun v11 =>
   lb fun v12 =>
   lb fun v13 =>
   lb fun _ =>
   lb fun v14 =>
   lb fun v15 =>
   let e16 : List Os := (hset hp3 data (v14.set j2.toNat (v9.1, (v9.2.1, ()))))
   lb fun v17 =>
   lb fun _ =>
   lb fun v18 =>
   lb fun v19 =>
   let e20 : List Os := (hset e16 data (v18.set (W (j2 - (1 : Int))).toNat (v12.1, (v12.2.1, ()))))
   ih.2.2.2 data a b i j (W (j2 + (1 : Int))) e20)) (
   ih.1 data a b i (W (j + (1 : Int))) hp3)))⟩
def f83_P (fu : Nat) (data : Nat) (a : Int) (b : Int) (hp3 : List Os) : Option ((Bool) × (List Os)) :=
 (f83_Ls fu).1 data a b (W (a + (1 : Int))) (0 : Int) hp3
theorem f83_P_ok (fu : Nat) (data : Nat) (a : Int) (b : Int) (hp3 : List Os) : Le (f83_P fu data a b hp3) (f83 data a b hp3) := le (f83_eq data a b hp3) (
 (f83_Ls_ok fu).1 data a b (W (a + (1 : Int))) (0 : Int) hp3)
def f84_Ls : Nat → ((Nat) → (Int) → (Int) → (Int) → (List Os) → Option ((Int) × (List Os))) × ((Nat) → (Int) → (Int) → (Int) → (List Os) → Option ((Int) × (List Os))) × ((Nat) → (Int) → (Int) → (Int) → (List Os) → Option ((Int) × (List Os)))
 | 0 => (fun _ _ _ _ _ => none, fun _ _ _ _ _ => none, fun _ _ _ _ _ => none)
 | fu + 1 => (fun data a i j hp3 =>
  (f84_Ls fu).2.1 data a i j hp3,
  fun data a i j hp3 =>
  bif (decide (i ≤ j)) then
   (hget hp3 data).bind fun v0 =>
   (idx v0 a).bind fun _ =>
   (hget hp3 data).bind fun v1 =>
   (v1[a.toNat]?).bind fun v2 =>
   (hget hp3 data).bind fun v3 =>
   (idx v3 i).bind fun _ =>
   (hget hp3 data).bind fun v4 =>
   (v4[i.toNat]?).bind fun v5 =>
   (f22_P fu (v2.1, (v2.2.1, ())) (v5.1, (v5.2.1, ()))).bind fun r6 =>
   bif (!(decide (r6 < (0 : Int)))) then
    (f84_Ls fu).2.1 data a (W (i + (1 : Int))) j hp3
   else
    (f84_Ls fu).2.2 data a i j hp3
  else
   (f84_Ls fu).2.2 data a i j hp3,
  fun data a i j hp3 =>
  bif (decide (i ≤ j)) then
   (hget hp3 data).bind fun v0 =>
   (idx v0 a).bind fun _ =>
   (hget hp3 data).bind fun v1 =>
   (v1[a.toNat]?).bind fun v2 =>
   (hget hp3 data).bind fun v3 =>
   (idx v3 j).bind fun _ =>
   (hget hp3 data).bind fun v4 =>
   (v4[j.toNat]?).bind fun v5 =>
   (f22_P fu (v2.1, (v2.2.1, ())) (v5.1, (v5.2.1, ()))).bind fun r6 =>
   bif (decide (r6 < (0 : Int))) then
    (f84_Ls fu).2.2 data a i (W (j - (1 : Int))) hp3
   else
    bif (decide (i > j)) then
     some (i, hp3)
    else
     (hget hp3 data).bind fun v7 =>
     (idx v7 j).bind fun _ =>
     (hget hp3 data).bind fun v8 =>
     (v8[j.toNat]?).bind fun v9 =>
     (hget hp3 data).bind fun v10 =>
     (idx v10 i).bind fun _ =>
     (hget hp3 data).bind fun v11 =>
     (v11[i.toNat]?).bind fun v12 =>
     (hget hp3 data).bind fun v13 =>
     (idx v13 i).bind fun _ =>
     (hget hp3 data).bind fun v14 =>
     (v14[i.toNat]?).bind fun v15 =>
     let e16 : List Os := (hset hp3 data (v14.set i.toNat (v9.1, (v9.2.1, ()))))
     (hget e16 data).bind fun v17 =>
     (idx v17 j).bind fun _ =>
     (hget e16 data).bind fun v18 =>
     (v18[j.toNat]?).bind fun v19 =>
     let e20 : List Os := (hset e16 data (v18.set j.toNat (v12.1, (v12.2.1, ()))))
     (f84_Ls fu).1 data a (W (i + (1 : Int))) (W (j - (1 : Int))) e20
  else
   bif (decide (i > j)) then
    some (i, hp3)
   else
    (hget hp3 data).bind fun v21 =>
    (idx v21 j).bind fun _ =>
    (hget hp3 data).bind fun v22 =>
    (v22[j.toNat]?).bind fun v23 =>
    (hget hp3 data).bind fun v24 =>
    (idx v24 i).bind fun _ =>
    (hget hp3 data).bind fun v25 =>
    (v25[i.toNat]?).bind fun v26 =>
    (hget hp3 data).bind fun v27 =>
    (idx v27 i).bind fun _ =>
    (hget hp3 data).bind fun v28 =>
    (v28[i.toNat]?).bind fun v29 =>
    let e30 : List Os := (hset hp3 data (v28.set i.toNat (v23.1, (v23.2.1, ()))))
    (hget e30 data).bind fun v31 =>
    (idx v31 j).bind fun _ =>
    (hget e30 data).bind fun v32 =>
    (v32[j.toNat]?).bind fun v33 =>
    let e34 : List Os := (hset e30 data (v32.set j.toNat (v26.1, (v26.2.1, ()))))
    (f84_Ls fu).1 data a (W (i + (1 : Int))) (W (j - (1 : Int))) e34)
theorem f84_Ls_ok : ∀ fu, (∀ (data : Nat) (a : Int) (i : Int) (j : Int) (hp3 : List Os), Le ((f84_Ls fu).1 data a i j hp3) (f84_L0 data a i j hp3)) ∧ (∀ (data : Nat) (a : Int) (i : Int) (j : Int) (hp3 : List Os), Le ((f84_Ls fu).2.1 data a i j hp3) (f84_L1 data a i j hp3)) ∧ (∀ (data : Nat) (a : Int) (i : Int) (j : Int) (hp3 : List Os), Le ((f84_Ls fu).2.2 data a i j hp3) (f84_L2 data a i j hp3))
 | 0 => ⟨(fun _ _ _ _ _ => ln _),
  (fun _ _ _ _ _ => ln _),
  (fun _ _ _ _ _ => ln _)⟩
 | fu + 1 => by
  have ih := f84_Ls_ok fu
  exact ⟨(fun data a i j hp3 => le (f84_L0_eq data a i j hp3) (
   ih.2.1 data a i j hp3)),
  (fun data a i j hp3 => le (f84_L1_eq data a i j hp3) (
   lc (
   lb fun v0 =>
   lb fun _ =>
   lb fun v1 =>
   lb fun v2 =>
   lb fun v3 =>
   lb fun _ =>
   lb fun v4 =>
   lb fun v5 =>
   lx (f22_P_ok fu (v2.1, (v2.2.1, ())) (v5.1, (v5.2.1, ()))) fun r6 =>
   lc (
   ih.2.1 data a (W (i + (1 : Int))) j hp3) (
   ih.2.2 data a i j hp3)) (
   ih.2.2 data a i j hp3))),
  (fun data a i j hp3 => le (f84_L2_eq data a i j hp3) (
   lc (
   lb fun v0 =>
   lb fun _ =>
   lb fun v1 =>
   lb fun v2 =>
   lb fun v3 =>
   lb fun _ =>
   lb fun v4 =>
   lb fun v5 =>
   lx (f22_P_ok fu (v2.1, (v2.2.1, ())) (v5.1, (v5.2.1, ()))) fun r6 =>
   lc (
   ih.2.2 data a i (W (j - (1 : Int))) hp3) (
   lc (lr _) (
   lb fun v7 =>
   lb fun _ =>
   lb fun v8 =>
   lb fun v9 =>
   lb fun v10 =>
   lb fun _ =>
   lb fun v11 =>
   lb fun v12 =>
   lb fun v13 =>
   lb fun _ =>
   lb fun v14 =>
   lb fun v15 =>
   let e16 : List Os := (hset hp3 data (v14.set i.toNat (v9.1, (v9.2.1, ()))))
   lb fun v17 =>
   lb fun _ =>
   lb fun v18 =>
   lb fun v19 =>
   let e20 : List Os := (hset e16 data (v18.set j.toNat (v12.1, (v12.2.1, ()))))
   ih.1 data a (W (i + (1 : Int))) (W (j - (1 : Int))) e20))) (
   lc (lr _) (
   lb fun v21 =>
   lb fun _ =>
   lb fun v22 =>
   lb fun v23 =>
   lb fun v24 =>
   lb fun _ =>
   lb fun v25 =>
   lb fun v26 =>
   lb fun v27 =>
   lb fun _ =>
   lb fun v28 =>
   lb fun v29 =>
   let e30 : List Os := (hset hp3 data (v28.set i.toNat (v23.1, (v23.2.1, ()))))
   lb fun v31 =>
   lb fun _ =>
   lb fun v32 =>
   lb fun v33 =>
   let e34 : List Os := (hset e30 data (v32.set j.toNat (v26.1, (v26.2.1, ()))))
   ih.1 data a (W (i + (1 : Int))) (W (j - (1 : Int))) e34))))⟩
def f84_P (fu : Nat) (data : Nat) (a : Int) (b : Int) (pivot : Int) (hp3 : List Os) : Option ((Int) × (List Os)) :=
 (hget hp3 data).bind fun v0 =>
 (idx v0 pivot).bind fun _ =>
 (hget hp3 data).bind fun v1 =>
 (v1[pivot.toNat]?).bind fun v2 =>
 (hget hp3 data).bind fun v3 =>
 (idx v3 a).bind fun _ =>
 (hget hp3 data).bind fun v4 =>
 (v4[a.toNat]?).bind fun v5 =>
 (hget hp3 data).bind fun v6 =>
 (idx v6 a).bind fun _ =>
 (hget hp3 data).bind fun v7 =>
 (v7[a.toNat]?).bind fun v8 =>
 let e9 : List Os := (hset hp3 data (v7.set a.toNat (v2.1, (v2.2.1, ()))))
 (hget e9 data).bind fun v10 =>
 (idx v10 pivot).bind fun _ =>
 (hget e9 data).bind fun v11 =>
 (v11[pivot.toNat]?).bind fun v12 =>
 let e13 : List Os := (hset e9 data (v11.set pivot.toNat (v5.1, (v5.2.1, ()))))
 (f84_Ls fu).1 data a (W (a + (1 : Int))) (W (b - (1 : Int))) e13
theorem f84_P_ok (fu : Nat) (data : Nat) (a : Int) (b : Int) (pivot : Int) (hp3 : List Os) : Le (f84_P fu data a b pivot hp3) (f84 data a b pivot hp3) := le (f84_eq data a b pivot hp3) (
 lb fun v0 =>
 lb fun _ =>
 lb fun v1 =>
 lb fun v2 =>
 lb fun v3 =>
 lb fun _ =>
 lb fun v4 =>
 lb fun v5 =>
 lb fun v6 =>
 lb fun _ =>
 lb fun v7 =>
 lb fun v8 =>
 let e9 : List Os := (hset hp3 data (v7.set a.toNat (v2.1, (v2.2.1, ()))))
 lb fun v10 =>
 lb fun _ =>
 lb fun v11 =>
 lb fun v12 =>
 let e13 : List Os := (hset e9 data (v11.set pivot.toNat (v5.1, (v5.2.1, ()))))
 (f84_Ls_ok fu).1 data a (W (a + (1 : Int))) (W (b - (1 : Int))) e13)
def f85_Ls : Nat → ((Nat) → (Int) → (Int) → (Int) → (List Os) → Option ((Int × Bool) × (List Os))) × ((Nat) → (Int) → (Int) → (Int) → (List Os) → Option ((Int × Bool) × (List Os))) × ((Nat) → (Int) → (Int) → (Int) → (List Os) → Option ((Int × Bool) × (List Os))) × ((Nat) → (Int) → (Int) → (Int) → (List Os) → Option ((Int × Bool) × (List Os))) × ((Nat) → (Int) → (Int) → (Int) → (List Os) → Option ((Int × Bool) × (List Os)))
 | 0 => (fun _ _ _ _ _ => none, fun _ _ _ _ _ => none, fun _ _ _ _ _ => none, fun _ _ _ _ _ => none, fun _ _ _ _ _ => none)
 | fu + 1 => (fun data a i j hp3 =>
  bif (decide (i ≤ j)) then
   (hget hp3 data).bind fun v0 =>
   (idx v0 i).bind fun _ =>
   (hget hp3 data).bind fun v1 =>
   (v1[i.toNat]?).bind fun v2 =>
   (hget hp3 data).bind fun v3 =>
   (idx v3 a).bind fun _ =>
   (hget hp3 data).bind fun v4 =>
   (v4[a.toNat]?).bind fun v5 =>
   (f22_P fu (v2.1, (v2.2.1, ())) (v5.1, (v5.2.1, ()))).bind fun r6 =>
   bif (decide (r6 < (0 : Int))) then
    (f85_Ls fu).1 data a (W (i + (1 : Int))) j hp3
   else
    (f85_Ls fu).2.1 data a i j hp3
  else
   (f85_Ls fu).2.1 data a i j hp3,
  fun data a i j hp3 =>
  bif (decide (i ≤ j)) then
   (hget hp3 data).bind fun v0 =>
   (idx v0 j).bind fun _ =>
   (hget hp3 data).bind fun v1 =>
   (v1[j.toNat]?).bind fun v2 =>
   (hget hp3 data).bind fun v3 =>
   (idx v3 a).bind fun _ =>
   (hget hp3 data).bind fun v4 =>
   (v4[a.toNat]?).bind fun v5 =>
   (f22_P fu (v2.1, (v2.2.1, ())) (v5.1, (v5.2.1, ()))).bind fun r6 =>
   bif (!(decide (r6 < (0 : Int)))) then
    (f85_Ls fu).2.1 data a i (W (j - (1 : Int))) hp3
   else
    bif (decide (i > j)) then
     (hget hp3 data).bind fun v7 =>
     (idx v7 a).bind fun _ =>
     (hget hp3 data).bind fun v8 =>
     (v8[a.toNat]?).bind fun v9 =>
     (hget hp3 data).bind fun v10 =>
     (idx v10 j).bind fun _ =>
     (hget hp3 data).bind fun v11 =>
     (v11[j.toNat]?).bind fun v12 =>
     (hget hp3 data).bind fun v13 =>
     (idx v13 j).bind fun _ =>
     (hget hp3 data).bind fun v14 =>
     (v14[j.toNat]?).bind fun v15 =>
     let e16 : List Os := (hset hp3 data (v14.set j.toNat (v9.1, (v9.2.1, ()))))
     (hget e16 data).bind fun v17 =>
     (idx v17 a).bind fun _ =>
     (hget e16 data).bind fun v18 =>
     (v18[a.toNat]?).bind fun v19 =>
     let e20 : List Os := (hset e16 data (v18.set a.toNat (v12.1, (v12.2.1, ()))))
     some ((j, true), e20)
    else
     (hget hp3 data).bind fun v21 =>
     (idx v21 j).bind fun _ =>
     (hget hp3 data).bind fun v22 =>
     (v22[j.toNat]?).bind fun v23 =>
     (hget hp3 data).bind fun v24 =>
     (idx v24 i).bind fun _ =>
     (hget hp3 data).bind fun v25 =>
     (v25[i.toNat]?).bind fun v26 =>
     (hget hp3 data).bind fun v27 =>
     (idx v27 i).bind fun _ =>
     (hget hp3 data).bind fun v28 =>
     (v28[i.toNat]?).bind fun v29 =>
     let e30 : List Os := (hset hp3 data (v28.set i.toNat (v23.1, (v23.2.1, ()))))
     (hget e30 data).bind fun v31 =>
     (idx v31 j).bind fun _ =>
     (hget e30 data).bind fun v32 =>
     (v32[j.toNat]?).bind fun v33 =>
     let e34 : List Os := (hset e30 data (v32.set j.toNat (v26.1, (v26.2.1, ()))))
     (f85_Ls fu).2.2.1 data a (W (i + (1 : Int))) (W (j - (1 : Int))) e34
  else
   bif (decide (i > j)) then
    (hget hp3 data).bind fun v35 =>
    (idx v35 a).bind fun _ =>
    (hget hp3 data).bind fun v36 =>
    (v36[a.toNat]?).bind fun v37 =>
    (hget hp3 data).bind fun v38 =>
    (idx v38 j).bind fun _ =>
    (hget hp3 data).bind fun v39 =>
    (v39[j.toNat]?).bind fun v40 =>
    (hget hp3 data).bind fun v41 =>
    (idx v41 j).bind fun _ =>
    (hget hp3 data).bind fun v42 =>
    (v42[j.toNat]?).bind fun v43 =>
    let e44 : List Os := (hset hp3 data (v42.set j.toNat (v37.1, (v37.2.1, ()))))
    (hget e44 data).bind fun v45 =>
    (idx v45 a).bind fun _ =>
    (hget e44 data).bind fun v46 =>
    (v46[a.toNat]?).bind fun v47 =>
    let e48 : List Os := (hset e44 data (v46.set a.toNat (v40.1, (v40.2.1, ()))))
    some ((j, true), e48)
   else
    (hget hp3 data).bind fun v49 =>
    (idx v49 j).bind fun _ =>
    (hget hp3 data).bind fun v50 =>
    (v50[j.toNat]?).bind fun v51 =>
    (hget hp3 data).bind fun v52 =>
    (idx v52 i).bind fun _ =>
    (hget hp3 data).bind fun v53 =>
    (v53[i.toNat]?).bind fun v54 =>
    (hget hp3 data).bind fun v55 =>
    (idx v55 i).bind fun _ =>
    (hget hp3 data).bind fun v56 =>
    (v56[i.toNat]?).bind fun v57 =>
    let e58 : List Os := (hset hp3 data (v56.set i.toNat (v51.1, (v51.2.1, ()))))
    (hget e58 data).bind fun v59 =>
    (idx v59 j).bind fun _ =>
    (hget e58 data).bind fun v60 =>
    (v60[j.toNat]?).bind fun v61 =>
    let e62 : List Os := (hset e58 data (v60.set j.toNat (v54.1, (v54.2.1, ()))))
    (f85_Ls fu).2.2.1 data a (W (i + (1 : Int))) (W (j - (1 : Int))) e62,
  fun data a i j hp3 =>
  (f85_Ls fu).2.2.2.1 data a i j hp3,
  fun data a i j hp3 =>
  bif (decide (i ≤ j)) then
   (hget hp3 data).bind fun v0 =>
   (idx v0 i).bind fun _ =>
   (hget hp3 data).bind fun v1 =>
   (v1[i.toNat]?).bind fun v2 =>
   (hget hp3 data).bind fun v3 =>
   (idx v3 a).bind fun _ =>
   (hget hp3 data).bind fun v4 =>
   (v4[a.toNat]?).bind fun v5 =>
   (f22_P fu (v2.1, (v2.2.1, ())) (v5.1, (v5.2.1, ()))).bind fun r6 =>
   bif (decide (r6 < (0 : Int))) then
    (f85_Ls fu).2.2.2.1 data a (W (i + (1 : Int))) j hp3
   else
    (f85_Ls fu).2.2.2.2 data a i j hp3
  else
   (f85_Ls fu).2.2.2.2 data a i j hp3,
  fun data a i j hp3 =>
  bif (decide (i ≤ j)) then
   (hget hp3 data).bind fun v0 =>
   (idx v0 j).bind fun _ =>
   (hget hp3 data).bind fun v1 =>
   (v1[j.toNat]?).bind fun v2 =>
   (hget hp3 data).bind fun v3 =>
   (idx v3 a).bind fun _ =>
   (hget hp3 data).bind fun v4 =>
   (v4[a.toNat]?).bind fun v5 =>
   (f22_P fu (v2.1, (v2.2.1, ())) (v5.1, (v5.2.1, ()))).bind fun r6 =>
   bif (!(decide (r6 < (0 : Int)))) then
    (f85_Ls fu).2.2.2.2 data a i (W (j - (1 : Int))) hp3
   else
    bif (decide (i > j)) then
     (hget hp3 data).bind fun v7 =>
     (idx v7 a).bind fun _ =>
     (hget hp3 data).bind fun v8 =>
     (v8[a.toNat]?).bind fun v9 =>
     (hget hp3 data).bind fun v10 =>
     (idx v10 j).bind fun _ =>
     (hget hp3 data).bind fun v11 =>
     (v11[j.toNat]?).bind fun v12 =>
     (hget hp3 data).bind fun v13 =>
     (idx v13 j).bind fun _ =>
     (hget hp3 data).bind fun v14 =>
     (v14[j.toNat]?).bind fun v15 =>
     let e16 : List Os := (hset hp3 data (v14.set j.toNat (v9.1, (v9.2.1, ()))))
     (hget e16 data).bind fun v17 =>
     (idx v17 a).bind fun _ =>
     (hget e16 data).bind fun v18 =>
     (v18[a.toNat]?).bind fun v19 =>
     let e20 : List Os := (hset e16 data (v18.set a.toNat (v12.1, (v12.2.1, ()))))
     some ((j, false), e20)
    else
     (hget hp3 data).bind fun v21 =>
     (idx v21 j).bind fun _ =>
     (hget hp3 data).bind fun v22 =>
     (v22[j.toNat]?).bind fun v23 =>
     (hget hp3 data).bind fun v24 =>
     (idx v24 i).bind fun _ =>
     (hget hp3 data).bind fun v25 =>
     (v25[i.toNat]?).bind fun v26 =>
     (hget hp3 data).bind fun v27 =>
     (idx v27 i).bind fun _ =>
     (hget hp3 data).bind fun v28 =>
     (v28[i.toNat]?).bind fun v29 =>
     let e30 : List Os := (hset hp3 data (v28.set i.toNat (v23.1, (v23.2.1, ()))))
     (hget e30 data).bind fun v31 =>
     (idx v31 j).bind fun _ =>
     (hget e30 data).bind fun v32 =>
     (v32[j.toNat]?).bind fun v33 =>
     let e34 : List Os := (hset e30 data (v32.set j.toNat (v26.1, (v26.2.1, ()))))
     (f85_Ls fu).2.2.1 data a (W (i + (1 : Int))) (W (j - (1 : Int))) e34
  else
   bif (decide (i > j)) then
    (hget hp3 data).bind fun v35 =>
    (idx v35 a).bind fun _ =>
    (hget hp3 data).bind fun v36 =>
    (v36[a.toNat]?).bind fun v37 =>
    (hget hp3 data).bind fun v38 =>
    (idx v38 j).bind fun _ =>
    (hget hp3 data).bind fun v39 =>
    (v39[j.toNat]?).bind fun v40 =>
    (hget hp3 data).bind fun v41 =>
    (idx v41 j).bind fun _ =>
    (hget hp3 data).bind fun v42 =>
    (v42[j.toNat]?).bind fun v43 =>
    let e44 : List Os := (hset hp3 data (v42.set j.toNat (v37.1, (v37.2.1, ()))))
    (hget e44 data).bind fun v45 =>
    (idx v45 a).bind fun _ =>
    (hget e44 data).bind fun v46 =>
    (v46[a.toNat]?).bind fun v47 =>
    let e48 : List Os := (hset e44 data (v46.set a.toNat (v40.1, (v40.2.1, ()))))
    some ((j, false), e48)
   else
    (hget hp3 data).bind fun v49 =>
    (idx v49 j).bind fun _ =>
    (hget hp3 data).bind fun v50 =>
    (v50[j.toNat]?).bind fun v51 =>
    (hget hp3 data).bind fun v52 =>
    (idx v52 i).bind fun _ =>
    (hget hp3 data).bind fun v53 =>
    (v53[i.toNat]?).bind fun v54 =>
    (hget hp3 data).bind fun v55 =>
    (idx v55 i).bind fun _ =>
    (hget hp3 data).bind fun v56 =>
    (v56[i.toNat]?).bind fun v57 =>
    let e58 : List Os := (hset hp3 data (v56.set i.toNat (v51.1, (v51.2.1, ()))))
    (hget e58 data).bind fun v59 =>
    (idx v59 j).bind fun _ =>
    (hget e58 data).bind fun v60 =>
    (v60[j.toNat]?).bind fun v61 =>
    let e62 : List Os := (hset e58 data (v60.set j.toNat (v54.1, (v54.2.1, ()))))
    (f85_Ls fu).2.2.1 data a (W (i + (1 : Int))) (W (j - (1 : Int))) e62)
theorem f85_Ls_ok : ∀ fu, (∀ (data : Nat) (a : Int) (i : Int) (j : Int) (hp3 : List Os), Le ((f85_Ls fu).1 data a i j hp3) (f85_L0 data a i j hp3)) ∧ (∀ (data : Nat) (a : Int) (i : Int) (j : Int) (hp3 : List Os), Le ((f85_Ls fu).2.1 data a i j hp3) (f85_L1 data a i j hp3)) ∧ (∀ (data : Nat) (a : Int) (i : Int) (j : Int) (hp3 : List Os), Le ((f85_Ls fu).2.2.1 data a i j hp3) (f85_L2 data a i j hp3)) ∧ (∀ (data : Nat) (a : Int) (i : Int) (j : Int) (hp3 : List Os), Le ((f85_Ls fu).2.2.2.1 data a i j hp3) (f85_L3 data a i j hp3)) ∧ (∀ (data : Nat) (a : Int) (i : Int) (j : Int) (hp3 : List Os), Le ((f85_Ls fu).2.2.2.2 data a i j hp3) (f85_L4 data a i j hp3))
 | 0 => ⟨(fun _ _ _ _ _ => ln _),
  (fun _ _ _ _ _ => ln _),
  (fun _ _ _ _ _ => ln _),
  (fun _ _ _ _ _ => ln _),
  (fun _ _ _ _ _ => ln _)⟩
 | fu + 1 => by
  have ih := f85_Ls_ok fu
  exact ⟨(fun data a i j hp3 => le (f85_L0_eq data a i j hp3) (
   lc (
   lb fun v0 =>
   lb fun _ =>
   lb fun v1 =>
   lb fun v2 =>
   lb fun v3 =>
   lb fun _ =>
   lb fun v4 =>
   lb fun v5 =>
   lx (f22_P_ok fu (v2.1, (v2.2.1, ())) (v5.1, (v5.2.1, ()))) fun r6 =>
   lc (
   ih.1 data a (W (i + (1 : Int))) j hp3) (
   ih.2.1 data a i j hp3)) (
   ih.2.1 data a i j hp3))),
  (fun data a i j hp3 => le (f85_L1_eq data a i j hp3) (
   lc (
   lb fun v0 =>
   lb fun _ =>
   lb fun v1 =>
   lb fun v2 =>
   lb fun v3 =>
   lb fun _ =>
   lb fun v4 =>
   lb fun v5 =>
   lx (f22_P_ok fu (v2.1, (v2.2.1, ())) (v5.1, (v5.2.1, ()))) fun r6 =>
   lc (
   ih.2.1 data a i (W (j - (1 : Int))) hp3) (
   lc (
   lb fun v7 =>
   lb fun _ =>
   lb fun v8 =>
   lb fun v9 =>
   lb fun v10 =>
   lb fun _ =>
   lb fun v11 =>
   lb fun v12 =>
   lb fun v13 =>
   lb fun _ =>
   lb fun v14 =>
   lb fun v15 =>
   let e16 : List Os := (hset hp3 data (v14.set j.toNat (v9.1, (v9.2.1, ()))))
   lb fun v17 =>
   lb fun _ =>
   lb fun v18 =>
   lb fun v19 =>
   let e20 : List Os := (hset e16 data (v18.set a.toNat (v12.1, (v12.2.1, ()))))
   lr _) (
   lb fun v21 =>
   lb fun _ =>
   lb fun v22 =>
   lb fun v23 =>
   lb fun v24 =>
   lb fun _ =>
   lb fun v25 =>
   lb fun v26 =>
   lb fun v27 =>
   lb fun _ =>
   lb fun v28 =>
   lb fun v29 =>
   let e30 : List Os := (hset hp3 data (v28.set i.toNat (v23.1, (v23.2.1, ()))))
   lb fun v31 =>
   lb fun _ =>
   lb fun v32 =>
   lb fun v33 =>
   let e34 : List Os := (hset e30 data (v32.set j.toNat (v26.1, (v26.2.1, ()))))
   ih.2.2.1 data a (W (i + (1 : Int))) (W (j - (1 : Int))) e34))) (
   lc (
   lb fun v35 =>
   lb fun _ =>
   lb fun v36 =>
   lb fun v37 =>
   lb fun v38 =>
   lb fun _ =>
   lb fun v39 =>
   lb fun v40 =>
   lb fun v41 =>
   lb fun _ =>
   lb fun v42 =>
   lb fun v43 =>
   let e44 : List Os := (hset hp3 data (v42.set j.toNat (v37.1, (v37.2.1, ()))))
   lb fun v45 =>
   lb fun _ =>
   lb fun v46 =>
   lb fun v47 =>
   let e48 : List Os := (hset e44 data (v46.set a.toNat (v40.1, (v40.2.1, ()))))
   lr _) (
   lb fun v49 =>
   lb fun _ =>
   lb fun v50 =>
   lb fun v51 =>
   lb fun v52 =>
   lb fun _ =>
   lb fun v53 =>
   lb fun v54 =>
   lb fun v55 =>
   lb fun _ =>
   lb fun v56 =>
   lb fun v57 =>
   let e58 : List Os := (hset hp3 data (v56.set i.toNat (v51.1, (v51.2.1, ()))))
   lb fun v59 =>
   lb fun _ =>
   lb fun v60 =>
   lb fun v61 =>
   let e62 : List Os := (hset e58 data (v60.set j.toNat (v54.1, (v54.2.1, ()))))
   ih.2.2.1 data a (W (i + (1 : Int))) (W (j - (1 : Int))) e62)))),
  (fun data a i j hp3 => le (f85_L2_eq data a i j hp3) (
   ih.2.2.2.1 data a i j hp3)),
  (fun data a i j hp3 => le (f85_L3_eq data a i j hp3) (
   lc (
   lb fun v0 =>
   lb fun _ =>
   lb fun v1 =>
   lb fun v2 =>
   lb fun v3 =>
   lb fun _ =>
   lb fun v4 =>
   lb fun v5 =>
   lx (f22_P_ok fu (v2.1, (v2.2.1, ())) (v5.1, (v5.2.1, ()))) fun r6 =>
   lc (
   ih.2.2.2.1 data a (W (i + (1 : Int))) j hp3) (
   ih.2.2.2.2 data a i j hp3)) (
   ih.2.2.2.2 data a i j hp3))),
  (fun data a i j hp3 => le (f85_L4_eq data a i j hp3) (
   lc (
   lb fun v0 =>
   lb fun _ =>
   lb fun v1 =>
   lb fun v2 =>
   lb fun v3 =>
   lb fun _ =>
   lb fun v4 =>
   lb fun v5 =>
   lx (f22_P_ok fu (v2.1, (v2.2.1, ())) (v5.1, (v5.2.1, ()))) fun r6 =>
   lc (
   ih.2.2.2.2 data a i (W (j - (1 : Int))) hp3) (
   lc (
   lb fun v7 =>
   lb fun _ =>
   lb fun v8 =>
   lb fun v9 =>
   lb fun v10 =>
   lb fun _ =>
   lb fun v11 =>
   lb fun v12 =>
   lb fun v13 =>
   lb fun _ =>
   lb fun v14 =>
   lb fun v15 =>
   let e16 : List Os := (hset hp3 data (v14.set j.toNat (v9.1, (v9.2.1, ()))))
   lb fun v17 =>
   lb fun _ =>
   lb fun v18 =>
   lb fun v19 =>
   let e20 : List Os := (hset e16 data (v18.set a.toNat (v12.1, (v12.2.1, ()))))
   lr _) (
   lb fun v21 =>
   lb fun _ =>
   lb fun v22 =>
   lb fun v23 =>
   lb fun v24 =>
   lb fun _ =>
   lb fun v25 =>
   lb fun v26 =>
   lb fun v27 =>
   lb fun _ =>
   lb fun v28 =>
   lb fun v29 =>
   let e30 : List Os := (hset hp3 data (v28.set i.toNat (v23.1, (v23.2.1, ()))))
   lb fun v31 =>
   lb fun _ =>
   lb fun v32 =>
   lb fun v33 =>
   let e34 : List Os := (hset e30 data (v32.set j.toNat (v26.1, (v26.2.1, ()))))
   ih.2.2.1 data a (W (i + (1 : Int))) (W (j - (1 : Int))) e34))) (
   lc (
   lb fun v35 =>
   lb fun _ =>
   lb fun v36 =>
   lb fun v37 =>
   lb fun v38 =>
   lb fun _ =>
   lb fun v39 =>
   lb fun v40 =>
   lb fun v41 =>
   lb fun _ =>
   lb fun v42 =>
   lb fun v43 =>
   let e44 : List Os := (hset hp3 data (v42.set j.toNat (v37.1, (v37.2.1, ()))))
   lb fun v45 =>
   lb fun _ =>
   lb fun v46 =>
   lb fun v47 =>
   let e48 : List Os := (hset e44 data (v46.set a.toNat (v40.1, (v40.2.1, ()))))
   lr _) (
   lb fun v49 =>
   lb fun _ =>
   lb fun v50 =>
   lb fun v51 =>
   lb fun v52 =>
   lb fun _ =>
   lb fun v53 =>
   lb fun v54 =>
   lb fun v55 =>
   lb fun _ =>
   lb fun v56 =>
   lb fun v57 =>
   let e58 : List Os := (hset hp3 data (v56.set i.toNat (v51.1, (v51.2.1, ()))))
   lb fun v59 =>
   lb fun _ =>
   lb fun v60 =>
   lb fun v61 =>
   let e62 : List Os := (hset e58 data (v60.set j.toNat (v54.1, (v54.2.1, ()))))
   ih.2.2.1 data a (W (i + (1 : Int))) (W (j - (1 : Int))) e62))))⟩
def f85_P (fu : Nat) (data : Nat) (a : Int) (b : Int) (pivot : Int) (hp3 : List Os) : Option ((Int × Bool) × (List Os)) :=
 (hget hp3 data).bind fun v0 =>
 (idx v0 pivot).bind fun _ =>
 (hget hp3 data).bind fun v1 =>
 (v1[pivot.toNat]?).bind fun v2 =>
 (hget hp3 data).bind fun v3 =>
 (idx v3 a).bind fun _ =>
 (hget hp3 data).bind fun v4 =>
 (v4[a.toNat]?).bind fun v5 =>
 (hget hp3 data).bind fun v6 =>
 (idx v6 a).bind fun _ =>
 (hget hp3 data).bind fun v7 =>
 (v7[a.toNat]?).bind fun v8 =>
 let e9 : List Os := (hset hp3 data (v7.set a.toNat (v2.1, (v2.2.1, ()))))
 (hget e9 data).bind fun v10 =>
 (idx v10 pivot).bind fun _ =>
 (hget e9 data).bind fun v11 =>
 (v11[pivot.toNat]?).bind fun v12 =>
 let e13 : List Os := (hset e9 data (v11.set pivot.toNat (v5.1, (v5.2.1, ()))))
 (f85_Ls fu).1 data a (W (a + (1 : Int))) (W (b - (1 : Int))) e13
theorem f85_P_ok (fu : Nat) (data : Nat) (a : Int) (b : Int) (pivot : Int) (hp3 : List Os) : Le (f85_P fu data a b pivot hp3) (f85 data a b pivot hp3) := le (f85_eq data a b pivot hp3) (
 lb fun v0 =>
 lb fun _ =>
 lb fun v1 =>
 lb fun v2 =>
 lb fun v3 =>
 lb fun _ =>
 lb fun v4 =>
 lb fun v5 =>
 lb fun v6 =>
 lb fun _ =>
 lb fun v7 =>
 lb fun v8 =>
 let e9 : List Os := (hset hp3 data (v7.set a.toNat (v2.1, (v2.2.1, ()))))
 lb fun v10 =>
 lb fun _ =>
 lb fun v11 =>
 lb fun v12 =>
 let e13 : List Os := (hset e9 data (v11.set pivot.toNat (v5.1, (v5.2.1, ()))))
 (f85_Ls_ok fu).1 data a (W (a + (1 : Int))) (W (b - (1 : Int))) e13)
def f86_P (fu : Nat) (x : Int) : Option (Int) :=
 bif (decide (x ≥ (4294967296 : Int))) then
  bif (decide ((shr .u64 x (32 : Int)) ≥ (65536 : Int))) then
   bif (decide ((shr .u64 (shr .u64 x (32 : Int)) (16 : Int)) ≥ (256 : Int))) then
    let e0 : Int := (shr .u64 (shr .u64 (shr .u64 x (32 : Int)) (16 : Int)) (8 : Int))
    (sidx (bs [0, 1, 2, 2, 3, 3, 3, 3, 4, 4, 4, 4, 4, 4, 4, 4, 5, 5, 5, 5, 5, 5, 5, 5, 5, 5, 5, 5, 5, 5, 5, 5, 6, 6, 6, 6, 6, 6, 6, 6, 6, 6, 6, 6, 6, 6, 6, 6, 6, 6, 6, 6, 6, 6, 6, 6, 6, 6, 6, 6, 6, 6, 6, 6, 7, 7, 7, 7, 7, 7, 7, 7, 7, 7, 7, 7, 7, 7, 7, 7, 7, 7, 7, 7, 7, 7, 7, 7, 7, 7, 7, 7, 7, 7, 7, 7, 7, 7, 7, 7, 7, 7, 7, 7, 7, 7, 7, 7, 7, 7, 7, 7, 7, 7, 7, 7, 7, 7, 7, 7, 7, 7, 7, 7, 7, 7, 7, 7, 8, 8, 8, 8, 8, 8, 8, 8, 8, 8, 8, 8, 8, 8, 8, 8, 8, 8, 8, 8, 8, 8, 8, 8, 8, 8, 8, 8, 8, 8, 8, 8, 8, 8, 8, 8, 8, 8, 8, 8, 8, 8, 8, 8, 8, 8, 8, 8, 8, 8, 8, 8, 8, 8, 8, 8, 8, 8, 8, 8, 8, 8, 8, 8, 8, 8, 8, 8, 8, 8, 8, 8, 8, 8, 8, 8, 8, 8, 8, 8, 8, 8, 8, 8, 8, 8, 8, 8, 8, 8, 8, 8, 8, 8, 8, 8, 8, 8, 8, 8, 8, 8, 8, 8, 8, 8, 8, 8, 8, 8, 8, 8, 8, 8, 8, 8, 8, 8, 8, 8, 8, 8, 8, 8, 8, 8, 8, 8]) (IntKind.wrap .u8 e0)).bind fun v1 =>
    let e2 : Int := (W ((56 : Int) + (W v1)))
    some e2
   else
    let e3 : Int := (IntKind.wrap .u8 (shr .u64 (shr .u64 x (32 : Int)) (16 : Int)))
    (sidx (bs [0, 1, 2, 2, 3, 3, 3, 3, 4, 4, 4, 4, 4, 4, 4, 4, 5, 5, 5, 5, 5, 5, 5, 5, 5, 5, 5, 5, 5, 5, 5, 5, 6, 6, 6, 6, 6, 6, 6, 6, 6, 6, 6, 6, 6, 6, 6, 6, 6, 6, 6, 6, 6, 6, 6, 6, 6, 6, 6, 6, 6, 6, 6, 6, 7, 7, 7, 7, 7, 7, 7, 7, 7, 7, 7, 7, 7, 7, 7, 7, 7, 7, 7, 7, 7, 7, 7, 7, 7, 7, 7, 7, 7, 7, 7, 7, 7, 7, 7, 7, 7, 7, 7, 7, 7, 7, 7, 7, 7, 7, 7, 7, 7, 7, 7, 7, 7, 7, 7, 7, 7, 7, 7, 7, 7, 7, 7, 7, 8, 8, 8, 8, 8, 8, 8, 8, 8, 8, 8, 8, 8, 8, 8, 8, 8, 8, 8, 8, 8, 8, 8, 8, 8, 8, 8, 8, 8, 8, 8, 8, 8, 8, 8, 8, 8, 8, 8, 8, 8, 8, 8, 8, 8, 8, 8, 8, 8, 8, 8, 8, 8, 8, 8, 8, 8, 8, 8, 8, 8, 8, 8, 8, 8, 8, 8, 8, 8, 8, 8, 8, 8, 8, 8, 8, 8, 8, 8, 8, 8, 8, 8, 8, 8, 8, 8, 8, 8, 8, 8, 8, 8, 8, 8, 8, 8, 8, 8, 8, 8, 8, 8, 8, 8, 8, 8, 8, 8, 8, 8, 8, 8, 8, 8, 8, 8, 8, 8, 8, 8, 8, 8, 8, 8, 8, 8, 8]) e3).bind fun v4 =>
    let e5 : Int := (W ((48 : Int) + (W v4)))
    some e5
  else
   bif (decide ((shr .u64 x (32 : Int)) ≥ (256 : Int))) then
    let e6 : Int := (IntKind.wrap .u8 (shr .u64 (shr .u64 x (32 : Int)) (8 : Int)))
    (sidx (bs [0, 1, 2, 2, 3, 3, 3, 3, 4, 4, 4, 4, 4, 4, 4, 4, 5, 5, 5, 5, 5, 5, 5, 5, 5, 5, 5, 5, 5, 5, 5, 5, 6, 6, 6, 6, 6, 6, 6, 6, 6, 6, 6, 6, 6, 6, 6, 6, 6, 6, 6, 6, 6, 6, 6, 6, 6, 6, 6, 6, 6, 6, 6, 6, 7, 7, 7, 7, 7, 7, 7, 7, 7, 7, 7, 7, 7, 7, 7, 7, 7, 7, 7, 7, 7, 7, 7, 7, 7, 7, 7, 7, 7, 7, 7, 7, 7, 7, 7, 7, 7, 7, 7, 7, 7, 7, 7, 7, 7, 7, 7, 7, 7, 7, 7, 7, 7, 7, 7, 7, 7, 7, 7, 7, 7, 7, 7, 7, 8, 8, 8, 8, 8, 8, 8, 8, 8, 8, 8, 8, 8, 8, 8, 8, 8, 8, 8, 8, 8, 8, 8, 8, 8, 8, 8, 8, 8, 8, 8, 8, 8, 8, 8, 8, 8, 8, 8, 8, 8, 8, 8, 8, 8, 8, 8, 8, 8, 8, 8, 8, 8, 8, 8, 8, 8, 8, 8, 8, 8, 8, 8, 8, 8, 8, 8, 8, 8, 8, 8, 8, 8, 8, 8, 8, 8, 8, 8, 8, 8, 8, 8, 8, 8, 8, 8, 8, 8, 8, 8, 8, 8, 8, 8, 8, 8, 8, 8, 8, 8, 8, 8, 8, 8, 8, 8, 8, 8, 8, 8, 8, 8, 8, 8, 8, 8, 8, 8, 8, 8, 8, 8, 8, 8, 8, 8, 8]) e6).bind fun v7 =>
    let e8 : Int := (W ((40 : Int) + (W v7)))
    some e8
   else
    (sidx (bs [0, 1, 2, 2, 3, 3, 3, 3, 4, 4, 4, 4, 4, 4, 4, 4, 5, 5, 5, 5, 5, 5, 5, 5, 5, 5, 5, 5, 5, 5, 5, 5, 6, 6, 6, 6, 6, 6, 6, 6, 6, 6, 6, 6, 6, 6, 6, 6, 6, 6, 6, 6, 6, 6, 6, 6, 6, 6, 6, 6, 6, 6, 6, 6, 7, 7, 7, 7, 7, 7, 7, 7, 7, 7, 7, 7, 7, 7, 7, 7, 7, 7, 7, 7, 7, 7, 7, 7, 7, 7, 7, 7, 7, 7, 7, 7, 7, 7, 7, 7, 7, 7, 7, 7, 7, 7, 7, 7, 7, 7, 7, 7, 7, 7, 7, 7, 7, 7, 7, 7, 7, 7, 7, 7, 7, 7, 7, 7, 8, 8, 8, 8, 8, 8, 8, 8, 8, 8, 8, 8, 8, 8, 8, 8, 8, 8, 8, 8, 8, 8, 8, 8, 8, 8, 8, 8, 8, 8, 8, 8, 8, 8, 8, 8, 8, 8, 8, 8, 8, 8, 8, 8, 8, 8, 8, 8, 8, 8, 8, 8, 8, 8, 8, 8, 8, 8, 8, 8, 8, 8, 8, 8, 8, 8, 8, 8, 8, 8, 8, 8, 8, 8, 8, 8, 8, 8, 8, 8, 8, 8, 8, 8, 8, 8, 8, 8, 8, 8, 8, 8, 8, 8, 8, 8, 8, 8, 8, 8, 8, 8, 8, 8, 8, 8, 8, 8, 8, 8, 8, 8, 8, 8, 8, 8, 8, 8, 8, 8, 8, 8, 8, 8, 8, 8, 8, 8]) (IntKind.wrap .u8 (shr .u64 x (32 : Int)))).bind fun v9 =>
    let e10 : Int := (W ((32 : Int) + (W v9)))
    some e10
 else
  bif (decide (x ≥ (65536 : Int))) then
   bif (decide ((shr .u64 x (16 : Int)) ≥ (256 : Int))) then
    let e11 : Int := (IntKind.wrap .u8 (shr .u64 (shr .u64 x (16 : Int)) (8 : Int)))
    (sidx (bs [0, 1, 2, 2, 3, 3, 3, 3, 4, 4, 4, 4, 4, 4, 4, 4, 5, 5, 5, 5, 5, 5, 5, 5, 5, 5, 5, 5, 5, 5, 5, 5, 6, 6, 6, 6, 6, 6, 6, 6, 6, 6, 6, 6, 6, 6, 6, 6, 6, 6, 6, 6, 6, 6, 6, 6, 6, 6, 6, 6, 6, 6, 6, 6, 7, 7, 7, 7, 7, 7, 7, 7, 7, 7, 7, 7, 7, 7, 7, 7, 7, 7, 7, 7, 7, 7, 7, 7, 7, 7, 7, 7, 7, 7, 7, 7, 7, 7, 7, 7, 7, 7, 7, 7, 7, 7, 7, 7, 7, 7, 7, 7, 7, 7, 7, 7, 7, 7, 7, 7, 7, 7, 7, 7, 7, 7, 7, 7, 8, 8, 8, 8, 8, 8, 8, 8, 8, 8, 8, 8, 8, 8, 8, 8, 8, 8, 8, 8, 8, 8, 8, 8, 8, 8, 8, 8, 8, 8, 8, 8, 8, 8, 8, 8, 8, 8, 8, 8, 8, 8, 8, 8, 8, 8, 8, 8, 8, 8, 8, 8, 8, 8, 8, 8, 8, 8, 8, 8, 8, 8, 8, 8, 8, 8, 8, 8, 8, 8, 8, 8, 8, 8, 8, 8, 8, 8, 8, 8, 8, 8, 8, 8, 8, 8, 8, 8, 8, 8, 8, 8, 8, 8, 8, 8, 8, 8, 8, 8, 8, 8, 8, 8, 8, 8, 8, 8, 8, 8, 8, 8, 8, 8, 8, 8, 8, 8, 8, 8, 8, 8, 8, 8, 8, 8, 8, 8]) e11).bind fun v12 =>
    let e13 : Int := (W ((24 : Int) + (W v12)))
    some e13
   else
    (sidx (bs [0, 1, 2, 2, 3, 3, 3, 3, 4, 4, 4, 4, 4, 4, 4, 4, 5, 5, 5, 5, 5, 5, 5, 5, 5, 5, 5, 5, 5, 5, 5, 5, 6, 6, 6, 6, 6, 6, 6, 6, 6, 6, 6, 6, 6, 6, 6, 6, 6, 6, 6, 6, 6, 6, 6, 6, 6, 6, 6, 6, 6, 6, 6, 6, 7, 7, 7, 7, 7, 7, 7, 7, 7, 7, 7, 7, 7, 7, 7, 7, 7, 7, 7, 7, 7, 7, 7, 7, 7, 7, 7, 7, 7, 7, 7, 7, 7, 7, 7, 7, 7, 7, 7, 7, 7, 7, 7, 7, 7, 7, 7, 7, 7, 7, 7, 7, 7, 7, 7, 7, 7, 7, 7, 7, 7, 7, 7, 7, 8, 8, 8, 8, 8, 8, 8, 8, 8, 8, 8, 8, 8, 8, 8, 8, 8, 8, 8, 8, 8, 8, 8, 8, 8, 8, 8, 8, 8, 8, 8, 8, 8, 8, 8, 8, 8, 8, 8, 8, 8, 8, 8, 8, 8, 8, 8, 8, 8, 8, 8, 8, 8, 8, 8, 8, 8, 8, 8, 8, 8, 8, 8, 8, 8, 8, 8, 8, 8, 8, 8, 8, 8, 8, 8, 8, 8, 8, 8, 8, 8, 8, 8, 8, 8, 8, 8, 8, 8, 8, 8, 8, 8, 8, 8, 8, 8, 8, 8, 8, 8, 8, 8, 8, 8, 8, 8, 8, 8, 8, 8, 8, 8, 8, 8, 8, 8, 8, 8, 8, 8, 8, 8, 8, 8, 8, 8, 8]) (IntKind.wrap .u8 (shr .u64 x (16 : Int)))).bind fun v14 =>
    let e15 : Int := (W ((16 : Int) + (W v14)))
    some e15
  else
   bif (decide (x ≥ (256 : Int))) then
    (sidx (bs [0, 1, 2, 2, 3, 3, 3, 3, 4, 4, 4, 4, 4, 4, 4, 4, 5, 5, 5, 5, 5, 5, 5, 5, 5, 5, 5, 5, 5, 5, 5, 5, 6, 6, 6, 6, 6, 6, 6, 6, 6, 6, 6, 6, 6, 6, 6, 6, 6, 6, 6, 6, 6, 6, 6, 6, 6, 6, 6, 6, 6, 6, 6, 6, 7, 7, 7, 7, 7, 7, 7, 7, 7, 7, 7, 7, 7, 7, 7, 7, 7, 7, 7, 7, 7, 7, 7, 7, 7, 7, 7, 7, 7, 7, 7, 7, 7, 7, 7, 7, 7, 7, 7, 7, 7, 7, 7, 7, 7, 7, 7, 7, 7, 7, 7, 7, 7, 7, 7, 7, 7, 7, 7, 7, 7, 7, 7, 7, 8, 8, 8, 8, 8, 8, 8, 8, 8, 8, 8, 8, 8, 8, 8, 8, 8, 8, 8, 8, 8, 8, 8, 8, 8, 8, 8, 8, 8, 8, 8, 8, 8, 8, 8, 8, 8, 8, 8, 8, 8, 8, 8, 8, 8, 8, 8, 8, 8, 8, 8, 8, 8, 8, 8, 8, 8, 8, 8, 8, 8, 8, 8, 8, 8, 8, 8, 8, 8, 8, 8, 8, 8, 8, 8, 8, 8, 8, 8, 8, 8, 8, 8, 8, 8, 8, 8, 8, 8, 8, 8, 8, 8, 8, 8, 8, 8, 8, 8, 8, 8, 8, 8, 8, 8, 8, 8, 8, 8, 8, 8, 8, 8, 8, 8, 8, 8, 8, 8, 8, 8, 8, 8, 8, 8, 8, 8, 8]) (IntKind.wrap .u8 (shr .u64 x (8 : Int)))).bind fun v16 =>
    let e17 : Int := (W ((8 : Int) + (W v16)))
    some e17
   else
    (sidx (bs [0, 1, 2, 2, 3, 3, 3, 3, 4, 4, 4, 4, 4, 4, 4, 4, 5, 5, 5, 5, 5, 5, 5, 5, 5, 5, 5, 5, 5, 5, 5, 5, 6, 6, 6, 6, 6, 6, 6, 6, 6, 6, 6, 6, 6, 6, 6, 6, 6, 6, 6, 6, 6, 6, 6, 6, 6, 6, 6, 6, 6, 6, 6, 6, 7, 7, 7, 7, 7, 7, 7, 7, 7, 7, 7, 7, 7, 7, 7, 7, 7, 7, 7, 7, 7, 7, 7, 7, 7, 7, 7, 7, 7, 7, 7, 7, 7, 7, 7, 7, 7, 7, 7, 7, 7, 7, 7, 7, 7, 7, 7, 7, 7, 7, 7, 7, 7, 7, 7, 7, 7, 7, 7, 7, 7, 7, 7, 7, 8, 8, 8, 8, 8, 8, 8, 8, 8, 8, 8, 8, 8, 8, 8, 8, 8, 8, 8, 8, 8, 8, 8, 8, 8, 8, 8, 8, 8, 8, 8, 8, 8, 8, 8, 8, 8, 8, 8, 8, 8, 8, 8, 8, 8, 8, 8, 8, 8, 8, 8, 8, 8, 8, 8, 8, 8, 8, 8, 8, 8, 8, 8, 8, 8, 8, 8, 8, 8, 8, 8, 8, 8, 8, 8, 8, 8, 8, 8, 8, 8, 8, 8, 8, 8, 8, 8, 8, 8, 8, 8, 8, 8, 8, 8, 8, 8, 8, 8, 8, 8, 8, 8, 8, 8, 8, 8, 8, 8, 8, 8, 8, 8, 8, 8, 8, 8, 8, 8, 8, 8, 8, 8, 8, 8, 8, 8, 8]) (IntKind.wrap .u8 x)).bind fun v18 =>
    let e19 : Int := (W ((0 : Int) + (W v18)))
    some e19
theorem f86_P_ok (fu : Nat) (x : Int) : Le (f86_P fu x) (f86 x) := le (f86_eq x) (
 lc (
 lc (
 lc (
 let e0 : Int := (shr .u64 (shr .u64 (shr .u64 x (32 : Int)) (16 : Int)) (8 : Int))
 lb fun v1 =>
 let e2 : Int := (W ((56 : Int) + (W v1)))
 lr _) (
 let e3 : Int := (IntKind.wrap .u8 (shr .u64 (shr .u64 x (32 : Int)) (16 : Int)))
 lb fun v4 =>
 let e5 : Int := (W ((48 : Int) + (W v4)))
 lr _)) (
 lc (
 let e6 : Int := (IntKind.wrap .u8 (shr .u64 (shr .u64 x (32 : Int)) (8 : Int)))
 lb fun v7 =>
 let e8 : Int := (W ((40 : Int) + (W v7)))
 lr _) (
 lb fun v9 =>
 let e10 : Int := (W ((32 : Int) + (W v9)))
 lr _))) (
 lc (
 lc (
 let e11 : Int := (IntKind.wrap .u8 (shr .u64 (shr .u64 x (16 : Int)) (8 : Int)))
 lb fun v12 =>
 let e13 : Int := (W ((24 : Int) + (W v12)))
 lr _) (
 lb fun v14 =>
 let e15 : Int := (W ((16 : Int) + (W v14)))
 lr _)) (
 lc (
 lb fun v16 =>
 let e17 : Int := (W ((8 : Int) + (W v16)))
 lr _) (
 lb fun v18 =>
 let e19 : Int := (W ((0 : Int) + (W v18)))
 lr _))))
def f88_Ls : Nat → ((List Int) → (Int) → Option (Int)) × ((List Int) → (Int) → Option (Int))
 | 0 => (fun _ _ => none, fun _ _ => none)
 | fu + 1 => (fun s i =>
  bif (decide (i < (s.length : Int))) then
   (idx s i).bind fun v0 =>
   bif (decide (v0 < (0 : Int))) then
    some (1 : Int)
   else
    (idx s i).bind fun v1 =>
    bif (decide (v1 ≥ (64 : Int))) then
     some (1 : Int)
    else
     (f88_Ls fu).1 s (W (i + (1 : Int)))
  else
   (f88_Ls fu).2 s (1 : Int),
  fun s i =>
  bif (decide (i < (s.length : Int))) then
   (idx s i).bind fun v0 =>
   (idx s (W (i - (1 : Int)))).bind fun v1 =>
   bif (decide (v0 ≤ v1)) then
    some (6 : Int)
   else
    (f88_Ls fu).2 s (W (i + (1 : Int)))
  else
   some (0 : Int))
theorem f88_Ls_ok : ∀ fu, (∀ (s : List Int) (i : Int), Le ((f88_Ls fu).1 s i) (f88_L0 s i)) ∧ (∀ (s : List Int) (i : Int), Le ((f88_Ls fu).2 s i) (f88_L1 s i))
 | 0 => ⟨(fun _ _ => ln _),
  (fun _ _ => ln _)⟩
 | fu + 1 => by
  have ih := f88_Ls_ok fu
  exact ⟨(fun s i => le (f88_L0_eq s i) (
   lc (
   lb fun v0 =>
   lc (lr _) (
   lb fun v1 =>
   lc (lr _) (
   ih.1 s (W (i + (1 : Int)))))) (
   ih.2 s (1 : Int)))),
  (fun s i => le (f88_L1_eq s i) (
   lc (
   lb fun v0 =>
   lb fun v1 =>
   lc (lr _) (
   ih.2 s (W (i + (1 : Int))))) (lr _)))⟩
def f88_P (fu : Nat) (s : List Int) : Option (Int) :=
 bif ((s.length : Int) == (0 : Int)) then
  some (1 : Int)
 else
  bif (decide ((s.length : Int) > (5 : Int))) then
   some (3 : Int)
  else
   (f88_Ls fu).1 s (0 : Int)
theorem f88_P_ok (fu : Nat) (s : List Int) : Le (f88_P fu s) (f88 s) := le (f88_eq s) (
 lc (lr _) (
 lc (lr _) (
 (f88_Ls_ok fu).1 s (0 : Int))))
def f90_Ls : Nat → ((ByteArray) → (Int) → Option (Bool))
 | 0 => (fun _ _ => none)
 | fu + 1 => (fun s i =>
  bif (decide (i < (s.size : Int))) then
   (sidx s i).bind fun v0 =>
   bif (decide (v0 < (48 : Int))) then
    some false
   else
    (sidx s i).bind fun v1 =>
    bif (decide (v1 > (57 : Int))) then
     some false
    else
     (f90_Ls fu) s (W (i + (1 : Int)))
  else
   some true)
theorem f90_Ls_ok : ∀ fu, (∀ (s : ByteArray) (i : Int), Le ((f90_Ls fu) s i) (f90_L0 s i))
 | 0 => fun _ _ => ln _
 | fu + 1 => by
  have ih := f90_Ls_ok fu
  exact fun s i => le (f90_L0_eq s i) (
   lc (
   lb fun v0 =>
   lc (lr _) (
   lb fun v1 =>
   lc (lr _) (
   ih s (W (i + (1 : Int)))))) (lr _))
def f90_P (fu : Nat) (a : ByteArray) : Option (Bool) :=
 bif (decide ((a.size : Int) > (0 : Int))) then
  (sidx a (0 : Int)).bind fun v0 =>
  bif (v0 == (45 : Int)) then
   bif (inCut a.size (1 : Int) (a.size : Int)) then
    let e1 : Int := ((a.extract (1 : Int).toNat (a.size : Int).toNat).size : Int)
    bif (decide (e1 > (0 : Int))) then
     (sidx (a.extract (1 : Int).toNat (a.size : Int).toNat) (0 : Int)).bind fun v2 =>
     bif (v2 == (48 : Int)) then
      some false
     else
      let e3 : Int := ((a.extract (1 : Int).toNat (a.size : Int).toNat).size : Int)
      bif (e3 == (0 : Int)) then
       some false
      else
       (sidx (a.extract (1 : Int).toNat (a.size : Int).toNat) (0 : Int)).bind fun v4 =>
       bif (v4 == (48 : Int)) then
        let e5 : Int := ((a.extract (1 : Int).toNat (a.size : Int).toNat).size : Int)
        bif (decide (e5 > (1 : Int))) then
         some false
        else
         (f90_Ls fu) (a.extract (1 : Int).toNat (a.size : Int).toNat) (0 : Int)
       else
        (f90_Ls fu) (a.extract (1 : Int).toNat (a.size : Int).toNat) (0 : Int)
    else
     let e6 : Int := ((a.extract (1 : Int).toNat (a.size : Int).toNat).size : Int)
     bif (e6 == (0 : Int)) then
      some false
     else
      (sidx (a.extract (1 : Int).toNat (a.size : Int).toNat) (0 : Int)).bind fun v7 =>
      bif (v7 == (48 : Int)) then
       let e8 : Int := ((a.extract (1 : Int).toNat (a.size : Int).toNat).size : Int)
       bif (decide (e8 > (1 : Int))) then
        some false
       else
        (f90_Ls fu) (a.extract (1 : Int).toNat (a.size : Int).toNat) (0 : Int)
      else
       (f90_Ls fu) (a.extract (1 : Int).toNat (a.size : Int).toNat) (0 : Int)
   else
    none
  else
   bif ((a.size : Int) == (0 : Int)) then
    some false
   else
    (sidx a (0 : Int)).bind fun v9 =>
    bif (v9 == (48 : Int)) then
     bif (decide ((a.size : Int) > (1 : Int))) then
      some false
     else
      (f90_Ls fu) a (0 : Int)
    else
     (f90_Ls fu) a (0 : Int)
 else
  bif ((a.size : Int) == (0 : Int)) then
   some false
  else
   (sidx a (0 : Int)).bind fun v10 =>
   bif (v10 == (48 : Int)) then
    bif (decide ((a.size : Int) > (1 : Int))) then
     some false
    else
     (f90_Ls fu) a (0 : Int)
   else
    (f90_Ls fu) a (0 : Int)
theorem f90_P_ok (fu : Nat) (a : ByteArray) : Le (f90_P fu a) (f90 a) := le (f90_eq a) (
 lc (
 lb fun v0 =>
 lc (
 lc (
 let e1 : Int := ((a.extract (1 : Int).toNat (a.size : Int).toNat).size : Int)
 lc (
 lb fun v2 =>
 lc (lr _) (
 let e3 : Int := ((a.extract (1 : Int).toNat (a.size : Int).toNat).size : Int)
 lc (lr _) (
 lb fun v4 =>
 lc (
 let e5 : Int := ((a.extract (1 : Int).toNat (a.size : Int).toNat).size : Int)
 lc (lr _) (
 (f90_Ls_ok fu) (a.extract (1 : Int).toNat (a.size : Int).toNat) (0 : Int))) (
 (f90_Ls_ok fu) (a.extract (1 : Int).toNat (a.size : Int).toNat) (0 : Int))))) (
 let e6 : Int := ((a.extract (1 : Int).toNat (a.size : Int).toNat).size : Int)
 lc (lr _) (
 lb fun v7 =>
 lc (
 let e8 : Int := ((a.extract (1 : Int).toNat (a.size : Int).toNat).size : Int)
 lc (lr _) (
 (f90_Ls_ok fu) (a.extract (1 : Int).toNat (a.size : Int).toNat) (0 : Int))) (
 (f90_Ls_ok fu) (a.extract (1 : Int).toNat (a.size : Int).toNat) (0 : Int))))) (lr _)) (
 lc (lr _) (
 lb fun v9 =>
 lc (
 lc (lr _) (
 (f90_Ls_ok fu) a (0 : Int))) (
 (f90_Ls_ok fu) a (0 : Int))))) (
 lc (lr _) (
 lb fun v10 =>
 lc (
 lc (lr _) (
 (f90_Ls_ok fu) a (0 : Int))) (
 (f90_Ls_ok fu) a (0 : Int)))))
def f92_Ls : Nat → ((List Int) → (List Int) → (Int) → Option (Int))
 | 0 => (fun _ _ _ => none)
 | fu + 1 => (fun a b i =>
  bif (decide (i ≥ (0 : Int))) then
   (idx a i).bind fun v0 =>
   (idx b i).bind fun v1 =>
   bif (decide (v0 < v1)) then
    some (-1 : Int)
   else
    (idx a i).bind fun v2 =>
    (idx b i).bind fun v3 =>
    bif (decide (v2 > v3)) then
     some (1 : Int)
    else
     (f92_Ls fu) a b (W (i - (1 : Int)))
  else
   some (0 : Int))
theorem f92_Ls_ok : ∀ fu, (∀ (a : List Int) (b : List Int) (i : Int), Le ((f92_Ls fu) a b i) (f92_L0 a b i))
 | 0 => fun _ _ _ => ln _
 | fu + 1 => by
  have ih := f92_Ls_ok fu
  exact fun a b i => le (f92_L0_eq a b i) (
   lc (
   lb fun v0 =>
   lb fun v1 =>
   lc (lr _) (
   lb fun v2 =>
   lb fun v3 =>
   lc (lr _) (
   ih a b (W (i - (1 : Int)))))) (lr _))
def f92_P (fu : Nat) (a : List Int) (b : List Int) : Option (Int) :=
 bif ((a.length : Int) != (b.length : Int)) then
  bif (decide ((a.length : Int) < (b.length : Int))) then
   some (-1 : Int)
  else
   some (1 : Int)
 else
  let e0 : Int := (W ((a.length : Int) - (1 : Int)))
  (f92_Ls fu) a b e0
theorem f92_P_ok (fu : Nat) (a : List Int) (b : List Int) : Le (f92_P fu a b) (f92 a b) := le (f92_eq a b) (
 lc (
 lc (lr _) (lr _)) (
 let e0 : Int := (W ((a.length : Int) - (1 : Int)))
 (f92_Ls_ok fu) a b e0))
def f94_Ls : Nat → ((List Int) → Option (List Int))
 | 0 => (fun _ => none)
 | fu + 1 => (fun d =>
  bif (decide ((d.length : Int) > (0 : Int))) then
   let e0 : Int := (W ((d.length : Int) - (1 : Int)))
   (idx d e0).bind fun v1 =>
   bif (v1 == (0 : Int)) then
    let e2 : Int := (W ((d.length : Int) - (1 : Int)))
    bif (inCut d.length (0 : Int) e2) then
     (f94_Ls fu) (cut d (0 : Int) e2)
    else
     none
   else
    some d
  else
   some d)
theorem f94_Ls_ok : ∀ fu, (∀ (d : List Int), Le ((f94_Ls fu) d) (f94_L0 d))
 | 0 => fun _ => ln _
 | fu + 1 => by
  have ih := f94_Ls_ok fu
  exact fun d => le (f94_L0_eq d) (
   lc (
   let e0 : Int := (W ((d.length : Int) - (1 : Int)))
   lb fun v1 =>
   lc (
   let e2 : Int := (W ((d.length : Int) - (1 : Int)))
   lc (
   ih (cut d (0 : Int) e2)) (lr _)) (lr _)) (lr _))
def f94_P (fu : Nat) (d : List Int) : Option (List Int) :=
 (f94_Ls fu) d
theorem f94_P_ok (fu : Nat) (d : List Int) : Le (f94_P fu d) (f94 d) := le (f94_eq d) (
 (f94_Ls_ok fu) d)
def f96_P (fu : Nat) (s : ByteArray) (substr : ByteArray) : Option (Int) :=
 bif ((substr.size : Int) == (0 : Int)) then
  some (0 : Int)
 else
  bif (substr.toList == s.toList) then
   some (0 : Int)
  else
   bif ((substr.size : Int) == (1 : Int)) then
    (sidx substr (0 : Int)).bind fun v0 =>
    (f108_P fu s v0).bind fun r1 =>
    some r1
   else
    bif (decide ((substr.size : Int) ≥ (s.size : Int))) then
     some (-1 : Int)
    else
     none
theorem f96_P_ok (fu : Nat) (s : ByteArray) (substr : ByteArray) : Le (f96_P fu s substr) (f96 s substr) := le (f96_eq s substr) (
 lc (lr _) (
 lc (lr _) (
 lc (
 lb fun v0 =>
 lx (f108_P_ok fu s v0) fun r1 =>
 lr _) (
 lc (lr _) (lr _)))))
def f98_Ls : Nat → ((List Int) → (Int) → (Int) → (Int) → (List Int) → Option ((List Int) × Int))
 | 0 => (fun _ _ _ _ _ => none)
 | fu + 1 => (fun a b rest i out =>
  bif (decide (i ≥ (0 : Int))) then
   (idx a i).bind fun v0 =>
   let e1 : Int := (IntKind.wrap .u64 ((IntKind.wrap .u64 (rest * (1000000000 : Int))) + (IntKind.wrap .u64 v0)))
   bif (!((IntKind.wrap .u64 b) == 0)) then
    let e2 : Int := (IntKind.wrap .u64 (e1.tdiv (IntKind.wrap .u64 b)))
    bif (!((IntKind.wrap .u64 b) == 0)) then
     (idx out i).bind fun _ =>
     (out[i.toNat]?).bind fun v3 =>
     (f98_Ls fu) a b (e1.tmod (IntKind.wrap .u64 b)) (W (i - (1 : Int))) (out.set i.toNat (IntKind.wrap .u32 e2))
    else
     none
   else
    none
  else
   some (out, (IntKind.wrap .u32 rest)))
theorem f98_Ls_ok : ∀ fu, (∀ (a : List Int) (b : Int) (rest : Int) (i : Int) (out : List Int), Le ((f98_Ls fu) a b rest i out) (f98_L0 a b rest i out))
 | 0 => fun _ _ _ _ _ => ln _
 | fu + 1 => by
  have ih := f98_Ls_ok fu
  exact fun a b rest i out => le (f98_L0_eq a b rest i out) (
   lc (
   lb fun v0 =>
   let e1 : Int := (IntKind.wrap .u64 ((IntKind.wrap .u64 (rest * (1000000000 : Int))) + (IntKind.wrap .u64 v0)))
   lc (
   let e2 : Int := (IntKind.wrap .u64 (e1.tdiv (IntKind.wrap .u64 b)))
   lc (
   lb fun _ =>
   lb fun v3 =>
   ih a b (e1.tmod (IntKind.wrap .u64 b)) (W (i - (1 : Int))) (out.set i.toNat (IntKind.wrap .u32 e2))) (lr _)) (lr _)) (lr _))
def f98_P (fu : Nat) (a : List Int) (b : Int) : Option ((List Int) × Int) :=
 bif (okMake 4 (a.length : Int) (a.length : Int)) then
  let e0 : List Int := (List.replicate (a.length : Int).toNat (0 : Int))
  let e1 : Int := (W ((a.length : Int) - (1 : Int)))
  (f98_Ls fu) a b (0 : Int) e1 e0
 else
  none
theorem f98_P_ok (fu : Nat) (a : List Int) (b : Int) : Le (f98_P fu a b) (f98 a b) := le (f98_eq a b) (
 lc (
 let e0 : List Int := (List.replicate (a.length : Int).toNat (0 : Int))
 let e1 : Int := (W ((a.length : Int) - (1 : Int)))
 (f98_Ls_ok fu) a b (0 : Int) e1 e0) (lr _))
def f100_Ls : Nat → ((Int) → (Int) → (Int) → (Int) → Option (Int))
 | 0 => (fun _ _ _ _ => none)
 | fu + 1 => (fun f n out base =>
  bif (decide (n > (0 : Int))) then
   bif ((n.tmod (2 : Int)) == (1 : Int)) then
    bif (!(f == 0)) then
     bif (!(f == 0)) then
      (f100_Ls fu) f (W (n.tdiv (2 : Int))) ((W (out * base)).tmod f) ((W (base * base)).tmod f)
     else
      none
    else
     none
   else
    bif (!(f == 0)) then
     (f100_Ls fu) f (W (n.tdiv (2 : Int))) out ((W (base * base)).tmod f)
    else
     none
  else
   some out)
theorem f100_Ls_ok : ∀ fu, (∀ (f : Int) (n : Int) (out : Int) (base : Int), Le ((f100_Ls fu) f n out base) (f100_L0 f n out base))
 | 0 => fun _ _ _ _ => ln _
 | fu + 1 => by
  have ih := f100_Ls_ok fu
  exact fun f n out base => le (f100_L0_eq f n out base) (
   lc (
   lc (
   lc (
   lc (
   ih f (W (n.tdiv (2 : Int))) ((W (out * base)).tmod f) ((W (base * base)).tmod f)) (lr _)) (lr _)) (
   lc (
   ih f (W (n.tdiv (2 : Int))) out ((W (base * base)).tmod f)) (lr _))) (lr _))
def f100_P (fu : Nat) (f : Int) (a : Int) (n : Int) : Option (Int) :=
 (f74_P fu f a).bind fun r0 =>
 (f100_Ls fu) f n (1 : Int) r0
theorem f100_P_ok (fu : Nat) (f : Int) (a : Int) (n : Int) : Le (f100_P fu f a n) (f100 f a n) := le (f100_eq f a n) (
 lx (f74_P_ok fu f a) fun r0 =>
 (f100_Ls_ok fu) f n (1 : Int) r0)
def f101_P (fu : Nat) (a : Ts) (b : Ts) : Option (Ts × Ts) :=
 some (a, b)
theorem f101_P_ok (fu : Nat) (a : Ts) (b : Ts) : Le (f101_P fu a b) (f101 a b) := le (f101_eq a b) (lr _)
def f102_Ls : Nat → ((Nat) → (Int) → (Int) → (Int) → (List Os) → Option ((Unit) × (List Os)))
 | 0 => (fun _ _ _ _ _ => none)
 | fu + 1 => (fun data hi first root hp3 =>
  let e0 : Int := (W ((W ((2 : Int) * root)) + (1 : Int)))
  bif (decide (e0 ≥ hi)) then
   some ((), hp3)
  else
   bif (decide ((W (e0 + (1 : Int))) < hi)) then
    (hget hp3 data).bind fun v1 =>
    (idx v1 (W (first + e0))).bind fun _ =>
    (hget hp3 data).bind fun v2 =>
    (v2[(W (first + e0)).toNat]?).bind fun v3 =>
    let e4 : Int := (W ((W (first + e0)) + (1 : Int)))
    (hget hp3 data).bind fun v5 =>
    (idx v5 e4).bind fun _ =>
    (hget hp3 data).bind fun v6 =>
    (v6[e4.toNat]?).bind fun v7 =>
    (f22_P fu (v3.1, (v3.2.1, ())) (v7.1, (v7.2.1, ()))).bind fun r8 =>
    bif (decide (r8 < (0 : Int))) then
     (hget hp3 data).bind fun v9 =>
     (idx v9 (W (first + root))).bind fun _ =>
     (hget hp3 data).bind fun v10 =>
     (v10[(W (first + root)).toNat]?).bind fun v11 =>
     let e12 : Int := (W (first + (W (e0 + (1 : Int)))))
     (hget hp3 data).bind fun v13 =>
     (idx v13 e12).bind fun _ =>
     (hget hp3 data).bind fun v14 =>
     (v14[e12.toNat]?).bind fun v15 =>
     (f22_P fu (v11.1, (v11.2.1, ())) (v15.1, (v15.2.1, ()))).bind fun r16 =>
     bif (!(decide (r16 < (0 : Int)))) then
      some ((), hp3)
     else
      let e17 : Int := (W (first + (W (e0 + (1 : Int)))))
      let e18 : Int := (W (first + (W (e0 + (1 : Int)))))
      (hget hp3 data).bind fun v19 =>
      (idx v19 e18).bind fun _ =>
      (hget hp3 data).bind fun v20 =>
      (v20[e18.toNat]?).bind fun v21 =>
      (hget hp3 data).bind fun v22 =>
      (idx v22 (W (first + root))).bind fun _ =>
      (hget hp3 data).bind fun v23 =>
      (v23[(W (first + root)).toNat]?).bind fun v24 =>
      (hget hp3 data).bind fun v25 =>
      (idx v25 (W (first + root))).bind fun _ =>
      (hget hp3 data).bind fun v26 =>
      (v26[(W (first + root)).toNat]?).bind fun v27 =>
      let e28 : List Os := (hset hp3 data (v26.set (W (first + root)).toNat (v21.1, (v21.2.1, ()))))
      (hget e28 data).bind fun v29 =>
      (idx v29 e17).bind fun _ =>
      (hget e28 data).bind fun v30 =>
      (v30[e17.toNat]?).bind fun v31 =>
      let e32 : List Os := (hset e28 data (v30.set e17.toNat (v24.1, (v24.2.1, ()))))
      (f102_Ls fu) data hi first (W (e0 + (1 : Int))) e32
    else
     (hget hp3 data).bind fun v33 =>
     (idx v33 (W (first + root))).bind fun _ =>
     (hget hp3 data).bind fun v34 =>
     (v34[(W (first + root)).toNat]?).bind fun v35 =>
     (hget hp3 data).bind fun v36 =>
     (idx v36 (W (first + e0))).bind fun _ =>
     (hget hp3 data).bind fun v37 =>
     (v37[(W (first + e0)).toNat]?).bind fun v38 =>
     (f22_P fu (v35.1, (v35.2.1, ())) (v38.1, (v38.2.1, ()))).bind fun r39 =>
     bif (!(decide (r39 < (0 : Int)))) then
      some ((), hp3)
     else
      (hget hp3 data).bind fun v40 =>
      (idx v40 (W (first + e0))).bind fun _ =>
      (hget hp3 data).bind fun v41 =>
      (v41[(W (first + e0)).toNat]?).bind fun v42 =>
      (hget hp3 data).bind fun v43 =>
      (idx v43 (W (first + root))).bind fun _ =>
      (hget hp3 data).bind fun v44 =>
      (v44[(W (first + root)).toNat]?).bind fun v45 =>
      (hget hp3 data).bind fun v46 =>
      (idx v46 (W (first + root))).bind fun _ =>
      (hget hp3 data).bind fun v47 =>
      (v47[(W (first + root)).toNat]?).bind fun v48 =>
      let e49 : List Os := (hset hp3 data (v47.set (W (first + root)).toNat (v42.1, (v42.2.1, ()))))
      (hget e49 data).bind fun v50 =>
      (idx v50 (W (first + e0))).bind fun _ =>
      (hget e49 data).bind fun v51 =>
      (v51[(W (first + e0)).toNat]?).bind fun v52 =>
      let e53 : List Os := (hset e49 data (v51.set (W (first + e0)).toNat (v45.1, (v45.2.1, ()))))
      (f102_Ls fu) data hi first e0 e53
   else
    (hget hp3 data).bind fun v54 =>
    (idx v54 (W (first + root))).bind fun _ =>
    (hget hp3 data).bind fun v55 =>
    (v55[(W (first + root)).toNat]?).bind fun v56 =>
    (hget hp3 data).bind fun v57 =>
    (idx v57 (W (first + e0))).bind fun _ =>
    (hget hp3 data).bind fun v58 =>
    (v58[(W (first + e0)).toNat]?).bind fun v59 =>
    (f22_P fu (v56.1, (v56.2.1, ())) (v59.1, (v59.2.1, ()))).bind fun r60 =>
    bif (!(decide (r60 < (0 : Int)))) then
     some ((), hp3)
    else
     (hget hp3 data).bind fun v61 =>
     (idx v61 (W (first + e0))).bind fun _ =>
     (hget hp3 data).bind fun v62 =>
     (v62[(W (first + e0)).toNat]?).bind fun v63 =>
     (hget hp3 data).bind fun v64 =>
     (idx v64 (W (first + root))).bind fun _ =>
     (hget hp3 data).bind fun v65 =>
     (v65[(W (first + root)).toNat]?).bind fun v66 =>
     (hget hp3 data).bind fun v67 =>
     (idx v67 (W (first + root))).bind fun _ =>
     (hget hp3 data).bind fun v68 =>
     (v68[(W (first + root)).toNat]?).bind fun v69 =>
     let e70 : List Os := (hset hp3 data (v68.set (W (first + root)).toNat (v63.1, (v63.2.1, ()))))
     (hget e70 data).bind fun v71 =>
     (idx v71 (W (first + e0))).bind fun _ =>
     (hget e70 data).bind fun v72 =>
     (v72[(W (first + e0)).toNat]?).bind fun v73 =>
     let e74 : List Os := (hset e70 data (v72.set (W (first + e0)).toNat (v66.1, (v66.2.1, ()))))
     (f102_Ls fu) data hi first e0 e74)
theorem f102_Ls_ok : ∀ fu, (∀ (data : Nat) (hi : Int) (first : Int) (root : Int) (hp3 : List Os), Le ((f102_Ls fu) data hi first root hp3) (f102_L0 data hi first root hp3))
 | 0 => fun _ _ _ _ _ => ln _
 | fu + 1 => by
  have ih := f102_Ls_ok fu
  exact fun data hi first root hp3 => le (f102_L0_eq data hi first root hp3) (
   let e0 : Int := (W ((W ((2 : Int) * root)) + (1 : Int)))
   lc (lr _) (
   lc (
   lb fun v1 =>
   lb fun _ =>
   lb fun v2 =>
   lb fun v3 =>
   let e4 : Int := (W ((W (first + e0)) + (1 : Int)))
   lb fun v5 =>
   lb fun _ =>
   lb fun v6 =>
   lb fun v7 =>
   lx (f22_P_ok fu (v3.1, (v3.2.1, ())) (v7.1, (v7.2.1, ()))) fun r8 =>
   lc (
   lb fun v9 =>
   lb fun _ =>
   lb fun v10 =>
   lb fun v11 =>
   let e12 : Int := (W (first + (W (e0 + (1 : Int)))))
   lb fun v13 =>
   lb fun _ =>
   lb fun v14 =>
   lb fun v15 =>
   lx (f22_P_ok fu (v11.1, (v11.2.1, ())) (v15.1, (v15.2.1, ()))) fun r16 =>
   lc (lr _) (
   let e17 : Int := (W (first + (W (e0 + (1 : Int)))))
   let e18 : Int := (W (first + (W (e0 + (1 : Int)))))
   lb fun v19 =>
   lb fun _ =>
   lb fun v20 =>
   lb fun v21 =>
   lb fun v22 =>
   lb fun _ =>
   lb fun v23 =>
   lb fun v24 =>
   lb fun v25 =>
   lb fun _ =>
   lb fun v26 =>
   lb fun v27 =>
   let e28 : List Os := (hset hp3 data (v26.set (W (first + root)).toNat (v21.1, (v21.2.1, ()))))
   lb fun v29 =>
   lb fun _ =>
   lb fun v30 =>
   lb fun v31 =>
   let e32 : List Os := (hset e28 data (v30.set e17.toNat (v24.1, (v24.2.1, ()))))
   ih data hi first (W (e0 + (1 : Int))) e32)) (
   lb fun v33 =>
   lb fun _ =>
   lb fun v34 =>
   lb fun v35 =>
   lb fun v36 =>
   lb fun _ =>
   lb fun v37 =>
   lb fun v38 =>
   lx (f22_P_ok fu (v35.1, (v35.2.1, ())) (v38.1, (v38.2.1, ()))) fun r39 =>
   lc (lr _) (
   lb fun v40 =>
   lb fun _ =>
   lb fun v41 =>
   lb fun v42 =>
   lb fun v43 =>
   lb fun _ =>
   lb fun v44 =>
   lb fun v45 =>
   lb fun v46 =>
   lb fun _ =>
   lb fun v47 =>
   lb fun v48 =>
   let e49 : List Os := (hset hp3 data (v47.set (W (first + root)).toNat (v42.1, (v42.2.1, ()))))
   lb fun v50 =>
   lb fun _ =>
   lb fun v51 =>
   lb fun v52 =>
   let e53 : List Os := (hset e49 data (v51.set (W (first + e0)).toNat (v45.1, (v45.2.1, ()))))
   ih data hi first e0 e53))) (
   lb fun v54 =>
   lb fun _ =>
   lb fun v55 =>
   lb fun v56 =>
   lb fun v57 =>
   lb fun _ =>
   lb fun v58 =>
   lb fun v59 =>
   lx (f22_P_ok fu (v56.1, (v56.2.1, ())) (v59.1, (v59.2.1, ()))) fun r60 =>
   lc (lr _) (
   lb fun v61 =>
   lb fun _ =>
   lb fun v62 =>
   lb fun v63 =>
   lb fun v64 =>
   lb fun _ =>
   lb fun v65 =>
   lb fun v66 =>
   lb fun v67 =>
   lb fun _ =>
   lb fun v68 =>
   lb fun v69 =>
   let e70 : List Os := (hset hp3 data (v68.set (W (first + root)).toNat (v63.1, (v63.2.1, ()))))
   lb fun v71 =>
   lb fun _ =>
   lb fun v72 =>
   lb fun v73 =>
   let e74 : List Os := (hset e70 data (v72.set (W (first + e0)).toNat (v66.1, (v66.2.1, ()))))
   ih data hi first e0 e74))))
def f102_P (fu : Nat) (data : Nat) (lo : Int) (hi : Int) (first : Int) (hp3 : List Os) : Option ((Unit) × (List Os)) :=
 (f102_Ls fu) data hi first lo hp3
theorem f102_P_ok (fu : Nat) (data : Nat) (lo : Int) (hi : Int) (first : Int) (hp3 : List Os) : Le (f102_P fu data lo hi first hp3) (f102 data lo hi first hp3) := le (f102_eq data lo hi first hp3) (
 (f102_Ls_ok fu) data hi first lo hp3)
def f105_P (fu : Nat) (a : ByteArray) : Option (Int) :=
 bif (decide ((a.size : Int) > (0 : Int))) then
  (sidx a (0 : Int)).bind fun v0 =>
  bif (v0 == (45 : Int)) then
   some (W ((a.size : Int) - (1 : Int)))
  else
   some (a.size : Int)
 else
  some (a.size : Int)
theorem f105_P_ok (fu : Nat) (a : ByteArray) : Le (f105_P fu a) (f105 a) := le (f105_eq a) (
 lc (
 lb fun v0 =>
 lc (lr _) (lr _)) (lr _))
def f109_P (fu : Nat) (s : ByteArray) (prefix0 : ByteArray) : Option (Bool) :=
 bif (decide ((s.size : Int) ≥ (prefix0.size : Int))) then
  bif (inCut s.size (0 : Int) (prefix0.size : Int)) then
   let e0 : ByteArray := (s.extract (0 : Int).toNat (prefix0.size : Int).toNat)
   some (e0.toList == prefix0.toList)
  else
   none
 else
  some false
theorem f109_P_ok (fu : Nat) (s : ByteArray) (prefix0 : ByteArray) : Le (f109_P fu s prefix0) (f109 s prefix0) := le (f109_eq s prefix0) (
 lc (
 lc (
 let e0 : ByteArray := (s.extract (0 : Int).toNat (prefix0.size : Int).toNat)
 lr _) (lr _)) (lr _))
def f110_Ls : Nat → ((Int) → (Int) → (List Int) → (Int) → (Int) → (List Int) → Option (List Int))
 | 0 => (fun _ _ _ _ _ _ => none)
 | fu + 1 => (fun k carry t t2 t3 out =>
  bif (decide (t3 < t2)) then
   (idx t t3).bind fun v0 =>
   let e1 : Int := (IntKind.wrap .u64 ((IntKind.wrap .u64 v0) * (IntKind.wrap .u64 k)))
   let e2 : Int := ((IntKind.wrap .u64 (carry + e1)).tmod (1000000000 : Int))
   bif (okApp 4 1 out.length 1) then
    let e3 : Int := (IntKind.wrap .u64 ((IntKind.wrap .u64 (carry + e1)).tdiv (1000000000 : Int)))
    (f110_Ls fu) k e3 t t2 (W (t3 + (1 : Int))) (out ++ ([(IntKind.wrap .u32 e2)] : List Int))
   else
    none
  else
   bif (okApp 4 1 out.length 1) then
    let e4 : List Int := (out ++ ([(IntKind.wrap .u32 carry)] : List Int))
    some e4
   else
    none)
theorem f110_Ls_ok : ∀ fu, (∀ (k : Int) (carry : Int) (t : List Int) (t2 : Int) (t3 : Int) (out : List Int), Le ((f110_Ls fu) k carry t t2 t3 out) (f110_L0 k carry t t2 t3 out))
 | 0 => fun _ _ _ _ _ _ => ln _
 | fu + 1 => by
  have ih := f110_Ls_ok fu
  exact fun k carry t t2 t3 out => le (f110_L0_eq k carry t t2 t3 out) (
   lc (
   lb fun v0 =>
   let e1 : Int := (IntKind.wrap .u64 ((IntKind.wrap .u64 v0) * (IntKind.wrap .u64 k)))
   let e2 : Int := ((IntKind.wrap .u64 (carry + e1)).tmod (1000000000 : Int))
   lc (
   let e3 : Int := (IntKind.wrap .u64 ((IntKind.wrap .u64 (carry + e1)).tdiv (1000000000 : Int)))
   ih k e3 t t2 (W (t3 + (1 : Int))) (out ++ ([(IntKind.wrap .u32 e2)] : List Int))) (lr _)) (
   lc (
   let e4 : List Int := (out ++ ([(IntKind.wrap .u32 carry)] : List Int))
   lr _) (lr _)))
def f110_P (fu : Nat) (a : List Int) (k : Int) : Option (List Int) :=
 let e0 : Int := (W ((a.length : Int) + (1 : Int)))
 bif (okMake 4 (0 : Int) e0) then
  (f110_Ls fu) k (0 : Int) a (a.length : Int) (0 : Int) ([] : List Int)
 else
  none
theorem f110_P_ok (fu : Nat) (a : List Int) (k : Int) : Le (f110_P fu a k) (f110 a k) := le (f110_eq a k) (
 let e0 : Int := (W ((a.length : Int) + (1 : Int)))
 lc (
 (f110_Ls_ok fu) k (0 : Int) a (a.length : Int) (0 : Int) ([] : List Int)) (lr _))
def f111_Ls : Nat → (Ts → Ts → (List (Int × Tm × Unit)) → Option (List (Int × Tm × Unit)))
 | 0 => (fun _ _ _ => none)
 | fu + 1 => (fun t t2 trace =>
  bif (decide ((t.length : Int) > (0 : Int))) then
   bif ((t2.length : Int) == (0 : Int)) then
    (idx t (0 : Int)).bind fun v0 =>
    (idx t (0 : Int)).bind fun v1 =>
    bif (inCut t.length (1 : Int) (t.length : Int)) then
     let e2 : List (Int × Tm × Unit) := (trace ++ [(v0.1, ((v1.2.1, ((0 : Int), ())), ()))])
     (f111_Ls fu) (cut t (1 : Int) (t.length : Int)) t2 e2
    else
     none
   else
    bif (decide ((t.length : Int) > (0 : Int))) then
     (idx t (0 : Int)).bind fun v3 =>
     (idx t2 (0 : Int)).bind fun v4 =>
     bif (decide (v3.1 < v4.1)) then
      (idx t (0 : Int)).bind fun v5 =>
      (idx t (0 : Int)).bind fun v6 =>
      bif (inCut t.length (1 : Int) (t.length : Int)) then
       let e7 : List (Int × Tm × Unit) := (trace ++ [(v5.1, ((v6.2.1, ((0 : Int), ())), ()))])
       (f111_Ls fu) (cut t (1 : Int) (t.length : Int)) t2 e7
      else
       none
     else
      bif ((t.length : Int) == (0 : Int)) then
       (idx t2 (0 : Int)).bind fun v8 =>
       (idx t2 (0 : Int)).bind fun v9 =>
       bif (inCut t2.length (1 : Int) (t2.length : Int)) then
        let e10 : List (Int × Tm × Unit) := (trace ++ [(v8.1, (((0 : Int), (v9.2.1, ())), ()))])
        (f111_Ls fu) t (cut t2 (1 : Int) (t2.length : Int)) e10
       else
        none
      else
       (idx t2 (0 : Int)).bind fun v11 =>
       (idx t (0 : Int)).bind fun v12 =>
       bif (decide (v11.1 < v12.1)) then
        (idx t2 (0 : Int)).bind fun v13 =>
        (idx t2 (0 : Int)).bind fun v14 =>
        bif (inCut t2.length (1 : Int) (t2.length : Int)) then
         let e15 : List (Int × Tm × Unit) := (trace ++ [(v13.1, (((0 : Int), (v14.2.1, ())), ()))])
         (f111_Ls fu) t (cut t2 (1 : Int) (t2.length : Int)) e15
        else
         none
       else
        (idx t (0 : Int)).bind fun v16 =>
        (idx t (0 : Int)).bind fun v17 =>
        (idx t2 (0 : Int)).bind fun v18 =>
        bif (inCut t.length (1 : Int) (t.length : Int)) then
         bif (inCut t2.length (1 : Int) (t2.length : Int)) then
          let e19 : List (Int × Tm × Unit) := (trace ++ [(v16.1, ((v17.2.1, (v18.2.1, ())), ()))])
          (f111_Ls fu) (cut t (1 : Int) (t.length : Int)) (cut t2 (1 : Int) (t2.length : Int)) e19
         else
          none
        else
         none
    else
     bif ((t.length : Int) == (0 : Int)) then
      (idx t2 (0 : Int)).bind fun v20 =>
      (idx t2 (0 : Int)).bind fun v21 =>
      bif (inCut t2.length (1 : Int) (t2.length : Int)) then
       let e22 : List (Int × Tm × Unit) := (trace ++ [(v20.1, (((0 : Int), (v21.2.1, ())), ()))])
       (f111_Ls fu) t (cut t2 (1 : Int) (t2.length : Int)) e22
      else
       none
     else
      (idx t2 (0 : Int)).bind fun v23 =>
      (idx t (0 : Int)).bind fun v24 =>
      bif (decide (v23.1 < v24.1)) then
       (idx t2 (0 : Int)).bind fun v25 =>
       (idx t2 (0 : Int)).bind fun v26 =>
       bif (inCut t2.length (1 : Int) (t2.length : Int)) then
        let e27 : List (Int × Tm × Unit) := (trace ++ [(v25.1, (((0 : Int), (v26.2.1, ())), ()))])
        (f111_Ls fu) t (cut t2 (1 : Int) (t2.length : Int)) e27
       else
        none
      else
       (idx t (0 : Int)).bind fun v28 =>
       (idx t (0 : Int)).bind fun v29 =>
       (idx t2 (0 : Int)).bind fun v30 =>
       bif (inCut t.length (1 : Int) (t.length : Int)) then
        bif (inCut t2.length (1 : Int) (t2.length : Int)) then
         let e31 : List (Int × Tm × Unit) := (trace ++ [(v28.1, ((v29.2.1, (v30.2.1, ())), ()))])
         (f111_Ls fu) (cut t (1 : Int) (t.length : Int)) (cut t2 (1 : Int) (t2.length : Int)) e31
        else
         none
       else
        none
  else
   bif (decide ((t2.length : Int) > (0 : Int))) then
    bif ((t2.length : Int) == (0 : Int)) then
     (idx t (0 : Int)).bind fun v32 =>
     (idx t (0 : Int)).bind fun v33 =>
     bif (inCut t.length (1 : Int) (t.length : Int)) then
      let e34 : List (Int × Tm × Unit) := (trace ++ [(v32.1, ((v33.2.1, ((0 : Int), ())), ()))])
      (f111_Ls fu) (cut t (1 : Int) (t.length : Int)) t2 e34
     else
      none
    else
     bif (decide ((t.length : Int) > (0 : Int))) then
      (idx t (0 : Int)).bind fun v35 =>
      (idx t2 (0 : Int)).bind fun v36 =>
      bif (decide (v35.1 < v36.1)) then
       (idx t (0 : Int)).bind fun v37 =>
       (idx t (0 : Int)).bind fun v38 =>
       bif (inCut t.length (1 : Int) (t.length : Int)) then
        let e39 : List (Int × Tm × Unit) := (trace ++ [(v37.1, ((v38.2.1, ((0 : Int), ())), ()))])
        (f111_Ls fu) (cut t (1 : Int) (t.length : Int)) t2 e39
       else
        none
      else
       bif ((t.length : Int) == (0 : Int)) then
        (idx t2 (0 : Int)).bind fun v40 =>
        (idx t2 (0 : Int)).bind fun v41 =>
        bif (inCut t2.length (1 : Int) (t2.length : Int)) then
         let e42 : List (Int × Tm × Unit) := (trace ++ [(v40.1, (((0 : Int), (v41.2.1, ())), ()))])
         (f111_Ls fu) t (cut t2 (1 : Int) (t2.length : Int)) e42
        else
         none
       else
        (idx t2 (0 : Int)).bind fun v43 =>
        (idx t (0 : Int)).bind fun v44 =>
        bif (decide (v43.1 < v44.1)) then
         (idx t2 (0 : Int)).bind fun v45 =>
         (idx t2 (0 : Int)).bind fun v46 =>
         bif (inCut t2.length (1 : Int) (t2.length : Int)) then
          let e47 : List (Int × Tm × Unit) := (trace ++ [(v45.1, (((0 : Int), (v46.2.1, ())), ()))])
          (f111_Ls fu) t (cut t2 (1 : Int) (t2.length : Int)) e47
         else
          none
        else
         (idx t (0 : Int)).bind fun v48 =>
         (idx t (0 : Int)).bind fun v49 =>
         (idx t2 (0 : Int)).bind fun v50 =>
         bif (inCut t.length (1 : Int) (t.length : Int)) then
          bif (inCut t2.length (1 : Int) (t2.length : Int)) then
           let e51 : List (Int × Tm × Unit) := (trace ++ [(v48.1, ((v49.2.1, (v50.2.1, ())), ()))])
           (f111_Ls fu) (cut t (1 : Int) (t.length : Int)) (cut t2 (1 : Int) (t2.length : Int)) e51
          else
           none
         else
          none
     else
      bif ((t.length : Int) == (0 : Int)) then
       (idx t2 (0 : Int)).bind fun v52 =>
       (idx t2 (0 : Int)).bind fun v53 =>
       bif (inCut t2.length (1 : Int) (t2.length : Int)) then
        let e54 : List (Int × Tm × Unit) := (trace ++ [(v52.1, (((0 : Int), (v53.2.1, ())), ()))])
        (f111_Ls fu) t (cut t2 (1 : Int) (t2.length : Int)) e54
       else
        none
      else
       (idx t2 (0 : Int)).bind fun v55 =>
       (idx t (0 : Int)).bind fun v56 =>
       bif (decide (v55.1 < v56.1)) then
        (idx t2 (0 : Int)).bind fun v57 =>
        (idx t2 (0 : Int)).bind fun v58 =>
        bif (inCut t2.length (1 : Int) (t2.length : Int)) then
         let e59 : List (Int × Tm × Unit) := (trace ++ [(v57.1, (((0 : Int), (v58.2.1, ())), ()))])
         (f111_Ls fu) t (cut t2 (1 : Int) (t2.length : Int)) e59
        else
         none
       else
        (idx t (0 : Int)).bind fun v60 =>
        (idx t (0 : Int)).bind fun v61 =>
        (idx t2 (0 : Int)).bind fun v62 =>
        bif (inCut t.length (1 : Int) (t.length : Int)) then
         bif (inCut t2.length (1 : Int) (t2.length : Int)) then
          let e63 : List (Int × Tm × Unit) := (trace ++ [(v60.1, ((v61.2.1, (v62.2.1, ())), ()))])
          (f111_Ls fu) (cut t (1 : Int) (t.length : Int)) (cut t2 (1 : Int) (t2.length : Int)) e63
         else
          none
        else
         none
   else
    some trace)
theorem f111_Ls_ok : ∀ fu, (∀ (t : Ts) (t2 : Ts) (trace : List (Int × Tm × Unit)), Le ((f111_Ls fu) t t2 trace) (f111_L0 t t2 trace))
 | 0 => fun _ _ _ => ln _
 | fu + 1 => by
  have ih := f111_Ls_ok fu
  exact fun t t2 trace => le (f111_L0_eq t t2 trace) (
   lc (
   lc (
   lb fun v0 =>
   lb fun v1 =>
   lc (
   let e2 : List (Int × Tm × Unit) := (trace ++ [(v0.1, ((v1.2.1, ((0 : Int), ())), ()))])
   ih (cut t (1 : Int) (t.length : Int)) t2 e2) (lr _)) (
   lc (
   lb fun v3 =>
   lb fun v4 =>
   lc (
   lb fun v5 =>
   lb fun v6 =>
   lc (
   let e7 : List (Int × Tm × Unit) := (trace ++ [(v5.1, ((v6.2.1, ((0 : Int), ())), ()))])
   ih (cut t (1 : Int) (t.length : Int)) t2 e7) (lr _)) (
   lc (
   lb fun v8 =>
   lb fun v9 =>
   lc (
   let e10 : List (Int × Tm × Unit) := (trace ++ [(v8.1, (((0 : Int), (v9.2.1, ())), ()))])
   ih t (cut t2 (1 : Int) (t2.length : Int)) e10) (lr _)) (
   lb fun v11 =>
   lb fun v12 =>
   lc (
   lb fun v13 =>
   lb fun v14 =>
   lc (
   let e15 : List (Int × Tm × Unit) := (trace ++ [(v13.1, (((0 : Int), (v14.2.1, ())), ()))])
   ih t (cut t2 (1 : Int) (t2.length : Int)) e15) (lr _)) (
   lb fun v16 =>
   lb fun v17 =>
   lb fun v18 =>
   lc (
   lc (
   let e19 : List (Int × Tm × Unit) := (trace ++ [(v16.1, ((v17.2.1, (v18.2.1, ())), ()))])
   ih (cut t (1 : Int) (t.length : Int)) (cut t2 (1 : Int) (t2.length : Int)) e19) (lr _)) (lr _))))) (
   lc (
   lb fun v20 =>
   lb fun v21 =>
   lc (
   let e22 : List (Int × Tm × Unit) := (trace ++ [(v20.1, (((0 : Int), (v21.2.1, ())), ()))])
   ih t (cut t2 (1 : Int) (t2.length : Int)) e22) (lr _)) (
   lb fun v23 =>
   lb fun v24 =>
   lc (
   lb fun v25 =>
   lb fun v26 =>
   lc (
   let e27 : List (Int × Tm × Unit) := (trace ++ [(v25.1, (((0 : Int), (v26.2.1, ())), ()))])
   ih t (cut t2 (1 : Int) (t2.length : Int)) e27) (lr _)) (
   lb fun v28 =>
   lb fun v29 =>
   lb fun v30 =>
   lc (
   lc (
   let e31 : List (Int × Tm × Unit) := (trace ++ [(v28.1, ((v29.2.1, (v30.2.1, ())), ()))])
   ih (cut t (1 : Int) (t.length : Int)) (cut t2 (1 : Int) (t2.length : Int)) e31) (lr _)) (lr _)))))) (
   lc (
   lc (
   lb fun v32 =>
   lb fun v33 =>
   lc (
   let e34 : List (Int × Tm × Unit) := (trace ++ [(v32.1, ((v33.2.1, ((0 : Int), ())), ()))])
   ih (cut t (1 : Int) (t.length : Int)) t2 e34) (lr _)) (
   lc (
   lb fun v35 =>
   lb fun v36 =>
   lc (
   lb fun v37 =>
   lb fun v38 =>
   lc (
   let e39 : List (Int × Tm × Unit) := (trace ++ [(v37.1, ((v38.2.1, ((0 : Int), ())), ()))])
   ih (cut t (1 : Int) (t.length : Int)) t2 e39) (lr _)) (
   lc (
   lb fun v40 =>
   lb fun v41 =>
   lc (
   let e42 : List (Int × Tm × Unit) := (trace ++ [(v40.1, (((0 : Int), (v41.2.1, ())), ()))])
   ih t (cut t2 (1 : Int) (t2.length : Int)) e42) (lr _)) (
   lb fun v43 =>
   lb fun v44 =>
   lc (
   lb fun v45 =>
   lb fun v46 =>
   lc (
   let e47 : List (Int × Tm × Unit) := (trace ++ [(v45.1, (((0 : Int), (v46.2.1, ())), ()))])
   ih t (cut t2 (1 : Int) (t2.length : Int)) e47) (lr _)) (
   lb fun v48 =>
   lb fun v49 =>
   lb fun v50 =>
   lc (
   lc (
   let e51 : List (Int × Tm × Unit) := (trace ++ [(v48.1, ((v49.2.1, (v50.2.1, ())), ()))])
   ih (cut t (1 : Int) (t.length : Int)) (cut t2 (1 : Int) (t2.length : Int)) e51) (lr _)) (lr _))))) (
   lc (
   lb fun v52 =>
   lb fun v53 =>
   lc (
   let e54 : List (Int × Tm × Unit) := (trace ++ [(v52.1, (((0 : Int), (v53.2.1, ())), ()))])
   ih t (cut t2 (1 : Int) (t2.length : Int)) e54) (lr _)) (
   lb fun v55 =>
   lb fun v56 =>
   lc (
   lb fun v57 =>
   lb fun v58 =>
   lc (
   let e59 : List (Int × Tm × Unit) := (trace ++ [(v57.1, (((0 : Int), (v58.2.1, ())), ()))])
   ih t (cut t2 (1 : Int) (t2.length : Int)) e59) (lr _)) (
   lb fun v60 =>
   lb fun v61 =>
   lb fun v62 =>
   lc (
   lc (
   let e63 : List (Int × Tm × Unit) := (trace ++ [(v60.1, ((v61.2.1, (v62.2.1, ())), ()))])
   ih (cut t (1 : Int) (t.length : Int)) (cut t2 (1 : Int) (t2.length : Int)) e63) (lr _)) (lr _)))))) (lr _)))
def f111_P (fu : Nat) (t : Ts) (t2 : Ts) : Option (List (Int × Tm × Unit)) :=
 (f111_Ls fu) t t2 ([] : List (Int × Tm × Unit))
theorem f111_P_ok (fu : Nat) (t : Ts) (t2 : Ts) : Le (f111_P fu t t2) (f111 t t2) := le (f111_eq t t2) (
 (f111_Ls_ok fu) t t2 ([] : List (Int × Tm × Unit)))
def f112_Ls : Nat → ((List Int) → (List Int) → (Int) → (Int) → (List Int) → Option (List Int))
 | 0 => (fun _ _ _ _ _ => none)
 | fu + 1 => (fun a b borrow i out =>
  bif (decide (i < (a.length : Int))) then
   (idx a i).bind fun v0 =>
   bif (decide (i < (b.length : Int))) then
    (idx b i).bind fun v1 =>
    let e2 : Int := (W ((W (v0 - borrow)) - v1))
    bif (decide (e2 < (0 : Int))) then
     let e3 : List Int := ([(W (e2 + (10 : Int)))] : List Int)
     bif (okApp 8 1 out.length 1) then
      (f112_Ls fu) a b (1 : Int) (W (i + (1 : Int))) (out ++ e3)
     else
      none
    else
     bif (okApp 8 1 out.length 1) then
      (f112_Ls fu) a b (0 : Int) (W (i + (1 : Int))) (out ++ ([e2] : List Int))
     else
      none
   else
    bif (decide ((W (v0 - borrow)) < (0 : Int))) then
     let e4 : Int := (W ((W (v0 - borrow)) + (10 : Int)))
     bif (okApp 8 1 out.length 1) then
      (f112_Ls fu) a b (1 : Int) (W (i + (1 : Int))) (out ++ ([e4] : List Int))
     else
      none
    else
     bif (okApp 8 1 out.length 1) then
      let e5 : List Int := (out ++ ([(W (v0 - borrow))] : List Int))
      (f112_Ls fu) a b (0 : Int) (W (i + (1 : Int))) e5
     else
      none
  else
   (f94_P fu out).bind fun r6 =>
   some r6)
theorem f112_Ls_ok : ∀ fu, (∀ (a : List Int) (b : List Int) (borrow : Int) (i : Int) (out : List Int), Le ((f112_Ls fu) a b borrow i out) (f112_L0 a b borrow i out))
 | 0 => fun _ _ _ _ _ => ln _
 | fu + 1 => by
  have ih := f112_Ls_ok fu
  exact fun a b borrow i out => le (f112_L0_eq a b borrow i out) (
   lc (
   lb fun v0 =>
   lc (
   lb fun v1 =>
   let e2 : Int := (W ((W (v0 - borrow)) - v1))
   lc (
   let e3 : List Int := ([(W (e2 + (10 : Int)))] : List Int)
   lc (
   ih a b (1 : Int) (W (i + (1 : Int))) (out ++ e3)) (lr _)) (
   lc (
   ih a b (0 : Int) (W (i + (1 : Int))) (out ++ ([e2] : List Int))) (lr _))) (
   lc (
   let e4 : Int := (W ((W (v0 - borrow)) + (10 : Int)))
   lc (
   ih a b (1 : Int) (W (i + (1 : Int))) (out ++ ([e4] : List Int))) (lr _)) (
   lc (
   let e5 : List Int := (out ++ ([(W (v0 - borrow))] : List Int))
   ih a b (0 : Int) (W (i + (1 : Int))) e5) (lr _)))) (
   lx (f94_P_ok fu out) fun r6 =>
   lr _))
def f112_P (fu : Nat) (a : List Int) (b : List Int) : Option (List Int) :=
 (f112_Ls fu) a b (0 : Int) (0 : Int) ([] : List Int)
theorem f112_P_ok (fu : Nat) (a : List Int) (b : List Int) : Le (f112_P fu a b) (f112 a b) := le (f112_eq a b) (
 (f112_Ls_ok fu) a b (0 : Int) (0 : Int) ([] : List Int))
def f115_Ls : Nat → ((Int) → (Int) → Option (Int))
 | 0 => (fun _ _ => none)
 | fu + 1 => (fun n x =>
  bif (decide (x > (0 : Int))) then
   (f115_Ls fu) (W (n + (1 : Int))) (IntKind.wrap .u32 (x.tdiv (10 : Int)))
  else
   some n)
theorem f115_Ls_ok : ∀ fu, (∀ (n : Int) (x : Int), Le ((f115_Ls fu) n x) (f115_L0 n x))
 | 0 => fun _ _ => ln _
 | fu + 1 => by
  have ih := f115_Ls_ok fu
  exact fun n x => le (f115_L0_eq n x) (
   lc (
   ih (W (n + (1 : Int))) (IntKind.wrap .u32 (x.tdiv (10 : Int)))) (lr _))
def f115_P (fu : Nat) (a : Bool × (List Int) × Unit) : Option (Int) :=
 bif ((a.2.1.length : Int) == (0 : Int)) then
  some (0 : Int)
 else
  let e0 : Int := (W ((a.2.1.length : Int) - (1 : Int)))
  let e1 : Int := (W ((a.2.1.length : Int) - (1 : Int)))
  (idx a.2.1 e1).bind fun v2 =>
  (f115_Ls fu) (W ((9 : Int) * e0)) v2
theorem f115_P_ok (fu : Nat) (a : Bool × (List Int) × Unit) : Le (f115_P fu a) (f115 a) := le (f115_eq a) (
 lc (lr _) (
 let e0 : Int := (W ((a.2.1.length : Int) - (1 : Int)))
 let e1 : Int := (W ((a.2.1.length : Int) - (1 : Int)))
 lb fun v2 =>
 (f115_Ls_ok fu) (W ((9 : Int) * e0)) v2))
def f116_Ls : Nat → ((List Int) → (List Int) → (Int) → (Int) → (List Int) → Option (List Int))
 | 0 => (fun _ _ _ _ _ => none)
 | fu + 1 => (fun a b carry i out =>
  bif (decide (i < (a.length : Int))) then
   bif (decide (i < (a.length : Int))) then
    (idx a i).bind fun v0 =>
    bif (decide (i < (b.length : Int))) then
     (idx b i).bind fun v1 =>
     let e2 : Int := (W ((W (carry + v0)) + v1))
     bif (okApp 8 1 out.length 1) then
      (f116_Ls fu) a b (W (e2.tdiv (10 : Int))) (W (i + (1 : Int))) (out ++ ([(e2.tmod (10 : Int))] : List Int))
     else
      none
    else
     let e3 : Int := ((W (carry + v0)).tmod (10 : Int))
     bif (okApp 8 1 out.length 1) then
      let e4 : Int := (W ((W (carry + v0)).tdiv (10 : Int)))
      (f116_Ls fu) a b e4 (W (i + (1 : Int))) (out ++ ([e3] : List Int))
     else
      none
   else
    bif (decide (i < (b.length : Int))) then
     (idx b i).bind fun v5 =>
     let e6 : Int := ((W (carry + v5)).tmod (10 : Int))
     bif (okApp 8 1 out.length 1) then
      let e7 : Int := (W ((W (carry + v5)).tdiv (10 : Int)))
      (f116_Ls fu) a b e7 (W (i + (1 : Int))) (out ++ ([e6] : List Int))
     else
      none
    else
     bif (okApp 8 1 out.length 1) then
      (f116_Ls fu) a b (W (carry.tdiv (10 : Int))) (W (i + (1 : Int))) (out ++ ([(carry.tmod (10 : Int))] : List Int))
     else
      none
  else
   bif (decide (i < (b.length : Int))) then
    bif (decide (i < (a.length : Int))) then
     (idx a i).bind fun v8 =>
     bif (decide (i < (b.length : Int))) then
      (idx b i).bind fun v9 =>
      let e10 : Int := (W ((W (carry + v8)) + v9))
      bif (okApp 8 1 out.length 1) then
       (f116_Ls fu) a b (W (e10.tdiv (10 : Int))) (W (i + (1 : Int))) (out ++ ([(e10.tmod (10 : Int))] : List Int))
      else
       none
     else
      let e11 : Int := ((W (carry + v8)).tmod (10 : Int))
      bif (okApp 8 1 out.length 1) then
       let e12 : Int := (W ((W (carry + v8)).tdiv (10 : Int)))
       (f116_Ls fu) a b e12 (W (i + (1 : Int))) (out ++ ([e11] : List Int))
      else
       none
    else
     bif (decide (i < (b.length : Int))) then
      (idx b i).bind fun v13 =>
      let e14 : Int := ((W (carry + v13)).tmod (10 : Int))
      bif (okApp 8 1 out.length 1) then
       let e15 : Int := (W ((W (carry + v13)).tdiv (10 : Int)))
       (f116_Ls fu) a b e15 (W (i + (1 : Int))) (out ++ ([e14] : List Int))
      else
       none
     else
      bif (okApp 8 1 out.length 1) then
       (f116_Ls fu) a b (W (carry.tdiv (10 : Int))) (W (i + (1 : Int))) (out ++ ([(carry.tmod (10 : Int))] : List Int))
      else
       none
   else
    bif (decide (carry > (0 : Int))) then
     bif (decide (i < (a.length : Int))) then
      (idx a i).bind fun v16 =>
      bif (decide (i < (b.length : Int))) then
       (idx b i).bind fun v17 =>
       let e18 : Int := (W ((W (carry + v16)) + v17))
       bif (okApp 8 1 out.length 1) then
        (f116_Ls fu) a b (W (e18.tdiv (10 : Int))) (W (i + (1 : Int))) (out ++ ([(e18.tmod (10 : Int))] : List Int))
       else
        none
      else
       let e19 : Int := ((W (carry + v16)).tmod (10 : Int))
       bif (okApp 8 1 out.length 1) then
        let e20 : Int := (W ((W (carry + v16)).tdiv (10 : Int)))
        (f116_Ls fu) a b e20 (W (i + (1 : Int))) (out ++ ([e19] : List Int))
       else
        none
     else
      bif (decide (i < (b.length : Int))) then
       (idx b i).bind fun v21 =>
       let e22 : Int := ((W (carry + v21)).tmod (10 : Int))
       bif (okApp 8 1 out.length 1) then
        let e23 : Int := (W ((W (carry + v21)).tdiv (10 : Int)))
        (f116_Ls fu) a b e23 (W (i + (1 : Int))) (out ++ ([e22] : List Int))
       else
        none
      else
       bif (okApp 8 1 out.length 1) then
        (f116_Ls fu) a b (W (carry.tdiv (10 : Int))) (W (i + (1 : Int))) (out ++ ([(carry.tmod (10 : Int))] : List Int))
       else
        none
    else
     some out)
theorem f116_Ls_ok : ∀ fu, (∀ (a : List Int) (b : List Int) (carry : Int) (i : Int) (out : List Int), Le ((f116_Ls fu) a b carry i out) (f116_L0 a b carry i out))
 | 0 => fun _ _ _ _ _ => ln _
 | fu + 1 => by
  have ih := f116_Ls_ok fu
  exact fun a b carry i out => le (f116_L0_eq a b carry i out) (
   lc (
   lc (
   lb fun v0 =>
   lc (
   lb fun v1 =>
   let e2 : Int := (W ((W (carry + v0)) + v1))
   lc (
   ih a b (W (e2.tdiv (10 : Int))) (W (i + (1 : Int))) (out ++ ([(e2.tmod (10 : Int))] : List Int))) (lr _)) (
   let e3 : Int := ((W (carry + v0)).tmod (10 : Int))
   lc (
   let e4 : Int := (W ((W (carry + v0)).tdiv (10 : Int)))
   ih a b e4 (W (i + (1 : Int))) (out ++ ([e3] : List Int))) (lr _))) (
   lc (
   lb fun v5 =>
   let e6 : Int := ((W (carry + v5)).tmod (10 : Int))
   lc (
   let e7 : Int := (W ((W (carry + v5)).tdiv (10 : Int)))
   ih a b e7 (W (i + (1 : Int))) (out ++ ([e6] : List Int))) (lr _)) (
   lc (
   ih a b (W (carry.tdiv (10 : Int))) (W (i + (1 : Int))) (out ++ ([(carry.tmod (10 : Int))] : List Int))) (lr _)))) (
   lc (
   lc (
   lb fun v8 =>
   lc (
   lb fun v9 =>
   let e10 : Int := (W ((W (carry + v8)) + v9))
   lc (
   ih a b (W (e10.tdiv (10 : Int))) (W (i + (1 : Int))) (out ++ ([(e10.tmod (10 : Int))] : List Int))) (lr _)) (
   let e11 : Int := ((W (carry + v8)).tmod (10 : Int))
   lc (
   let e12 : Int := (W ((W (carry + v8)).tdiv (10 : Int)))
   ih a b e12 (W (i + (1 : Int))) (out ++ ([e11] : List Int))) (lr _))) (
   lc (
   lb fun v13 =>
   let e14 : Int := ((W (carry + v13)).tmod (10 : Int))
   lc (
   let e15 : Int := (W ((W (carry + v13)).tdiv (10 : Int)))
   ih a b e15 (W (i + (1 : Int))) (out ++ ([e14] : List Int))) (lr _)) (
   lc (
   ih a b (W (carry.tdiv (10 : Int))) (W (i + (1 : Int))) (out ++ ([(carry.tmod (10 : Int))] : List Int))) (lr _)))) (
   lc (
   lc (
   lb fun v16 =>
   lc (
   lb fun v17 =>
   let e18 : Int := (W ((W (carry + v16)) + v17))
   lc (
   ih a b (W (e18.tdiv (10 : Int))) (W (i + (1 : Int))) (out ++ ([(e18.tmod (10 : Int))] : List Int))) (lr _)) (
   let e19 : Int := ((W (carry + v16)).tmod (10 : Int))
   lc (
   let e20 : Int := (W ((W (carry + v16)).tdiv (10 : Int)))
   ih a b e20 (W (i + (1 : Int))) (out ++ ([e19] : List Int))) (lr _))) (
   lc (
   lb fun v21 =>
   let e22 : Int := ((W (carry + v21)).tmod (10 : Int))
   lc (
   let e23 : Int := (W ((W (carry + v21)).tdiv (10 : Int)))
   ih a b e23 (W (i + (1 : Int))) (out ++ ([e22] : List Int))) (lr _)) (
   lc (
   ih a b (W (carry.tdiv (10 : Int))) (W (i + (1 : Int))) (out ++ ([(carry.tmod (10 : Int))] : List Int))) (lr _)))) (lr _))))
def f116_P (fu : Nat) (a : List Int) (b : List Int) : Option (List Int) :=
 (f116_Ls fu) a b (0 : Int) (0 : Int) ([] : List Int)
theorem f116_P_ok (fu : Nat) (a : List Int) (b : List Int) : Le (f116_P fu a b) (f116 a b) := le (f116_eq a b) (
 (f116_Ls_ok fu) a b (0 : Int) (0 : Int) ([] : List Int))
def f117_P (fu : Nat) (c : Int × Cs × Unit) : Option (Int × Cs × Unit) :=
 some (c.1, (c.2.1, ()))
theorem f117_P_ok (fu : Nat) (c : Int × Cs × Unit) : Le (f117_P fu c) (f117 c) := le (f117_eq c) (lr _)
def f118_Ls : Nat → ((Int) → (Int) → (List (Int × Unit)) → Option (List (Int × Unit)))
 | 0 => (fun _ _ _ => none)
 | fu + 1 => (fun t t2 trace =>
  bif (decide (t2 < t)) then
   (f118_Ls fu) t (W (t2 + (1 : Int))) (trace ++ [(t2, ())])
  else
   some trace)
theorem f118_Ls_ok : ∀ fu, (∀ (t : Int) (t2 : Int) (trace : List (Int × Unit)), Le ((f118_Ls fu) t t2 trace) (f118_L0 t t2 trace))
 | 0 => fun _ _ _ => ln _
 | fu + 1 => by
  have ih := f118_Ls_ok fu
  exact fun t t2 trace => le (f118_L0_eq t t2 trace) (
   lc (
   ih t (W (t2 + (1 : Int))) (trace ++ [(t2, ())])) (lr _))
def f118_P (fu : Nat) (t : Int × Cs × Unit) : Option (List (Int × Unit)) :=
 (f118_Ls fu) (t.2.1.length : Int) (0 : Int) ([] : List (Int × Unit))
theorem f118_P_ok (fu : Nat) (t : Int × Cs × Unit) : Le (f118_P fu t) (f118 t) := le (f118_eq t) (
 (f118_Ls_ok fu) (t.2.1.length : Int) (0 : Int) ([] : List (Int × Unit)))
def f119_P (fu : Nat) (c : Int × Cs × Unit) : Option (Int × Cs × Unit) :=
 some (c.1, (c.2.1, ()))
theorem f119_P_ok (fu : Nat) (c : Int × Cs × Unit) : Le (f119_P fu c) (f119 c) := le (f119_eq c) (lr _)
def f120_Ls : Nat → ((Int) → (Int) → Cs → (List (Int × Unit)) → Option (List (Int × Unit))) × ((Int) → Cs → (Int) → (Int) → (Int) → Cs → (List (Int × Unit)) → Option (List (Int × Unit)))
 | 0 => (fun _ _ _ _ => none, fun _ _ _ _ _ _ _ => none)
 | fu + 1 => (fun d t t2 trace =>
  bif (decide (d ≥ (0 : Int))) then
   (f120_Ls fu).2 d t2 (t2.length : Int) (0 : Int) t t2 trace
  else
   some trace,
  fun d t t2 t3 t4 t5 trace =>
  bif (decide (t3 < t2)) then
   (idx t t3).bind fun v0 =>
   bif (v0.1 == d) then
    (f120_Ls fu).2 d t t2 (W (t3 + (1 : Int))) t4 t5 (trace ++ [(t3, ())])
   else
    (f120_Ls fu).2 d t t2 (W (t3 + (1 : Int))) t4 t5 trace
  else
   (f120_Ls fu).1 (W (d - (1 : Int))) t4 t5 trace)
theorem f120_Ls_ok : ∀ fu, (∀ (d : Int) (t : Int) (t2 : List Cl) (trace : List (Int × Unit)), Le ((f120_Ls fu).1 d t t2 trace) (f120_L0 d t t2 trace)) ∧ (∀ (d : Int) (t : List Cl) (t2 : Int) (t3 : Int) (t4 : Int) (t5 : List Cl) (trace : List (Int × Unit)), Le ((f120_Ls fu).2 d t t2 t3 t4 t5 trace) (f120_L1 d t t2 t3 t4 t5 trace))
 | 0 => ⟨(fun _ _ _ _ => ln _),
  (fun _ _ _ _ _ _ _ => ln _)⟩
 | fu + 1 => by
  have ih := f120_Ls_ok fu
  exact ⟨(fun d t t2 trace => le (f120_L0_eq d t t2 trace) (
   lc (
   ih.2 d t2 (t2.length : Int) (0 : Int) t t2 trace) (lr _))),
  (fun d t t2 t3 t4 t5 trace => le (f120_L1_eq d t t2 t3 t4 t5 trace) (
   lc (
   lb fun v0 =>
   lc (
   ih.2 d t t2 (W (t3 + (1 : Int))) t4 t5 (trace ++ [(t3, ())])) (
   ih.2 d t t2 (W (t3 + (1 : Int))) t4 t5 trace)) (
   ih.1 (W (d - (1 : Int))) t4 t5 trace)))⟩
def f120_P (fu : Nat) (t : Int × Cs × Unit) : Option (List (Int × Unit)) :=
 (f120_Ls fu).1 (4 : Int) t.1 t.2.1 ([] : List (Int × Unit))
theorem f120_P_ok (fu : Nat) (t : Int × Cs × Unit) : Le (f120_P fu t) (f120 t) := le (f120_eq t) (
 (f120_Ls_ok fu).1 (4 : Int) t.1 t.2.1 ([] : List (Int × Unit)))
def f125_Ls : Nat → ((Nat) → (Int) → Ts → (List (Option (List Int))) → Option Ts)
 | 0 => (fun _ _ _ _ => none)
 | fu + 1 => (fun v i out hp4 =>
  (hget hp4 v).bind fun v0 =>
  bif (decide (i < (v0.length : Int))) then
   (hget hp4 v).bind fun v1 =>
   (idx v1 i).bind fun _ =>
   (hget hp4 v).bind fun v2 =>
   (v2[i.toNat]?).bind fun v3 =>
   bif (v3 != (0 : Int)) then
    (hget hp4 v).bind fun v4 =>
    (idx v4 i).bind fun _ =>
    (hget hp4 v).bind fun v5 =>
    (v5[i.toNat]?).bind fun v6 =>
    bif (okApp 16 2 out.length 1) then
     let e7 : Ts := (out ++ ([(i, (v6, ()))] : Ts))
     (f125_Ls fu) v (W (i + (1 : Int))) e7 hp4
    else
     none
   else
    (f125_Ls fu) v (W (i + (1 : Int))) out hp4
  else
   some out)
theorem f125_Ls_ok : ∀ fu, (∀ (v : Nat) (i : Int) (out : Ts) (hp4 : List (Option (List Int))), Le ((f125_Ls fu) v i out hp4) (f125_L0 v i out hp4))
 | 0 => fun _ _ _ _ => ln _
 | fu + 1 => by
  have ih := f125_Ls_ok fu
  exact fun v i out hp4 => le (f125_L0_eq v i out hp4) (
   lb fun v0 =>
   lc (
   lb fun v1 =>
   lb fun _ =>
   lb fun v2 =>
   lb fun v3 =>
   lc (
   lb fun v4 =>
   lb fun _ =>
   lb fun v5 =>
   lb fun v6 =>
   lc (
   let e7 : Ts := (out ++ ([(i, (v6, ()))] : Ts))
   ih v (W (i + (1 : Int))) e7 hp4) (lr _)) (
   ih v (W (i + (1 : Int))) out hp4)) (lr _))
def f125_P (fu : Nat) (v : Nat) (hp4 : List (Option (List Int))) : Option Ts :=
 (f125_Ls fu) v (0 : Int) ([] : Ts) hp4
theorem f125_P_ok (fu : Nat) (v : Nat) (hp4 : List (Option (List Int))) : Le (f125_P fu v hp4) (f125 v hp4) := le (f125_eq v hp4) (
 (f125_Ls_ok fu) v (0 : Int) ([] : Ts) hp4)
def f128_Ls : Nat → (Ts → (Int) → (Int) → (Int) → Option (Int))
 | 0 => (fun _ _ _ _ => none)
 | fu + 1 => (fun s f t t2 =>
  bif (decide (t2 < t)) then
   (idx s t2).bind fun v0 =>
   (f33_P fu (v0.1, (v0.2.1, ())) f).bind fun r1 =>
   bif r1 then
    some t2
   else
    (f128_Ls fu) s f t (W (t2 + (1 : Int)))
  else
   some (-1 : Int))
theorem f128_Ls_ok : ∀ fu, (∀ (s : Ts) (f : Int) (t : Int) (t2 : Int), Le ((f128_Ls fu) s f t t2) (f128_L0 s f t t2))
 | 0 => fun _ _ _ _ => ln _
 | fu + 1 => by
  have ih := f128_Ls_ok fu
  exact fun s f t t2 => le (f128_L0_eq s f t t2) (
   lc (
   lb fun v0 =>
   lx (f33_P_ok fu (v0.1, (v0.2.1, ())) f) fun r1 =>
   lc (lr _) (
   ih s f t (W (t2 + (1 : Int))))) (lr _))
def f128_P (fu : Nat) (s : Ts) (f : Int) : Option (Int) :=
 (f128_Ls fu) s f (s.length : Int) (0 : Int)
theorem f128_P_ok (fu : Nat) (s : Ts) (f : Int) : Le (f128_P fu s f) (f128 s f) := le (f128_eq s f) (
 (f128_Ls_ok fu) s f (s.length : Int) (0 : Int))
def f129_Ls : Nat → (Ts → (Int) → Cs → (Int) → (ByteArray) → Ts → (Int) → (Int) → Option (Int))
 | 0 => (fun _ _ _ _ _ _ _ _ => none)
 | fu + 1 => (fun s f f2 f3 f4 f5 t t2 =>
  bif (decide (t2 < t)) then
   (idx s t2).bind fun v0 =>
   (f34_P fu (v0.1, (v0.2.1, ())) (f, (f2, ())) (f3, (f4, (f5, ())))).bind fun r1 =>
   bif r1 then
    some t2
   else
    (f129_Ls fu) s f f2 f3 f4 f5 t (W (t2 + (1 : Int)))
  else
   some (-1 : Int))
theorem f129_Ls_ok : ∀ fu, (∀ (s : Ts) (f : Int) (f2 : List Cl) (f3 : Int) (f4 : ByteArray) (f5 : Ts) (t : Int) (t2 : Int), Le ((f129_Ls fu) s f f2 f3 f4 f5 t t2) (f129_L0 s f f2 f3 f4 f5 t t2))
 | 0 => fun _ _ _ _ _ _ _ _ => ln _
 | fu + 1 => by
  have ih := f129_Ls_ok fu
  exact fun s f f2 f3 f4 f5 t t2 => le (f129_L0_eq s f f2 f3 f4 f5 t t2) (
   lc (
   lb fun v0 =>
   lx (f34_P_ok fu (v0.1, (v0.2.1, ())) (f, (f2, ())) (f3, (f4, (f5, ())))) fun r1 =>
   lc (lr _) (
   ih s f f2 f3 f4 f5 t (W (t2 + (1 : Int))))) (lr _))
def f129_P (fu : Nat) (s : Ts) (f : (Int × Cs × Unit) × Int × ByteArray × Ts × Unit) : Option (Int) :=
 (f129_Ls fu) s f.1.1 f.1.2.1 f.2.1 f.2.2.1 f.2.2.2.1 (s.length : Int) (0 : Int)
theorem f129_P_ok (fu : Nat) (s : Ts) (f : (Int × Cs × Unit) × Int × ByteArray × Ts × Unit) : Le (f129_P fu s f) (f129 s f) := le (f129_eq s f) (
 (f129_Ls_ok fu) s f.1.1 f.1.2.1 f.2.1 f.2.2.1 f.2.2.2.1 (s.length : Int) (0 : Int))
def f24_Ls : Nat → ((List Int) → (Int) → (List (List Int)) → Option (List (List Int)))
 | 0 => (fun _ _ _ => none)
 | fu + 1 => (fun s i out =>
  bif (decide ((s.length : Int) > (1 : Int))) then
   bif (decide (i < (s.length : Int))) then
    (f56_P fu s i).bind fun r0 =>
    bif (okApp 24 1 out.length 1) then
     (f24_Ls fu) s (W (i + (1 : Int))) (out ++ ([r0] : List (List Int)))
    else
     none
   else
    some out
  else
   some out)
theorem f24_Ls_ok : ∀ fu, (∀ (s : List Int) (i : Int) (out : List (List Int)), Le ((f24_Ls fu) s i out) (f24_L0 s i out))
 | 0 => fun _ _ _ => ln _
 | fu + 1 => by
  have ih := f24_Ls_ok fu
  exact fun s i out => le (f24_L0_eq s i out) (
   lc (
   lc (
   lx (f56_P_ok fu s i) fun r0 =>
   lc (
   ih s (W (i + (1 : Int))) (out ++ ([r0] : List (List Int)))) (lr _)) (lr _)) (lr _))
def f24_P (fu : Nat) (s : List Int) : Option (List (List Int)) :=
 (f24_Ls fu) s (0 : Int) ([] : List (List Int))
theorem f24_P_ok (fu : Nat) (s : List Int) : Le (f24_P fu s) (f24 s) := le (f24_eq s) (
 (f24_Ls_ok fu) s (0 : Int) ([] : List (List Int)))
def f42_P (fu : Nat) (a : Bool × (List Int) × Unit) (b : Bool × (List Int) × Unit) : Option (Int) :=
 bif (!(a.1 == b.1)) then
  bif a.1 then
   some (-1 : Int)
  else
   some (1 : Int)
 else
  bif a.1 then
   (f68_P fu b.2.1 a.2.1).bind fun r0 =>
   some r0
  else
   (f68_P fu a.2.1 b.2.1).bind fun r1 =>
   some r1
theorem f42_P_ok (fu : Nat) (a : Bool × (List Int) × Unit) (b : Bool × (List Int) × Unit) : Le (f42_P fu a b) (f42 a b) := le (f42_eq a b) (
 lc (
 lc (lr _) (lr _)) (
 lc (
 lx (f68_P_ok fu b.2.1 a.2.1) fun r0 =>
 lr _) (
 lx (f68_P_ok fu a.2.1 b.2.1) fun r1 =>
 lr _)))
def f51_P (fu : Nat) (p : Int) (a : Int) : Option (Int) :=
 (f73_P fu p).bind fun r0 =>
 bif (r0.2 != (0 : Int)) then
  some (0 : Int)
 else
  (f74_P fu r0.1 a).bind fun r1 =>
  some r1
theorem f51_P_ok (fu : Nat) (p : Int) (a : Int) : Le (f51_P fu p a) (f51 p a) := le (f51_eq p a) (
 lx (f73_P_ok fu p) fun r0 =>
 lc (lr _) (
 lx (f74_P_ok fu r0.1 a) fun r1 =>
 lr _))
def f53_P (fu : Nat) (x : Int) : Option (Int) :=
 (f86_P fu x).bind fun r0 =>
 some r0
theorem f53_P_ok (fu : Nat) (x : Int) : Le (f53_P fu x) (f53 x) := le (f53_eq x) (
 lx (f86_P_ok fu x) fun r0 =>
 lr _)
def f61_Ls : Nat → ((ByteArray) → (Bool) → (Int) → (List Int) → Option (Bool × List Int))
 | 0 => (fun _ _ _ _ => none)
 | fu + 1 => (fun a minus i d =>
  bif (decide (i ≥ (0 : Int))) then
   (sidx a i).bind fun v0 =>
   bif (v0 != (45 : Int)) then
    (sidx a i).bind fun v1 =>
    let e2 : Int := (W ((W v1) - (48 : Int)))
    bif (okApp 8 1 d.length 1) then
     (f61_Ls fu) a minus (W (i - (1 : Int))) (d ++ ([e2] : List Int))
    else
     none
   else
    (f61_Ls fu) a minus (W (i - (1 : Int))) d
  else
   (f94_P fu d).bind fun r3 =>
   some (minus, r3))
theorem f61_Ls_ok : ∀ fu, (∀ (a : ByteArray) (minus : Bool) (i : Int) (d : List Int), Le ((f61_Ls fu) a minus i d) (f61_L0 a minus i d))
 | 0 => fun _ _ _ _ => ln _
 | fu + 1 => by
  have ih := f61_Ls_ok fu
  exact fun a minus i d => le (f61_L0_eq a minus i d) (
   lc (
   lb fun v0 =>
   lc (
   lb fun v1 =>
   let e2 : Int := (W ((W v1) - (48 : Int)))
   lc (
   ih a minus (W (i - (1 : Int))) (d ++ ([e2] : List Int))) (lr _)) (
   ih a minus (W (i - (1 : Int))) d)) (
   lx (f94_P_ok fu d) fun r3 =>
   lr _))
def f61_P (fu : Nat) (a : ByteArray) : Option (Bool × List Int) :=
 bif (decide ((a.size : Int) > (0 : Int))) then
  (sidx a (0 : Int)).bind fun v0 =>
  (f61_Ls fu) a (v0 == (45 : Int)) (W ((a.size : Int) - (1 : Int))) ([] : List Int)
 else
  (f61_Ls fu) a false (W ((a.size : Int) - (1 : Int))) ([] : List Int)
theorem f61_P_ok (fu : Nat) (a : ByteArray) : Le (f61_P fu a) (f61 a) := le (f61_eq a) (
 lc (
 lb fun v0 =>
 (f61_Ls_ok fu) a (v0 == (45 : Int)) (W ((a.size : Int) - (1 : Int))) ([] : List Int)) (
 (f61_Ls_ok fu) a false (W ((a.size : Int) - (1 : Int))) ([] : List Int)))
def f62_Ls : Nat → ((List Int) → (Int) → (List Int) → Option (ByteArray))
 | 0 => (fun _ _ _ => none)
 | fu + 1 => (fun d i out =>
  bif (decide (i ≥ (0 : Int))) then
   (idx d i).bind fun v0 =>
   let e1 : Int := (IntKind.wrap .u8 (W ((48 : Int) + v0)))
   bif (okApp 1 1 out.length 1) then
    (f62_Ls fu) d (W (i - (1 : Int))) (out ++ ([e1] : List Int))
   else
    none
  else
   some (strOf out))
theorem f62_Ls_ok : ∀ fu, (∀ (d : List Int) (i : Int) (out : List Int), Le ((f62_Ls fu) d i out) (f62_L0 d i out))
 | 0 => fun _ _ _ => ln _
 | fu + 1 => by
  have ih := f62_Ls_ok fu
  exact fun d i out => le (f62_L0_eq d i out) (
   lc (
   lb fun v0 =>
   let e1 : Int := (IntKind.wrap .u8 (W ((48 : Int) + v0)))
   lc (
   ih d (W (i - (1 : Int))) (out ++ ([e1] : List Int))) (lr _)) (lr _))
def f62_P (fu : Nat) (minus : Bool) (d : List Int) : Option (ByteArray) :=
 (f94_P fu d).bind fun r0 =>
 bif ((r0.length : Int) == (0 : Int)) then
  some (bs [48])
 else
  bif minus then
   bif (okApp 1 1 0 1) then
    let e1 : Int := (W ((r0.length : Int) - (1 : Int)))
    (f62_Ls fu) r0 e1 (([] : List Int) ++ ([(45 : Int)] : List Int))
   else
    none
  else
   let e2 : Int := (W ((r0.length : Int) - (1 : Int)))
   (f62_Ls fu) r0 e2 ([] : List Int)
theorem f62_P_ok (fu : Nat) (minus : Bool) (d : List Int) : Le (f62_P fu minus d) (f62 minus d) := le (f62_eq minus d) (
 lx (f94_P_ok fu d) fun r0 =>
 lc (lr _) (
 lc (
 lc (
 let e1 : Int := (W ((r0.length : Int) - (1 : Int)))
 (f62_Ls_ok fu) r0 e1 (([] : List Int) ++ ([(45 : Int)] : List Int))) (lr _)) (
 let e2 : Int := (W ((r0.length : Int) - (1 : Int)))
 (f62_Ls_ok fu) r0 e2 ([] : List Int))))
def f65_P (fu : Nat) (s : ByteArray) (sep : ByteArray) : Option (ByteArray × ByteArray × Bool) :=
 (f96_P fu s sep).bind fun r0 =>
 bif (decide (r0 ≥ (0 : Int))) then
  bif (inCut s.size (0 : Int) r0) then
   bif (inCut s.size (W (r0 + (sep.size : Int))) (s.size : Int)) then
    let e1 : ByteArray := (s.extract (W (r0 + (sep.size : Int))).toNat (s.size : Int).toNat)
    some ((s.extract (0 : Int).toNat r0.toNat), e1, true)
   else
    none
  else
   none
 else
  some (s, ByteArray.empty, false)
theorem f65_P_ok (fu : Nat) (s : ByteArray) (sep : ByteArray) : Le (f65_P fu s sep) (f65 s sep) := le (f65_eq s sep) (
 lx (f96_P_ok fu s sep) fun r0 =>
 lc (
 lc (
 lc (
 let e1 : ByteArray := (s.extract (W (r0 + (sep.size : Int))).toNat (s.size : Int).toNat)
 lr _) (lr _)) (lr _)) (lr _))
def f67_P (fu : Nat) (neg : Bool) (d : List Int) : Option (Bool × (List Int) × Unit) :=
 (f72_P fu d).bind fun r0 =>
 bif neg then
  some ((decide ((r0.length : Int) > (0 : Int))), (r0, ()))
 else
  some (false, (r0, ()))
theorem f67_P_ok (fu : Nat) (neg : Bool) (d : List Int) : Le (f67_P fu neg d) (f67 neg d) := le (f67_eq neg d) (
 lx (f72_P_ok fu d) fun r0 =>
 lc (lr _) (lr _))
def f75_P (fu : Nat) (f : Int) (a : Int) : Option (Int) :=
 (f100_P fu f a (W (f - (2 : Int)))).bind fun r0 =>
 some r0
theorem f75_P_ok (fu : Nat) (f : Int) (a : Int) : Le (f75_P fu f a) (f75 f a) := le (f75_eq f a) (
 lx (f100_P_ok fu f a (W (f - (2 : Int)))) fun r0 =>
 lr _)
def f77_Ls : Nat → (Ts → (Int) → (Int) → (List (Int × Tm × Unit)) → Option Ts)
 | 0 => (fun _ _ _ _ => none)
 | fu + 1 => (fun row p k rest =>
  match rest with
  | [] => some row
  | x0 :: x0s =>
   let e1 : Int := (W (x0.2.1.1 + (W (k * x0.2.1.2.1))))
   bif (!(p == 0)) then
    bif ((e1.tmod p) != (0 : Int)) then
     let e2 : Ts := ([(x0.1, ((e1.tmod p), ()))] : Ts)
     bif (okApp 16 2 row.length 1) then
      (f77_Ls fu) (row ++ e2) p k x0s
     else
      none
    else
     (f77_Ls fu) row p k x0s
   else
    none)
theorem f77_Ls_ok : ∀ fu, (∀ (row : Ts) (p : Int) (k : Int) (rest : List (Int × Tm × Unit)), Le ((f77_Ls fu) row p k rest) (f77_L0 row p k rest))
 | 0 => fun _ _ _ _ => ln _
 | fu + 1 => by
  have ih := f77_Ls_ok fu
  exact fun row p k rest => le (f77_L0_eq row p k rest) (
   (by
    cases rest with
    | nil =>
     exact lr _
    | cons x0 x0s =>
     exact let e1 : Int := (W (x0.2.1.1 + (W (k * x0.2.1.2.1))))
      lc (
      lc (
      let e2 : Ts := ([(x0.1, ((e1.tmod p), ()))] : Ts)
      lc (
      ih (row ++ e2) p k x0s) (lr _)) (
      ih row p k x0s)) (lr _)))
def f77_P (fu : Nat) (p : Int) (a : Ts) (k : Int) (b : Ts) : Option Ts :=
 (f101_P fu a b).bind fun r0 =>
 (f111_P fu r0.1 r0.2).bind fun r1 =>
 (f77_Ls fu) ([] : Ts) p k r1
theorem f77_P_ok (fu : Nat) (p : Int) (a : Ts) (k : Int) (b : Ts) : Le (f77_P fu p a k b) (f77 p a k b) := le (f77_eq p a k b) (
 lx (f101_P_ok fu a b) fun r0 =>
 lx (f111_P_ok fu r0.1 r0.2) fun r1 =>
 (f77_Ls_ok fu) ([] : Ts) p k r1)
def f79_Ls : Nat → ((Nat) → (Int) → (Int) → (Int) → (Int) → (List Os) → Option ((Unit) × (List Os))) × ((Nat) → (Int) → (Int) → (Int) → (List Os) → Option ((Unit) × (List Os)))
 | 0 => (fun _ _ _ _ _ _ => none, fun _ _ _ _ _ => none)
 | fu + 1 => (fun data first lo hi i hp3 =>
  bif (decide (i ≥ (0 : Int))) then
   (f102_P fu data i hi first hp3).bind fun r0 =>
   (f79_Ls fu).1 data first lo hi (W (i - (1 : Int))) r0.2
  else
   (f79_Ls fu).2 data first lo (W (hi - (1 : Int))) hp3,
  fun data first lo i hp3 =>
  bif (decide (i ≥ (0 : Int))) then
   (hget hp3 data).bind fun v0 =>
   (idx v0 (W (first + i))).bind fun _ =>
   (hget hp3 data).bind fun v1 =>
   (v1[(W (first + i)).toNat]?).bind fun v2 =>
   (hget hp3 data).bind fun v3 =>
   (idx v3 first).bind fun _ =>
   (hget hp3 data).bind fun v4 =>
   (v4[first.toNat]?).bind fun v5 =>
   (hget hp3 data).bind fun v6 =>
   (idx v6 first).bind fun _ =>
   (hget hp3 data).bind fun v7 =>
   (v7[first.toNat]?).bind fun v8 =>
   let e9 : List Os := (hset hp3 data (v7.set first.toNat (v2.1, (v2.2.1, ()))))
   (hget e9 data).bind fun v10 =>
   (idx v10 (W (first + i))).bind fun _ =>
   (hget e9 data).bind fun v11 =>
   (v11[(W (first + i)).toNat]?).bind fun v12 =>
   let e13 : List Os := (hset e9 data (v11.set (W (first + i)).toNat (v5.1, (v5.2.1, ()))))
   (f102_P fu data lo i first e13).bind fun r14 =>
   (f79_Ls fu).2 data first lo (W (i - (1 : Int))) r14.2
  else
   some ((), hp3))
theorem f79_Ls_ok : ∀ fu, (∀ (data : Nat) (first : Int) (lo : Int) (hi : Int) (i : Int) (hp3 : List Os), Le ((f79_Ls fu).1 data first lo hi i hp3) (f79_L0 data first lo hi i hp3)) ∧ (∀ (data : Nat) (first : Int) (lo : Int) (i : Int) (hp3 : List Os), Le ((f79_Ls fu).2 data first lo i hp3) (f79_L1 data first lo i hp3))
 | 0 => ⟨(fun _ _ _ _ _ _ => ln _),
  (fun _ _ _ _ _ => ln _)⟩
 | fu + 1 => by
  have ih := f79_Ls_ok fu
  exact ⟨(fun data first lo hi i hp3 => le (f79_L0_eq data first lo hi i hp3) (
   lc (
   lx (f102_P_ok fu data i hi first hp3) fun r0 =>
   ih.1 data first lo hi (W (i - (1 : Int))) r0.2) (
   ih.2 data first lo (W (hi - (1 : Int))) hp3))),
  (fun data first lo i hp3 => le (f79_L1_eq data first lo i hp3) (
   lc (
   lb fun v0 =>
   lb fun _ =>
   lb fun v1 =>
   lb fun v2 =>
   lb fun v3 =>
   lb fun _ =>
   lb fun v4 =>
   lb fun v5 =>
   lb fun v6 =>
   lb fun _ =>
   lb fun v7 =>
   lb fun v8 =>
   let e9 : List Os := (hset hp3 data (v7.set first.toNat (v2.1, (v2.2.1, ()))))
   lb fun v10 =>
   lb fun _ =>
   lb fun v11 =>
   lb fun v12 =>
   let e13 : List Os := (hset e9 data (v11.set (W (first + i)).toNat (v5.1, (v5.2.1, ()))))
   lx (f102_P_ok fu data lo i first e13) fun r14 =>
   ih.2 data first lo (W (i - (1 : Int))) r14.2) (lr _)))⟩
def f79_P (fu : Nat) (data : Nat) (a : Int) (b : Int) (hp3 : List Os) : Option ((Unit) × (List Os)) :=
 let e0 : Int := (W ((W (b - a)) - (1 : Int)))
 (f79_Ls fu).1 data a (0 : Int) (W (b - a)) (W (e0.tdiv (2 : Int))) hp3
theorem f79_P_ok (fu : Nat) (data : Nat) (a : Int) (b : Int) (hp3 : List Os) : Le (f79_P fu data a b hp3) (f79 data a b hp3) := le (f79_eq data a b hp3) (
 let e0 : Int := (W ((W (b - a)) - (1 : Int)))
 (f79_Ls_ok fu).1 data a (0 : Int) (W (b - a)) (W (e0.tdiv (2 : Int))) hp3)
def f87_Ls : Nat → ((Int) → (List Int) → Option (ByteArray)) × ((Int) → (List Int) → Option (ByteArray))
 | 0 => (fun _ _ => none, fun _ _ => none)
 | fu + 1 => (fun q d =>
  bif (decide (q > (0 : Int))) then
   bif (okApp 8 1 d.length 1) then
    (f87_Ls fu).1 (W (q.tdiv (10 : Int))) (d ++ ([(q.tmod (10 : Int))] : List Int))
   else
    none
  else
   (f62_P fu true d).bind fun r0 =>
   some r0,
  fun n d =>
  bif (decide (n > (0 : Int))) then
   bif (okApp 8 1 d.length 1) then
    (f87_Ls fu).2 (W (n.tdiv (10 : Int))) (d ++ ([(n.tmod (10 : Int))] : List Int))
   else
    none
  else
   (f62_P fu false d).bind fun r0 =>
   some r0)
theorem f87_Ls_ok : ∀ fu, (∀ (q : Int) (d : List Int), Le ((f87_Ls fu).1 q d) (f87_L0 q d)) ∧ (∀ (n : Int) (d : List Int), Le ((f87_Ls fu).2 n d) (f87_L1 n d))
 | 0 => ⟨(fun _ _ => ln _),
  (fun _ _ => ln _)⟩
 | fu + 1 => by
  have ih := f87_Ls_ok fu
  exact ⟨(fun q d => le (f87_L0_eq q d) (
   lc (
   lc (
   ih.1 (W (q.tdiv (10 : Int))) (d ++ ([(q.tmod (10 : Int))] : List Int))) (lr _)) (
   lx (f62_P_ok fu true d) fun r0 =>
   lr _))),
  (fun n d => le (f87_L1_eq n d) (
   lc (
   lc (
   ih.2 (W (n.tdiv (10 : Int))) (d ++ ([(n.tmod (10 : Int))] : List Int))) (lr _)) (
   lx (f62_P_ok fu false d) fun r0 =>
   lr _)))⟩
def f87_P (fu : Nat) (n : Int) : Option (ByteArray) :=
 bif (decide (n < (0 : Int))) then
  let e0 : List Int := ([(W (0 - (n.tmod (10 : Int))))] : List Int)
  bif (okApp 8 1 0 1) then
   let e1 : Int := (W (0 - (W (n.tdiv (10 : Int)))))
   (f87_Ls fu).1 e1 (([] : List Int) ++ e0)
  else
   none
 else
  (f87_Ls fu).2 n ([] : List Int)
theorem f87_P_ok (fu : Nat) (n : Int) : Le (f87_P fu n) (f87 n) := le (f87_eq n) (
 lc (
 let e0 : List Int := ([(W (0 - (n.tmod (10 : Int))))] : List Int)
 lc (
 let e1 : Int := (W (0 - (W (n.tdiv (10 : Int)))))
 (f87_Ls_ok fu).1 e1 (([] : List Int) ++ e0)) (lr _)) (
 (f87_Ls_ok fu).2 n ([] : List Int)))
def f89_P (fu : Nat) (a : ByteArray) : Option (Bool) :=
 (f105_P fu a).bind fun r0 =>
 some (decide (r0 > (1000 : Int)))
theorem f89_P_ok (fu : Nat) (a : ByteArray) : Le (f89_P fu a) (f89 a) := le (f89_eq a) (
 lx (f105_P_ok fu a) fun r0 =>
 lr _)
def f93_Ls : Nat → ((ByteArray) → (Int) → (Int) → Option (Int × Bool))
 | 0 => (fun _ _ _ => none)
 | fu + 1 => (fun a n i =>
  bif (decide (i < (a.size : Int))) then
   (sidx a i).bind fun v0 =>
   bif (v0 != (45 : Int)) then
    (sidx a i).bind fun v1 =>
    let e2 : Int := (W ((W ((10 : Int) * n)) + (W v1)))
    (f93_Ls fu) a (W (e2 - (48 : Int))) (W (i + (1 : Int)))
   else
    (f93_Ls fu) a n (W (i + (1 : Int)))
  else
   bif (decide ((a.size : Int) > (0 : Int))) then
    (sidx a (0 : Int)).bind fun v3 =>
    bif (v3 == (45 : Int)) then
     some ((W (0 - n)), true)
    else
     some (n, true)
   else
    some (n, true))
theorem f93_Ls_ok : ∀ fu, (∀ (a : ByteArray) (n : Int) (i : Int), Le ((f93_Ls fu) a n i) (f93_L0 a n i))
 | 0 => fun _ _ _ => ln _
 | fu + 1 => by
  have ih := f93_Ls_ok fu
  exact fun a n i => le (f93_L0_eq a n i) (
   lc (
   lb fun v0 =>
   lc (
   lb fun v1 =>
   let e2 : Int := (W ((W ((10 : Int) * n)) + (W v1)))
   ih a (W (e2 - (48 : Int))) (W (i + (1 : Int)))) (
   ih a n (W (i + (1 : Int))))) (
   lc (
   lb fun v3 =>
   lc (lr _) (lr _)) (lr _)))
def f93_P (fu : Nat) (a : ByteArray) : Option (Int × Bool) :=
 (f105_P fu a).bind fun r0 =>
 bif (decide (r0 > (9 : Int))) then
  some ((0 : Int), false)
 else
  (f93_Ls fu) a (0 : Int) (0 : Int)
theorem f93_P_ok (fu : Nat) (a : ByteArray) : Le (f93_P fu a) (f93 a) := le (f93_eq a) (
 lx (f105_P_ok fu a) fun r0 =>
 lc (lr _) (
 (f93_Ls_ok fu) a (0 : Int) (0 : Int)))
def f97_P (fu : Nat) (s : ByteArray) (prefix0 : ByteArray) : Option (ByteArray × Bool) :=
 (f109_P fu s prefix0).bind fun r0 =>
 bif (!r0) then
  some (s, false)
 else
  bif (inCut s.size (prefix0.size : Int) (s.size : Int)) then
   let e1 : ByteArray := (s.extract (prefix0.size : Int).toNat (s.size : Int).toNat)
   some (e1, true)
  else
   none
theorem f97_P_ok (fu : Nat) (s : ByteArray) (prefix0 : ByteArray) : Le (f97_P fu s prefix0) (f97 s prefix0) := le (f97_eq s prefix0) (
 lx (f109_P_ok fu s prefix0) fun r0 =>
 lc (lr _) (
 lc (
 let e1 : ByteArray := (s.extract (prefix0.size : Int).toNat (s.size : Int).toNat)
 lr _) (lr _)))
def f99_Ls : Nat → ((Int) → (List Int) → (List Int) → (Int) → (Int) → (List Int) → Option ((List Int) × List Int)) × ((Int) → (List Int) → (List Int) → (Int) → (Int) → (Int) → (Int) → (List Int) → Option ((List Int) × List Int)) × ((Int) → (List Int) → (List Int) → (Int) → (Int) → (Int) → (Int) → (Int) → (Int) → (List Int) → Option ((List Int) × List Int)) × ((Int) → (List Int) → (List Int) → (Int) → (Int) → (Int) → (Int) → (Int) → (Int) → (Int) → (List Int) → Option ((List Int) × List Int))
 | 0 => (fun _ _ _ _ _ _ => none, fun _ _ _ _ _ _ _ _ => none, fun _ _ _ _ _ _ _ _ _ _ => none, fun _ _ _ _ _ _ _ _ _ _ _ => none)
 | fu + 1 => (fun k u v n j q =>
  bif (decide (j ≥ (0 : Int))) then
   (idx u (W (j + n))).bind fun v0 =>
   let e1 : Int := (IntKind.wrap .u64 ((IntKind.wrap .u64 v0) * (1000000000 : Int)))
   let e2 : Int := (W ((W (j + n)) - (1 : Int)))
   (idx u e2).bind fun v3 =>
   let e4 : Int := (IntKind.wrap .u64 (e1 + (IntKind.wrap .u64 v3)))
   (idx v (W (n - (1 : Int)))).bind fun v5 =>
   bif (!((IntKind.wrap .u64 v5) == 0)) then
    let e6 : Int := (IntKind.wrap .u64 (e4.tdiv (IntKind.wrap .u64 v5)))
    (idx v (W (n - (1 : Int)))).bind fun v7 =>
    bif (!((IntKind.wrap .u64 v7) == 0)) then
     (f99_Ls fu).2.1 k u v n j e6 (e4.tmod (IntKind.wrap .u64 v7)) q
    else
     none
   else
    none
  else
   bif (inCut u.length (0 : Int) n) then
    (f98_P fu (cut u (0 : Int) n) k).bind fun r8 =>
    some (q, r8.1)
   else
    none,
  fun k u v n j guess rest q =>
  bif (decide (guess ≥ (1000000000 : Int))) then
   (idx v (W (n - (1 : Int)))).bind fun v0 =>
   let e1 : Int := (IntKind.wrap .u64 (rest + (IntKind.wrap .u64 v0)))
   bif (decide (e1 ≥ (1000000000 : Int))) then
    (f99_Ls fu).2.2.1 k u v n j (IntKind.wrap .u64 (guess - (1 : Int))) (0 : Int) n (0 : Int) q
   else
    (f99_Ls fu).2.1 k u v n j (IntKind.wrap .u64 (guess - (1 : Int))) e1 q
  else
   (idx v (W (n - (2 : Int)))).bind fun v2 =>
   let e3 : Int := (IntKind.wrap .u64 (guess * (IntKind.wrap .u64 v2)))
   let e4 : Int := (W ((W (j + n)) - (2 : Int)))
   (idx u e4).bind fun v5 =>
   let e6 : Int := (IntKind.wrap .u64 ((IntKind.wrap .u64 (rest * (1000000000 : Int))) + (IntKind.wrap .u64 v5)))
   bif (decide (e3 > e6)) then
    (idx v (W (n - (1 : Int)))).bind fun v7 =>
    let e8 : Int := (IntKind.wrap .u64 (rest + (IntKind.wrap .u64 v7)))
    bif (decide (e8 ≥ (1000000000 : Int))) then
     (f99_Ls fu).2.2.1 k u v n j (IntKind.wrap .u64 (guess - (1 : Int))) (0 : Int) n (0 : Int) q
    else
     (f99_Ls fu).2.1 k u v n j (IntKind.wrap .u64 (guess - (1 : Int))) e8 q
   else
    (f99_Ls fu).2.2.1 k u v n j guess (0 : Int) n (0 : Int) q,
  fun k u v n j guess borrow t t2 q =>
  bif (decide (t2 < t)) then
   (idx u (W (t2 + j))).bind fun v0 =>
   let e1 : Int := (W ((W v0) - borrow))
   (idx v t2).bind fun v2 =>
   let e3 : Int := (W ((W guess) * (W v2)))
   let e4 : Int := (W (e1 - (e3.tmod (1000000000 : Int))))
   (idx v t2).bind fun v5 =>
   let e6 : Int := (W ((W guess) * (W v5)))
   bif (decide (e4 < (0 : Int))) then
    let e7 : Int := (W ((W (e6.tdiv (1000000000 : Int))) + (1 : Int)))
    bif (decide ((W (e4 + (1000000000 : Int))) < (0 : Int))) then
     let e8 : Int := (W ((W (e4 + (1000000000 : Int))) + (1000000000 : Int)))
     (idx u (W (t2 + j))).bind fun v9 =>
     none
    else
     let e10 : Int := (IntKind.wrap .u32 (W (e4 + (1000000000 : Int))))
     (idx u (W (t2 + j))).bind fun v11 =>
     none
   else
    bif (decide (e4 < (0 : Int))) then
     let e12 : Int := (W ((W (e6.tdiv (1000000000 : Int))) + (1 : Int)))
     let e13 : Int := (IntKind.wrap .u32 (W (e4 + (1000000000 : Int))))
     (idx u (W (t2 + j))).bind fun v14 =>
     none
    else
     (idx u (W (t2 + j))).bind fun v15 =>
     none
  else
   (idx u (W (j + n))).bind fun v16 =>
   let e17 : Int := (W ((W v16) - borrow))
   bif (decide (e17 < (0 : Int))) then
    (f99_Ls fu).2.2.2 k u v n j (IntKind.wrap .u64 (guess - (1 : Int))) e17 (0 : Int) n (0 : Int) q
   else
    (idx u (W (j + n))).bind fun v18 =>
    none,
  fun k u v n j guess x carry t t2 q =>
  bif (decide (t2 < t)) then
   (idx u (W (t2 + j))).bind fun v0 =>
   (idx v t2).bind fun v1 =>
   let e2 : Int := (IntKind.wrap .u32 ((IntKind.wrap .u32 (v0 + v1)) + carry))
   (idx u (W (t2 + j))).bind fun v3 =>
   none
  else
   let e4 : Int := (W (x + (W carry)))
   (idx u (W (j + n))).bind fun v5 =>
   none)
theorem f99_Ls_ok : ∀ fu, (∀ (k : Int) (u : List Int) (v : List Int) (n : Int) (j : Int) (q : List Int), Le ((f99_Ls fu).1 k u v n j q) (f99_L0 k u v n j q)) ∧ (∀ (k : Int) (u : List Int) (v : List Int) (n : Int) (j : Int) (guess : Int) (rest : Int) (q : List Int), Le ((f99_Ls fu).2.1 k u v n j guess rest q) (f99_L1 k u v n j guess rest q)) ∧ (∀ (k : Int) (u : List Int) (v : List Int) (n : Int) (j : Int) (guess : Int) (borrow : Int) (t : Int) (t2 : Int) (q : List Int), Le ((f99_Ls fu).2.2.1 k u v n j guess borrow t t2 q) (f99_L2 k u v n j guess borrow t t2 q)) ∧ (∀ (k : Int) (u : List Int) (v : List Int) (n : Int) (j : Int) (guess : Int) (x : Int) (carry : Int) (t : Int) (t2 : Int) (q : List Int), Le ((f99_Ls fu).2.2.2 k u v n j guess x carry t t2 q) (f99_L3 k u v n j guess x carry t t2 q))
 | 0 => ⟨(fun _ _ _ _ _ _ => ln _),
  (fun _ _ _ _ _ _ _ _ => ln _),
  (fun _ _ _ _ _ _ _ _ _ _ => ln _),
  (fun _ _ _ _ _ _ _ _ _ _ _ => ln _)⟩
 | fu + 1 => by
  have ih := f99_Ls_ok fu
  exact ⟨(fun k u v n j q => le (f99_L0_eq k u v n j q) (
   lc (
   lb fun v0 =>
   let e1 : Int := (IntKind.wrap .u64 ((IntKind.wrap .u64 v0) * (1000000000 : Int)))
   let e2 : Int := (W ((W (j + n)) - (1 : Int)))
   lb fun v3 =>
   let e4 : Int := (IntKind.wrap .u64 (e1 + (IntKind.wrap .u64 v3)))
   lb fun v5 =>
   lc (
   let e6 : Int := (IntKind.wrap .u64 (e4.tdiv (IntKind.wrap .u64 v5)))
   lb fun v7 =>
   lc (
   ih.2.1 k u v n j e6 (e4.tmod (IntKind.wrap .u64 v7)) q) (lr _)) (lr _)) (
   lc (
   lx (f98_P_ok fu (cut u (0 : Int) n) k) fun r8 =>
   lr _) (lr _)))),
  (fun k u v n j guess rest q => le (f99_L1_eq k u v n j guess rest q) (
   lc (
   lb fun v0 =>
   let e1 : Int := (IntKind.wrap .u64 (rest + (IntKind.wrap .u64 v0)))
   lc (
   ih.2.2.1 k u v n j (IntKind.wrap .u64 (guess - (1 : Int))) (0 : Int) n (0 : Int) q) (
   ih.2.1 k u v n j (IntKind.wrap .u64 (guess - (1 : Int))) e1 q)) (
   lb fun v2 =>
   let e3 : Int := (IntKind.wrap .u64 (guess * (IntKind.wrap .u64 v2)))
   let e4 : Int := (W ((W (j + n)) - (2 : Int)))
   lb fun v5 =>
   let e6 : Int := (IntKind.wrap .u64 ((IntKind.wrap .u64 (rest * (1000000000 : Int))) + (IntKind.wrap .u64 v5)))
   lc (
   lb fun v7 =>
   let e8 : Int := (IntKind.wrap .u64 (rest + (IntKind.wrap .u64 v7)))
   lc (
   ih.2.2.1 k u v n j (IntKind.wrap .u64 (guess - (1 : Int))) (0 : Int) n (0 : Int) q) (
   ih.2.1 k u v n j (IntKind.wrap .u64 (guess - (1 : Int))) e8 q)) (
   ih.2.2.1 k u v n j guess (0 : Int) n (0 : Int) q)))),
  (fun k u v n j guess borrow t t2 q => le (f99_L2_eq k u v n j guess borrow t t2 q) (
   lc (
   lb fun v0 =>
   let e1 : Int := (W ((W v0) - borrow))
   lb fun v2 =>
   let e3 : Int := (W ((W guess) * (W v2)))
   let e4 : Int := (W (e1 - (e3.tmod (1000000000 : Int))))
   lb fun v5 =>
   let e6 : Int := (W ((W guess) * (W v5)))
   lc (
   let e7 : Int := (W ((W (e6.tdiv (1000000000 : Int))) + (1 : Int)))
   lc (
   let e8 : Int := (W ((W (e4 + (1000000000 : Int))) + (1000000000 : Int)))
   lb fun v9 =>
   lr _) (
   let e10 : Int := (IntKind.wrap .u32 (W (e4 + (1000000000 : Int))))
   lb fun v11 =>
   lr _)) (
   lc (
   let e12 : Int := (W ((W (e6.tdiv (1000000000 : Int))) + (1 : Int)))
   let e13 : Int := (IntKind.wrap .u32 (W (e4 + (1000000000 : Int))))
   lb fun v14 =>
   lr _) (
   lb fun v15 =>
   lr _))) (
   lb fun v16 =>
   let e17 : Int := (W ((W v16) - borrow))
   lc (
   ih.2.2.2 k u v n j (IntKind.wrap .u64 (guess - (1 : Int))) e17 (0 : Int) n (0 : Int) q) (
   lb fun v18 =>
   lr _)))),
  (fun k u v n j guess x carry t t2 q => le (f99_L3_eq k u v n j guess x carry t t2 q) (
   lc (
   lb fun v0 =>
   lb fun v1 =>
   let e2 : Int := (IntKind.wrap .u32 ((IntKind.wrap .u32 (v0 + v1)) + carry))
   lb fun v3 =>
   lr _) (
   let e4 : Int := (W (x + (W carry)))
   lb fun v5 =>
   lr _)))⟩
def f99_P (fu : Nat) (a : List Int) (b : List Int) : Option ((List Int) × List Int) :=
 let e0 : Int := (W ((b.length : Int) - (1 : Int)))
 (idx b e0).bind fun v1 =>
 let e2 : Int := (IntKind.wrap .u64 ((IntKind.wrap .u64 v1) + (1 : Int)))
 bif (!(e2 == 0)) then
  let e3 : Int := (IntKind.wrap .u32 (IntKind.wrap .u64 ((1000000000 : Int).tdiv e2)))
  (f110_P fu a e3).bind fun r4 =>
  (f110_P fu b e3).bind fun r5 =>
  (f72_P fu r5).bind fun r6 =>
  let e7 : Int := (W ((r4.length : Int) - (r6.length : Int)))
  bif (okMake 4 e7 e7) then
   let e8 : Int := (W ((r4.length : Int) - (r6.length : Int)))
   (f99_Ls fu).1 e3 r4 r6 (r6.length : Int) (W (e8 - (1 : Int))) (List.replicate e7.toNat (0 : Int))
  else
   none
 else
  none
theorem f99_P_ok (fu : Nat) (a : List Int) (b : List Int) : Le (f99_P fu a b) (f99 a b) := le (f99_eq a b) (
 let e0 : Int := (W ((b.length : Int) - (1 : Int)))
 lb fun v1 =>
 let e2 : Int := (IntKind.wrap .u64 ((IntKind.wrap .u64 v1) + (1 : Int)))
 lc (
 let e3 : Int := (IntKind.wrap .u32 (IntKind.wrap .u64 ((1000000000 : Int).tdiv e2)))
 lx (f110_P_ok fu a e3) fun r4 =>
 lx (f110_P_ok fu b e3) fun r5 =>
 lx (f72_P_ok fu r5) fun r6 =>
 let e7 : Int := (W ((r4.length : Int) - (r6.length : Int)))
 lc (
 let e8 : Int := (W ((r4.length : Int) - (r6.length : Int)))
 (f99_Ls_ok fu).1 e3 r4 r6 (r6.length : Int) (W (e8 - (1 : Int))) (List.replicate e7.toNat (0 : Int))) (lr _)) (lr _))
def f103_P (fu : Nat) (length : Int) : Option (Int) :=
 (f53_P fu (IntKind.wrap .u64 length)).bind fun r0 =>
 bif (decide (0 ≤ r0)) then
  some (shl .u64 (1 : Int) r0)
 else
  none
theorem f103_P_ok (fu : Nat) (length : Int) : Le (f103_P fu length) (f103 length) := le (f103_eq length) (
 lx (f53_P_ok fu (IntKind.wrap .u64 length)) fun r0 =>
 lc (lr _) (lr _))
def f106_P (fu : Nat) (a : ByteArray) : Option (ByteArray) :=
 (f61_P fu a).bind fun r0 =>
 (f62_P fu false r0.2).bind fun r1 =>
 some r1
theorem f106_P_ok (fu : Nat) (a : ByteArray) : Le (f106_P fu a) (f106 a) := le (f106_eq a) (
 lx (f61_P_ok fu a) fun r0 =>
 lx (f62_P_ok fu false r0.2) fun r1 =>
 lr _)
def f107_P (fu : Nat) (a : Bool × (List Int) × Unit) : Option (Bool) :=
 (f115_P fu (a.1, (a.2.1, ()))).bind fun r0 =>
 some (decide (r0 > (1000 : Int)))
theorem f107_P_ok (fu : Nat) (a : Bool × (List Int) × Unit) : Le (f107_P fu a) (f107 a) := le (f107_eq a) (
 lx (f115_P_ok fu (a.1, (a.2.1, ()))) fun r0 =>
 lr _)
def f114_P (fu : Nat) (a : ByteArray) (b : ByteArray) : Option (ByteArray) :=
 (f93_P fu a).bind fun r0 =>
 (f93_P fu b).bind fun r1 =>
 bif r0.2 then
  bif r1.2 then
   (f87_P fu (W (r0.1 + r1.1))).bind fun r2 =>
   some r2
  else
   (f61_P fu a).bind fun r3 =>
   (f61_P fu b).bind fun r4 =>
   bif (r3.1 == r4.1) then
    (f116_P fu r3.2 r4.2).bind fun r5 =>
    (f62_P fu r3.1 r5).bind fun r6 =>
    some r6
   else
    (f92_P fu r3.2 r4.2).bind fun r7 =>
    bif (decide (r7 < (0 : Int))) then
     (f112_P fu r4.2 r3.2).bind fun r8 =>
     (f62_P fu r4.1 r8).bind fun r9 =>
     some r9
    else
     (f112_P fu r3.2 r4.2).bind fun r10 =>
     (f62_P fu r3.1 r10).bind fun r11 =>
     some r11
 else
  (f61_P fu a).bind fun r12 =>
  (f61_P fu b).bind fun r13 =>
  bif (r12.1 == r13.1) then
   (f116_P fu r12.2 r13.2).bind fun r14 =>
   (f62_P fu r12.1 r14).bind fun r15 =>
   some r15
  else
   (f92_P fu r12.2 r13.2).bind fun r16 =>
   bif (decide (r16 < (0 : Int))) then
    (f112_P fu r13.2 r12.2).bind fun r17 =>
    (f62_P fu r13.1 r17).bind fun r18 =>
    some r18
   else
    (f112_P fu r12.2 r13.2).bind fun r19 =>
    (f62_P fu r12.1 r19).bind fun r20 =>
    some r20
theorem f114_P_ok (fu : Nat) (a : ByteArray) (b : ByteArray) : Le (f114_P fu a b) (f114 a b) := le (f114_eq a b) (
 lx (f93_P_ok fu a) fun r0 =>
 lx (f93_P_ok fu b) fun r1 =>
 lc (
 lc (
 lx (f87_P_ok fu (W (r0.1 + r1.1))) fun r2 =>
 lr _) (
 lx (f61_P_ok fu a) fun r3 =>
 lx (f61_P_ok fu b) fun r4 =>
 lc (
 lx (f116_P_ok fu r3.2 r4.2) fun r5 =>
 lx (f62_P_ok fu r3.1 r5) fun r6 =>
 lr _) (
 lx (f92_P_ok fu r3.2 r4.2) fun r7 =>
 lc (
 lx (f112_P_ok fu r4.2 r3.2) fun r8 =>
 lx (f62_P_ok fu r4.1 r8) fun r9 =>
 lr _) (
 lx (f112_P_ok fu r3.2 r4.2) fun r10 =>
 lx (f62_P_ok fu r3.1 r10) fun r11 =>
 lr _)))) (
 lx (f61_P_ok fu a) fun r12 =>
 lx (f61_P_ok fu b) fun r13 =>
 lc (
 lx (f116_P_ok fu r12.2 r13.2) fun r14 =>
 lx (f62_P_ok fu r12.1 r14) fun r15 =>
 lr _) (
 lx (f92_P_ok fu r12.2 r13.2) fun r16 =>
 lc (
 lx (f112_P_ok fu r13.2 r12.2) fun r17 =>
 lx (f62_P_ok fu r13.1 r17) fun r18 =>
 lr _) (
 lx (f112_P_ok fu r12.2 r13.2) fun r19 =>
 lx (f62_P_ok fu r12.1 r19) fun r20 =>
 lr _))))
def f126_P (fu : Nat) (s : Ts) (f : Int) : Option (Bool) :=
 (f128_P fu s f).bind fun r0 =>
 some (decide (r0 ≥ (0 : Int)))
theorem f126_P_ok (fu : Nat) (s : Ts) (f : Int) : Le (f126_P fu s f) (f126 s f) := le (f126_eq s f) (
 lx (f128_P_ok fu s f) fun r0 =>
 lr _)
def f127_P (fu : Nat) (s : Ts) (f : (Int × Cs × Unit) × Int × ByteArray × Ts × Unit) : Option (Bool) :=
 (f129_P fu s ((f.1.1, (f.1.2.1, ())), (f.2.1, (f.2.2.1, (f.2.2.2.1, ()))))).bind fun r0 =>
 some (decide (r0 ≥ (0 : Int)))
theorem f127_P_ok (fu : Nat) (s : Ts) (f : (Int × Cs × Unit) × Int × ByteArray × Ts × Unit) : Le (f127_P fu s f) (f127 s f) := le (f127_eq s f) (
 lx (f129_P_ok fu s ((f.1.1, (f.1.2.1, ())), (f.2.1, (f.2.2.1, (f.2.2.2.1, ()))))) fun r0 =>
 lr _)
def f20_P (fu : Nat) (a : (Bool × (List Int) × Unit) × (Bool × (List Int) × Unit) × Unit) : Option (ByteArray) :=
 (f45_P fu ((a.1.1, (a.1.2.1, ())), ((a.2.1.1, (a.2.1.2.1, ())), ()))).bind fun r0 =>
 (f40_P fu (1 : Int)).bind fun r1 =>
 (f42_P fu (r0.1, (r0.2.1, ())) (r1.1, (r1.2.1, ()))).bind fun r2 =>
 bif (r2 != (0 : Int)) then
  (f46_P fu (a.1.1, (a.1.2.1, ()))).bind fun r3 =>
  bif (Nat.ble (r3.size + (bs [47]).size) 9223372036854775807) then
   (f46_P fu (r0.1, (r0.2.1, ()))).bind fun r4 =>
   bif (Nat.ble ((r3 ++ (bs [47])).size + r4.size) 9223372036854775807) then
    some ((r3 ++ (bs [47])) ++ r4)
   else
    none
  else
   none
 else
  (f46_P fu (a.1.1, (a.1.2.1, ()))).bind fun r5 =>
  some r5
theorem f20_P_ok (fu : Nat) (a : (Bool × (List Int) × Unit) × (Bool × (List Int) × Unit) × Unit) : Le (f20_P fu a) (f20 a) := le (f20_eq a) (
 lx (f45_P_ok fu ((a.1.1, (a.1.2.1, ())), ((a.2.1.1, (a.2.1.2.1, ())), ()))) fun r0 =>
 lx (f40_P_ok fu (1 : Int)) fun r1 =>
 lx (f42_P_ok fu (r0.1, (r0.2.1, ())) (r1.1, (r1.2.1, ()))) fun r2 =>
 lc (
 lx (f46_P_ok fu (a.1.1, (a.1.2.1, ()))) fun r3 =>
 lc (
 lx (f46_P_ok fu (r0.1, (r0.2.1, ()))) fun r4 =>
 lc (lr _) (lr _)) (lr _)) (
 lx (f46_P_ok fu (a.1.1, (a.1.2.1, ()))) fun r5 =>
 lr _))
def f29_P (fu : Nat) (a : ByteArray) : Option (ByteArray) :=
 (f61_P fu a).bind fun r0 =>
 (f62_P fu (!r0.1) r0.2).bind fun r1 =>
 some r1
theorem f29_P_ok (fu : Nat) (a : ByteArray) : Le (f29_P fu a) (f29 a) := le (f29_eq a) (
 lx (f61_P_ok fu a) fun r0 =>
 lx (f62_P_ok fu (!r0.1) r0.2) fun r1 =>
 lr _)
def f38_P (fu : Nat) (s : ByteArray) (sep : ByteArray) : Option (ByteArray × ByteArray × Bool) :=
 (f65_P fu s sep).bind fun r0 =>
 some (r0.1, r0.2.1, r0.2.2)
theorem f38_P_ok (fu : Nat) (s : ByteArray) (sep : ByteArray) : Le (f38_P fu s sep) (f38 s sep) := le (f38_eq s sep) (
 lx (f65_P_ok fu s sep) fun r0 =>
 lr _)
def f44_P (fu : Nat) (a : Bool × (List Int) × Unit) : Option (Bool × (List Int) × Unit) :=
 (f67_P fu (!a.1) a.2.1).bind fun r0 =>
 some (r0.1, (r0.2.1, ()))
theorem f44_P_ok (fu : Nat) (a : Bool × (List Int) × Unit) : Le (f44_P fu a) (f44 a) := le (f44_eq a) (
 lx (f67_P_ok fu (!a.1) a.2.1) fun r0 =>
 lr _)
def f49_P (fu : Nat) (p : Int) (a : Int) : Option (Int × Int) :=
 (f73_P fu p).bind fun r0 =>
 bif (r0.2 != (0 : Int)) then
  some ((0 : Int), r0.2)
 else
  (f74_P fu r0.1 a).bind fun r1 =>
  bif (r1 == (0 : Int)) then
   some ((0 : Int), (9 : Int))
  else
   (f75_P fu r0.1 a).bind fun r2 =>
   some (r2, (0 : Int))
theorem f49_P_ok (fu : Nat) (p : Int) (a : Int) : Le (f49_P fu p a) (f49 p a) := le (f49_eq p a) (
 lx (f73_P_ok fu p) fun r0 =>
 lc (lr _) (
 lx (f74_P_ok fu r0.1 a) fun r1 =>
 lc (lr _) (
 lx (f75_P_ok fu r0.1 a) fun r2 =>
 lr _)))
def f50_P (fu : Nat) (p : Int) (a : Ts) (k : Int) (b : Ts) : Option (Ts × Int) :=
 (f76_P fu p ([a, b] : List Ts)).bind fun r0 =>
 bif (r0 != (0 : Int)) then
  some (([] : Ts), r0)
 else
  (f51_P fu p k).bind fun r1 =>
  (f77_P fu p a r1 b).bind fun r2 =>
  some (r2, (0 : Int))
theorem f50_P_ok (fu : Nat) (p : Int) (a : Ts) (k : Int) (b : Ts) : Le (f50_P fu p a k b) (f50 p a k b) := le (f50_eq p a k b) (
 lx (f76_P_ok fu p ([a, b] : List Ts)) fun r0 =>
 lc (lr _) (
 lx (f51_P_ok fu p k) fun r1 =>
 lx (f77_P_ok fu p a r1 b) fun r2 =>
 lr _))
def f57_P (fu : Nat) (a : ByteArray) : Option (Bool) :=
 (f28_P fu a).bind fun r0 =>
 (f89_P fu r0.1).bind fun r1 =>
 bif r1 then
  some true
 else
  (f89_P fu r0.2.1).bind fun r2 =>
  some r2
theorem f57_P_ok (fu : Nat) (a : ByteArray) : Le (f57_P fu a) (f57 a) := le (f57_eq a) (
 lx (f28_P_ok fu a) fun r0 =>
 lx (f89_P_ok fu r0.1) fun r1 =>
 lc (lr _) (
 lx (f89_P_ok fu r0.2.1) fun r2 =>
 lr _))
def f59_P (fu : Nat) (a : ByteArray) (b : ByteArray) : Option (Int) :=
 (f61_P fu a).bind fun r0 =>
 (f61_P fu b).bind fun r1 =>
 bif (!(r0.1 == r1.1)) then
  bif r0.1 then
   some (-1 : Int)
  else
   some (1 : Int)
 else
  bif r0.1 then
   (f92_P fu r1.2 r0.2).bind fun r2 =>
   some r2
  else
   (f92_P fu r0.2 r1.2).bind fun r3 =>
   some r3
theorem f59_P_ok (fu : Nat) (a : ByteArray) (b : ByteArray) : Le (f59_P fu a b) (f59 a b) := le (f59_eq a b) (
 lx (f61_P_ok fu a) fun r0 =>
 lx (f61_P_ok fu b) fun r1 =>
 lc (
 lc (lr _) (lr _)) (
 lc (
 lx (f92_P_ok fu r1.2 r0.2) fun r2 =>
 lr _) (
 lx (f92_P_ok fu r0.2 r1.2) fun r3 =>
 lr _)))
def f60_Ls : Nat → ((Bool) → (List Int) → (Bool) → (List Int) → (Int) → (List Int) → Option (ByteArray)) × ((Bool) → (List Int) → (Bool) → (List Int) → (Int) → (Int) → (List Int) → Option (ByteArray)) × ((Bool) → (Bool) → (Int) → (List Int) → Option (ByteArray))
 | 0 => (fun _ _ _ _ _ _ => none, fun _ _ _ _ _ _ _ => none, fun _ _ _ _ => none)
 | fu + 1 => (fun p x q y i out =>
  bif (decide (i < (x.length : Int))) then
   (f60_Ls fu).2.1 p x q y i (0 : Int) out
  else
   (f60_Ls fu).2.2 p q (0 : Int) out,
  fun p x q y i k out =>
  bif (decide (k < (y.length : Int))) then
   (idx out (W (i + k))).bind fun _ =>
   (out[(W (i + k)).toNat]?).bind fun v0 =>
   (idx x i).bind fun v1 =>
   (idx y k).bind fun v2 =>
   let e3 : Int := (W (v0 + (W (v1 * v2))))
   (idx out (W (i + k))).bind fun _ =>
   (out[(W (i + k)).toNat]?).bind fun v4 =>
   (f60_Ls fu).2.1 p x q y i (W (k + (1 : Int))) (out.set (W (i + k)).toNat e3)
  else
   (f60_Ls fu).1 p x q y (W (i + (1 : Int))) out,
  fun p q i out =>
  bif (decide ((W (i + (1 : Int))) < (out.length : Int))) then
   (idx out (W (i + (1 : Int)))).bind fun _ =>
   (out[(W (i + (1 : Int))).toNat]?).bind fun v0 =>
   (idx out i).bind fun _ =>
   (out[i.toNat]?).bind fun v1 =>
   let e2 : Int := (W (v0 + (W (v1.tdiv (10 : Int)))))
   (idx out (W (i + (1 : Int)))).bind fun _ =>
   (out[(W (i + (1 : Int))).toNat]?).bind fun v3 =>
   let e4 : List Int := (out.set (W (i + (1 : Int))).toNat e2)
   (idx e4 i).bind fun _ =>
   (e4[i.toNat]?).bind fun v5 =>
   (idx e4 i).bind fun _ =>
   (e4[i.toNat]?).bind fun v6 =>
   (f60_Ls fu).2.2 p q (W (i + (1 : Int))) (e4.set i.toNat (v5.tmod (10 : Int)))
  else
   (f62_P fu (!(p == q)) out).bind fun r7 =>
   some r7)
theorem f60_Ls_ok : ∀ fu, (∀ (p : Bool) (x : List Int) (q : Bool) (y : List Int) (i : Int) (out : List Int), Le ((f60_Ls fu).1 p x q y i out) (f60_L0 p x q y i out)) ∧ (∀ (p : Bool) (x : List Int) (q : Bool) (y : List Int) (i : Int) (k : Int) (out : List Int), Le ((f60_Ls fu).2.1 p x q y i k out) (f60_L1 p x q y i k out)) ∧ (∀ (p : Bool) (q : Bool) (i : Int) (out : List Int), Le ((f60_Ls fu).2.2 p q i out) (f60_L2 p q i out))
 | 0 => ⟨(fun _ _ _ _ _ _ => ln _),
  (fun _ _ _ _ _ _ _ => ln _),
  (fun _ _ _ _ => ln _)⟩
 | fu + 1 => by
  have ih := f60_Ls_ok fu
  exact ⟨(fun p x q y i out => le (f60_L0_eq p x q y i out) (
   lc (
   ih.2.1 p x q y i (0 : Int) out) (
   ih.2.2 p q (0 : Int) out))),
  (fun p x q y i k out => le (f60_L1_eq p x q y i k out) (
   lc (
   lb fun _ =>
   lb fun v0 =>
   lb fun v1 =>
   lb fun v2 =>
   let e3 : Int := (W (v0 + (W (v1 * v2))))
   lb fun _ =>
   lb fun v4 =>
   ih.2.1 p x q y i (W (k + (1 : Int))) (out.set (W (i + k)).toNat e3)) (
   ih.1 p x q y (W (i + (1 : Int))) out))),
  (fun p q i out => le (f60_L2_eq p q i out) (
   lc (
   lb fun _ =>
   lb fun v0 =>
   lb fun _ =>
   lb fun v1 =>
   let e2 : Int := (W (v0 + (W (v1.tdiv (10 : Int)))))
   lb fun _ =>
   lb fun v3 =>
   let e4 : List Int := (out.set (W (i + (1 : Int))).toNat e2)
   lb fun _ =>
   lb fun v5 =>
   lb fun _ =>
   lb fun v6 =>
   ih.2.2 p q (W (i + (1 : Int))) (e4.set i.toNat (v5.tmod (10 : Int)))) (
   lx (f62_P_ok fu (!(p == q)) out) fun r7 =>
   lr _)))⟩
def f60_P (fu : Nat) (a : ByteArray) (b : ByteArray) : Option (ByteArray) :=
 (f93_P fu a).bind fun r0 =>
 (f93_P fu b).bind fun r1 =>
 bif r0.2 then
  bif r1.2 then
   (f87_P fu (W (r0.1 * r1.1))).bind fun r2 =>
   some r2
  else
   (f61_P fu a).bind fun r3 =>
   (f61_P fu b).bind fun r4 =>
   let e5 : Int := (W ((r3.2.length : Int) + (r4.2.length : Int)))
   bif (okMake 8 (W (e5 + (1 : Int))) (W (e5 + (1 : Int)))) then
    let e6 : List Int := (List.replicate (W (e5 + (1 : Int))).toNat (0 : Int))
    (f60_Ls fu).1 r3.1 r3.2 r4.1 r4.2 (0 : Int) e6
   else
    none
 else
  (f61_P fu a).bind fun r7 =>
  (f61_P fu b).bind fun r8 =>
  let e9 : Int := (W ((r7.2.length : Int) + (r8.2.length : Int)))
  bif (okMake 8 (W (e9 + (1 : Int))) (W (e9 + (1 : Int)))) then
   let e10 : List Int := (List.replicate (W (e9 + (1 : Int))).toNat (0 : Int))
   (f60_Ls fu).1 r7.1 r7.2 r8.1 r8.2 (0 : Int) e10
  else
   none
theorem f60_P_ok (fu : Nat) (a : ByteArray) (b : ByteArray) : Le (f60_P fu a b) (f60 a b) := le (f60_eq a b) (
 lx (f93_P_ok fu a) fun r0 =>
 lx (f93_P_ok fu b) fun r1 =>
 lc (
 lc (
 lx (f87_P_ok fu (W (r0.1 * r1.1))) fun r2 =>
 lr _) (
 lx (f61_P_ok fu a) fun r3 =>
 lx (f61_P_ok fu b) fun r4 =>
 let e5 : Int := (W ((r3.2.length : Int) + (r4.2.length : Int)))
 lc (
 let e6 : List Int := (List.replicate (W (e5 + (1 : Int))).toNat (0 : Int))
 (f60_Ls_ok fu).1 r3.1 r3.2 r4.1 r4.2 (0 : Int) e6) (lr _))) (
 lx (f61_P_ok fu a) fun r7 =>
 lx (f61_P_ok fu b) fun r8 =>
 let e9 : Int := (W ((r7.2.length : Int) + (r8.2.length : Int)))
 lc (
 let e10 : List Int := (List.replicate (W (e9 + (1 : Int))).toNat (0 : Int))
 (f60_Ls_ok fu).1 r7.1 r7.2 r8.1 r8.2 (0 : Int) e10) (lr _)))
def f64_Ls : Nat → ((List Int) → (Int) → (Int) → (List Int) → (Bool) → (List Int) → (Bool) → (List Int) → (Bool) → (List Int) → Option (Bool × (List Int) × Unit)) × ((Int) → (Int) → (Int) → (List Int) → (Int) → (Int) → (List Int) → (Int) → (Int) → (List Int) → (Bool) → (List Int) → (Bool) → (List Int) → (Bool) → (List Int) → Option (Bool × (List Int) × Unit))
 | 0 => (fun _ _ _ _ _ _ _ _ _ _ => none, fun _ _ _ _ _ _ _ _ _ _ _ _ _ _ _ _ => none)
 | fu + 1 => (fun t t2 t3 out a a2 b b2 t4 t5 =>
  bif (decide (t3 < t2)) then
   (idx t t3).bind fun v0 =>
   (f64_Ls fu).2 t3 v0 (0 : Int) t t2 t3 b2 (b2.length : Int) (0 : Int) out a a2 b b2 t4 t5
  else
   (f67_P fu (!(a == b)) out).bind fun r1 =>
   some (r1.1, (r1.2.1, ())),
  fun i x carry t t2 t3 t4 t5 t6 out a a2 b b2 t7 t8 =>
  bif (decide (t6 < t5)) then
   (idx t4 t6).bind fun v0 =>
   let e1 : Int := (IntKind.wrap .u64 ((IntKind.wrap .u64 x) * (IntKind.wrap .u64 v0)))
   (idx out (W (i + t6))).bind fun _ =>
   (out[(W (i + t6)).toNat]?).bind fun v2 =>
   let e3 : Int := (IntKind.wrap .u64 (e1 + (IntKind.wrap .u64 v2)))
   let e4 : Int := ((IntKind.wrap .u64 (carry + e3)).tmod (1000000000 : Int))
   (idx out (W (i + t6))).bind fun _ =>
   (out[(W (i + t6)).toNat]?).bind fun v5 =>
   let e6 : List Int := (out.set (W (i + t6)).toNat (IntKind.wrap .u32 e4))
   let e7 : Int := (IntKind.wrap .u64 ((IntKind.wrap .u64 (carry + e3)).tdiv (1000000000 : Int)))
   (f64_Ls fu).2 i x e7 t t2 t3 t4 t5 (W (t6 + (1 : Int))) e6 a a2 b b2 t7 t8
  else
   (idx out (W (i + (b2.length : Int)))).bind fun _ =>
   (out[(W (i + (b2.length : Int))).toNat]?).bind fun v8 =>
   let e9 : List Int := (out.set (W (i + (b2.length : Int))).toNat (IntKind.wrap .u32 carry))
   (f64_Ls fu).1 t t2 (W (t3 + (1 : Int))) e9 a a2 b b2 t7 t8)
theorem f64_Ls_ok : ∀ fu, (∀ (t : List Int) (t2 : Int) (t3 : Int) (out : List Int) (a : Bool) (a2 : List Int) (b : Bool) (b2 : List Int) (t4 : Bool) (t5 : List Int), Le ((f64_Ls fu).1 t t2 t3 out a a2 b b2 t4 t5) (f64_L0 t t2 t3 out a a2 b b2 t4 t5)) ∧ (∀ (i : Int) (x : Int) (carry : Int) (t : List Int) (t2 : Int) (t3 : Int) (t4 : List Int) (t5 : Int) (t6 : Int) (out : List Int) (a : Bool) (a2 : List Int) (b : Bool) (b2 : List Int) (t7 : Bool) (t8 : List Int), Le ((f64_Ls fu).2 i x carry t t2 t3 t4 t5 t6 out a a2 b b2 t7 t8) (f64_L1 i x carry t t2 t3 t4 t5 t6 out a a2 b b2 t7 t8))
 | 0 => ⟨(fun _ _ _ _ _ _ _ _ _ _ => ln _),
  (fun _ _ _ _ _ _ _ _ _ _ _ _ _ _ _ _ => ln _)⟩
 | fu + 1 => by
  have ih := f64_Ls_ok fu
  exact ⟨(fun t t2 t3 out a a2 b b2 t4 t5 => le (f64_L0_eq t t2 t3 out a a2 b b2 t4 t5) (
   lc (
   lb fun v0 =>
   ih.2 t3 v0 (0 : Int) t t2 t3 b2 (b2.length : Int) (0 : Int) out a a2 b b2 t4 t5) (
   lx (f67_P_ok fu (!(a == b)) out) fun r1 =>
   lr _))),
  (fun i x carry t t2 t3 t4 t5 t6 out a a2 b b2 t7 t8 => le (f64_L1_eq i x carry t t2 t3 t4 t5 t6 out a a2 b b2 t7 t8) (
   lc (
   lb fun v0 =>
   let e1 : Int := (IntKind.wrap .u64 ((IntKind.wrap .u64 x) * (IntKind.wrap .u64 v0)))
   lb fun _ =>
   lb fun v2 =>
   let e3 : Int := (IntKind.wrap .u64 (e1 + (IntKind.wrap .u64 v2)))
   let e4 : Int := ((IntKind.wrap .u64 (carry + e3)).tmod (1000000000 : Int))
   lb fun _ =>
   lb fun v5 =>
   let e6 : List Int := (out.set (W (i + t6)).toNat (IntKind.wrap .u32 e4))
   let e7 : Int := (IntKind.wrap .u64 ((IntKind.wrap .u64 (carry + e3)).tdiv (1000000000 : Int)))
   ih.2 i x e7 t t2 t3 t4 t5 (W (t6 + (1 : Int))) e6 a a2 b b2 t7 t8) (
   lb fun _ =>
   lb fun v8 =>
   let e9 : List Int := (out.set (W (i + (b2.length : Int))).toNat (IntKind.wrap .u32 carry))
   ih.1 t t2 (W (t3 + (1 : Int))) e9 a a2 b b2 t7 t8)))⟩
def f64_P (fu : Nat) (a : Bool × (List Int) × Unit) (b : Bool × (List Int) × Unit) : Option (Bool × (List Int) × Unit) :=
 let e0 : Int := (W ((a.2.1.length : Int) + (b.2.1.length : Int)))
 bif (okMake 4 e0 e0) then
  (f64_Ls fu).1 a.2.1 (a.2.1.length : Int) (0 : Int) (List.replicate e0.toNat (0 : Int)) a.1 a.2.1 b.1 b.2.1 false ([] : List Int)
 else
  none
theorem f64_P_ok (fu : Nat) (a : Bool × (List Int) × Unit) (b : Bool × (List Int) × Unit) : Le (f64_P fu a b) (f64 a b) := le (f64_eq a b) (
 let e0 : Int := (W ((a.2.1.length : Int) + (b.2.1.length : Int)))
 lc (
 (f64_Ls_ok fu).1 a.2.1 (a.2.1.length : Int) (0 : Int) (List.replicate e0.toNat (0 : Int)) a.1 a.2.1 b.1 b.2.1 false ([] : List Int)) (lr _))
def f66_P (fu : Nat) (s : ByteArray) (prefix0 : ByteArray) : Option (ByteArray × Bool) :=
 (f97_P fu s prefix0).bind fun r0 =>
 some (r0.1, r0.2)
theorem f66_P_ok (fu : Nat) (s : ByteArray) (prefix0 : ByteArray) : Le (f66_P fu s prefix0) (f66 s prefix0) := le (f66_eq s prefix0) (
 lx (f97_P_ok fu s prefix0) fun r0 =>
 lr _)
def f71_P (fu : Nat) (a : List Int) (b : List Int) : Option ((List Int) × List Int) :=
 (f68_P fu a b).bind fun r0 =>
 bif (decide (r0 < (0 : Int))) then
  some (([] : List Int), a)
 else
  bif ((b.length : Int) == (1 : Int)) then
   (idx b (0 : Int)).bind fun v1 =>
   (f98_P fu a v1).bind fun r2 =>
   (f72_P fu ([r2.2] : List Int)).bind fun r3 =>
   some (r2.1, r3)
  else
   (f99_P fu a b).bind fun r4 =>
   some (r4.1, r4.2)
theorem f71_P_ok (fu : Nat) (a : List Int) (b : List Int) : Le (f71_P fu a b) (f71 a b) := le (f71_eq a b) (
 lx (f68_P_ok fu a b) fun r0 =>
 lc (lr _) (
 lc (
 lb fun v1 =>
 lx (f98_P_ok fu a v1) fun r2 =>
 lx (f72_P_ok fu ([r2.2] : List Int)) fun r3 =>
 lr _) (
 lx (f99_P_ok fu a b) fun r4 =>
 lr _)))
def f80_Ls : Nat → ((Nat) → (Int) → (Int) → (Int) → (Int) → (Int) → (List Os) → Option ((Unit) × (List Os)))
 | 0 => (fun _ _ _ _ _ _ _ => none)
 | fu + 1 => (fun data a length modulus idx0 random hp3 =>
  let e0 : Int := (W ((W (length.tdiv (4 : Int))) * (2 : Int)))
  let e1 : Int := (W ((W (a + e0)) + (1 : Int)))
  bif (decide (idx0 ≤ e1)) then
   none
  else
   some ((), hp3))
theorem f80_Ls_ok : ∀ fu, (∀ (data : Nat) (a : Int) (length : Int) (modulus : Int) (idx0 : Int) (random : Int) (hp3 : List Os), Le ((f80_Ls fu) data a length modulus idx0 random hp3) (f80_L0 data a length modulus idx0 random hp3))
 | 0 => fun _ _ _ _ _ _ _ => ln _
 | fu + 1 => by
  have ih := f80_Ls_ok fu
  exact fun data a length modulus idx0 random hp3 => le (f80_L0_eq data a length modulus idx0 random hp3) (
   let e0 : Int := (W ((W (length.tdiv (4 : Int))) * (2 : Int)))
   let e1 : Int := (W ((W (a + e0)) + (1 : Int)))
   lc (lr _) (lr _))
def f80_P (fu : Nat) (data : Nat) (a : Int) (b : Int) (hp3 : List Os) : Option ((Unit) × (List Os)) :=
 bif (decide ((W (b - a)) ≥ (8 : Int))) then
  (f103_P fu (W (b - a))).bind fun r0 =>
  let e1 : Int := (W ((W (b - a)).tdiv (4 : Int)))
  let e2 : Int := (W (a + (W (e1 * (2 : Int)))))
  (f80_Ls fu) data a (W (b - a)) r0 (W (e2 - (1 : Int))) (IntKind.wrap .u64 (W (b - a))) hp3
 else
  some ((), hp3)
theorem f80_P_ok (fu : Nat) (data : Nat) (a : Int) (b : Int) (hp3 : List Os) : Le (f80_P fu data a b hp3) (f80 data a b hp3) := le (f80_eq data a b hp3) (
 lc (
 lx (f103_P_ok fu (W (b - a))) fun r0 =>
 let e1 : Int := (W ((W (b - a)).tdiv (4 : Int)))
 let e2 : Int := (W (a + (W (e1 * (2 : Int)))))
 (f80_Ls_ok fu) data a (W (b - a)) r0 (W (e2 - (1 : Int))) (IntKind.wrap .u64 (W (b - a))) hp3) (lr _))
def f95_P (fu : Nat) (a : (Bool × (List Int) × Unit) × (Bool × (List Int) × Unit) × Unit) : Option (Bool) :=
 (f107_P fu (a.1.1, (a.1.2.1, ()))).bind fun r0 =>
 bif r0 then
  some true
 else
  (f107_P fu (a.2.1.1, (a.2.1.2.1, ()))).bind fun r1 =>
  some r1
theorem f95_P_ok (fu : Nat) (a : (Bool × (List Int) × Unit) × (Bool × (List Int) × Unit) × Unit) : Le (f95_P fu a) (f95 a) := le (f95_eq a) (
 lx (f107_P_ok fu (a.1.1, (a.1.2.1, ()))) fun r0 =>
 lc (lr _) (
 lx (f107_P_ok fu (a.2.1.1, (a.2.1.2.1, ()))) fun r1 =>
 lr _))
def f113_P (fu : Nat) (a : ByteArray) (b : ByteArray) : Option (ByteArray) :=
 (f29_P fu b).bind fun r0 =>
 (f114_P fu a r0).bind fun r1 =>
 some r1
theorem f113_P_ok (fu : Nat) (a : ByteArray) (b : ByteArray) : Le (f113_P fu a b) (f113 a b) := le (f113_eq a b) (
 lx (f29_P_ok fu b) fun r0 =>
 lx (f114_P_ok fu a r0) fun r1 =>
 lr _)
def f123_Ls : Nat → ((Nat) → (Int) → (Int) → (List Os) → (List Int) → (Bool) → (Int) → Cs → (Int) → (Int) → (List Os) → Option ((Nat × Int × Int × Unit) × (List Os))) × ((Nat) → (Nat) → (List Os) → (List Int) → (Bool) → (Int) → Cs → (Int) → (Int) → (List Os) → (List (Int × Unit)) → Option ((Nat × Int × Int × Unit) × (List Os))) × ((Nat) → (Int) → (Int) → (List Int) → (Int) → (Int) → (List Os) → Option ((Nat × Int × Int × Unit) × (List Os))) × ((Int) → Ts → (Int) → (Bool) → (Nat) → (List Os) → (List Int) → (Bool) → (Int) → Cs → (Int) → (Int) → (List Os) → (List (Int × Unit)) → Option ((Nat × Int × Int × Unit) × (List Os)))
 | 0 => (fun _ _ _ _ _ _ _ _ _ _ _ => none, fun _ _ _ _ _ _ _ _ _ _ _ => none, fun _ _ _ _ _ _ _ => none, fun _ _ _ _ _ _ _ _ _ _ _ _ _ _ => none)
 | fu + 1 => (fun out t t2 row row2 e c c2 w w2 hp3 =>
  bif (decide (t2 < t)) then
   (idx row2 t2).bind fun _ =>
   (row2[t2.toNat]?).bind fun v0 =>
   (f123_Ls fu).1 out t (W (t2 + (1 : Int))) row (row2.set t2.toNat (-2 : Int)) e c c2 w w2 hp3
  else
   (f117_P fu (c, (c2, ()))).bind fun r1 =>
   (f118_P fu (r1.1, (r1.2.1, ()))).bind fun r2 =>
   (f123_Ls fu).2.1 out out row row2 e c c2 w w2 hp3 r2,
  fun out out2 row row2 e c c2 w w2 hp3 rest =>
  match rest with
  | [] => (f123_Ls fu).2.2.1 out (row2.length : Int) (0 : Int) row2 w w2 hp3
  | x0 :: x0s =>
   bif e then
    (idx row x0.1).bind fun _ =>
    (row[x0.1.toNat]?).bind fun v1 =>
    bif (!(Option.isNone v1)) then
     (f123_Ls fu).2.1 out2 out2 row row2 e c c2 w (W (w2 + (1 : Int))) hp3 x0s
    else
     (idx c2 x0.1).bind fun v2 =>
     (f47_P fu v2.2.2.1).bind fun r3 =>
     (f48_P fu r3).bind fun r4 =>
     (f123_Ls fu).2.2.2 x0.1 r3 r4.1 r4.2 out2 row row2 e c c2 w w2 hp3 x0s
   else
    (idx c2 x0.1).bind fun v5 =>
    (f47_P fu v5.2.2.1).bind fun r6 =>
    (f48_P fu r6).bind fun r7 =>
    (f123_Ls fu).2.2.2 x0.1 r6 r7.1 r7.2 out2 row row2 e c c2 w w2 hp3 x0s,
  fun out t t2 t3 w w2 hp3 =>
  bif (decide (t2 < t)) then
   (idx t3 t2).bind fun _ =>
   (t3[t2.toNat]?).bind fun v0 =>
   bif (decide (v0 > (-2 : Int))) then
    (hget hp3 out).bind fun v1 =>
    bif (okApp 16 2 v1.length 1) then
     let e2 : List Os := ((hkill hp3 out) ++ [some (v1 ++ ([(t2, (v0, ()))] : Ts))])
     (f123_Ls fu).2.2.1 ((hkill hp3 out).length + 1 : Nat) t (W (t2 + (1 : Int))) t3 w w2 e2
    else
     none
   else
    (f123_Ls fu).2.2.1 out t (W (t2 + (1 : Int))) t3 w w2 hp3
  else
   some ((out, (w, (w2, ()))), hp3),
  fun j x low is0 out row row2 e c c2 w w2 hp3 rest =>
  bif is0 then
   (idx row low).bind fun _ =>
   (row[low.toNat]?).bind fun v0 =>
   bif (!(Option.isNone v0)) then
    (idx row low).bind fun _ =>
    (row[low.toNat]?).bind fun v1 =>
    let e2 : Int := (W (((lst v1).length : Int) - (1 : Int)))
    (idx (lst v1) e2).bind fun v3 =>
    (f49_P fu c v3.2.1).bind fun r4 =>
    let e5 : Int := (W ((x.length : Int) - (1 : Int)))
    (idx x e5).bind fun v6 =>
    let e7 : Int := (W ((W (0 - v6.2.1)) * r4.1))
    (f51_P fu c e7).bind fun r8 =>
    (f50_P fu c x r8 (lst v1)).bind fun r9 =>
    (f48_P fu r9.1).bind fun r10 =>
    (f123_Ls fu).2.2.2 j r9.1 r10.1 r10.2 out row row2 e c c2 (W (w + (1 : Int))) w2 hp3 rest
   else
    bif is0 then
     (idx row low).bind fun _ =>
     (row[low.toNat]?).bind fun v11 =>
     (snap1 [] (.nsl (.st yT)) [⟨.slice (.st yT), x⟩]).bind fun v12 =>
     (idx row2 low).bind fun _ =>
     (row2[low.toNat]?).bind fun v13 =>
     (f123_Ls fu).2.1 out out (row.set low.toNat v12) (row2.set low.toNat j) e c c2 w w2 hp3 rest
    else
     (idx row2 j).bind fun _ =>
     (row2[j.toNat]?).bind fun v14 =>
     bif (v14 == (-2 : Int)) then
      (idx row2 j).bind fun _ =>
      (row2[j.toNat]?).bind fun v15 =>
      (f123_Ls fu).2.1 out out row (row2.set j.toNat (-1 : Int)) e c c2 w w2 hp3 rest
     else
      (f123_Ls fu).2.1 out out row row2 e c c2 w w2 hp3 rest
  else
   bif is0 then
    (idx row low).bind fun _ =>
    (row[low.toNat]?).bind fun v16 =>
    (snap1 [] (.nsl (.st yT)) [⟨.slice (.st yT), x⟩]).bind fun v17 =>
    (idx row2 low).bind fun _ =>
    (row2[low.toNat]?).bind fun v18 =>
    (f123_Ls fu).2.1 out out (row.set low.toNat v17) (row2.set low.toNat j) e c c2 w w2 hp3 rest
   else
    (idx row2 j).bind fun _ =>
    (row2[j.toNat]?).bind fun v19 =>
    bif (v19 == (-2 : Int)) then
     (idx row2 j).bind fun _ =>
     (row2[j.toNat]?).bind fun v20 =>
     (f123_Ls fu).2.1 out out row (row2.set j.toNat (-1 : Int)) e c c2 w w2 hp3 rest
    else
     (f123_Ls fu).2.1 out out row row2 e c c2 w w2 hp3 rest)
theorem f123_Ls_ok : ∀ fu, (∀ (out : Nat) (t : Int) (t2 : Int) (row : List Os) (row2 : List Int) (e : Bool) (c : Int) (c2 : List Cl) (w : Int) (w2 : Int) (hp3 : List Os), Le ((f123_Ls fu).1 out t t2 row row2 e c c2 w w2 hp3) (f123_L0 out t t2 row row2 e c c2 w w2 hp3)) ∧ (∀ (out : Nat) (out2 : Nat) (row : List Os) (row2 : List Int) (e : Bool) (c : Int) (c2 : List Cl) (w : Int) (w2 : Int) (hp3 : List Os) (rest : List (Int × Unit)), Le ((f123_Ls fu).2.1 out out2 row row2 e c c2 w w2 hp3 rest) (f123_L1 out out2 row row2 e c c2 w w2 hp3 rest)) ∧ (∀ (out : Nat) (t : Int) (t2 : Int) (t3 : List Int) (w : Int) (w2 : Int) (hp3 : List Os), Le ((f123_Ls fu).2.2.1 out t t2 t3 w w2 hp3) (f123_L3 out t t2 t3 w w2 hp3)) ∧ (∀ (j : Int) (x : Ts) (low : Int) (is0 : Bool) (out : Nat) (row : List Os) (row2 : List Int) (e : Bool) (c : Int) (c2 : List Cl) (w : Int) (w2 : Int) (hp3 : List Os) (rest : List (Int × Unit)), Le ((f123_Ls fu).2.2.2 j x low is0 out row row2 e c c2 w w2 hp3 rest) (f123_L2 j x low is0 out row row2 e c c2 w w2 hp3 rest))
 | 0 => ⟨(fun _ _ _ _ _ _ _ _ _ _ _ => ln _),
  (fun _ _ _ _ _ _ _ _ _ _ _ => ln _),
  (fun _ _ _ _ _ _ _ => ln _),
  (fun _ _ _ _ _ _ _ _ _ _ _ _ _ _ => ln _)⟩
 | fu + 1 => by
  have ih := f123_Ls_ok fu
  exact ⟨(fun out t t2 row row2 e c c2 w w2 hp3 => le (f123_L0_eq out t t2 row row2 e c c2 w w2 hp3) (
   lc (
   lb fun _ =>
   lb fun v0 =>
   ih.1 out t (W (t2 + (1 : Int))) row (row2.set t2.toNat (-2 : Int)) e c c2 w w2 hp3) (
   lx (f117_P_ok fu (c, (c2, ()))) fun r1 =>
   lx (f118_P_ok fu (r1.1, (r1.2.1, ()))) fun r2 =>
   ih.2.1 out out row row2 e c c2 w w2 hp3 r2))),
  (fun out out2 row row2 e c c2 w w2 hp3 rest => le (f123_L1_eq out out2 row row2 e c c2 w w2 hp3 rest) (
   (by
    cases rest with
    | nil =>
     exact ih.2.2.1 out (row2.length : Int) (0 : Int) row2 w w2 hp3
    | cons x0 x0s =>
     exact lc (
      lb fun _ =>
      lb fun v1 =>
      lc (
      ih.2.1 out2 out2 row row2 e c c2 w (W (w2 + (1 : Int))) hp3 x0s) (
      lb fun v2 =>
      lx (f47_P_ok fu v2.2.2.1) fun r3 =>
      lx (f48_P_ok fu r3) fun r4 =>
      ih.2.2.2 x0.1 r3 r4.1 r4.2 out2 row row2 e c c2 w w2 hp3 x0s)) (
      lb fun v5 =>
      lx (f47_P_ok fu v5.2.2.1) fun r6 =>
      lx (f48_P_ok fu r6) fun r7 =>
      ih.2.2.2 x0.1 r6 r7.1 r7.2 out2 row row2 e c c2 w w2 hp3 x0s)))),
  (fun out t t2 t3 w w2 hp3 => le (f123_L3_eq out t t2 t3 w w2 hp3) (
   lc (
   lb fun _ =>
   lb fun v0 =>
   lc (
   lb fun v1 =>
   lc (
   let e2 : List Os := ((hkill hp3 out) ++ [some (v1 ++ ([(t2, (v0, ()))] : Ts))])
   ih.2.2.1 ((hkill hp3 out).length + 1 : Nat) t (W (t2 + (1 : Int))) t3 w w2 e2) (lr _)) (
   ih.2.2.1 out t (W (t2 + (1 : Int))) t3 w w2 hp3)) (lr _))),
  (fun j x low is0 out row row2 e c c2 w w2 hp3 rest => le (f123_L2_eq j x low is0 out row row2 e c c2 w w2 hp3 rest) (
   lc (
   lb fun _ =>
   lb fun v0 =>
   lc (
   lb fun _ =>
   lb fun v1 =>
   let e2 : Int := (W (((lst v1).length : Int) - (1 : Int)))
   lb fun v3 =>
   lx (f49_P_ok fu c v3.2.1) fun r4 =>
   let e5 : Int := (W ((x.length : Int) - (1 : Int)))
   lb fun v6 =>
   let e7 : Int := (W ((W (0 - v6.2.1)) * r4.1))
   lx (f51_P_ok fu c e7) fun r8 =>
   lx (f50_P_ok fu c x r8 (lst v1)) fun r9 =>
   lx (f48_P_ok fu r9.1) fun r10 =>
   ih.2.2.2 j r9.1 r10.1 r10.2 out row row2 e c c2 (W (w + (1 : Int))) w2 hp3 rest) (
   lc (
   lb fun _ =>
   lb fun v11 =>
   lb fun v12 =>
   lb fun _ =>
   lb fun v13 =>
   ih.2.1 out out (row.set low.toNat v12) (row2.set low.toNat j) e c c2 w w2 hp3 rest) (
   lb fun _ =>
   lb fun v14 =>
   lc (
   lb fun _ =>
   lb fun v15 =>
   ih.2.1 out out row (row2.set j.toNat (-1 : Int)) e c c2 w w2 hp3 rest) (
   ih.2.1 out out row row2 e c c2 w w2 hp3 rest)))) (
   lc (
   lb fun _ =>
   lb fun v16 =>
   lb fun v17 =>
   lb fun _ =>
   lb fun v18 =>
   ih.2.1 out out (row.set low.toNat v17) (row2.set low.toNat j) e c c2 w w2 hp3 rest) (
   lb fun _ =>
   lb fun v19 =>
   lc (
   lb fun _ =>
   lb fun v20 =>
   ih.2.1 out out row (row2.set j.toNat (-1 : Int)) e c c2 w w2 hp3 rest) (
   ih.2.1 out out row row2 e c c2 w w2 hp3 rest)))))⟩
def f123_P (fu : Nat) (c : Int × Cs × Unit) (hp3 : List Os) : Option ((Nat × Int × Int × Unit) × (List Os)) :=
 bif (okMake 24 (c.2.1.length : Int) (c.2.1.length : Int)) then
  let e0 : List Os := (List.replicate (c.2.1.length : Int).toNat (none : Option Ts))
  bif (okMake 8 (c.2.1.length : Int) (c.2.1.length : Int)) then
   let e1 : List Int := (List.replicate (c.2.1.length : Int).toNat (0 : Int))
   (f123_Ls fu).1 (0 : Nat) (e1.length : Int) (0 : Int) e0 e1 false c.1 c.2.1 (0 : Int) (0 : Int) hp3
  else
   none
 else
  none
theorem f123_P_ok (fu : Nat) (c : Int × Cs × Unit) (hp3 : List Os) : Le (f123_P fu c hp3) (f123 c hp3) := le (f123_eq c hp3) (
 lc (
 let e0 : List Os := (List.replicate (c.2.1.length : Int).toNat (none : Option Ts))
 lc (
 let e1 : List Int := (List.replicate (c.2.1.length : Int).toNat (0 : Int))
 (f123_Ls_ok fu).1 (0 : Nat) (e1.length : Int) (0 : Int) e0 e1 false c.1 c.2.1 (0 : Int) (0 : Int) hp3) (lr _)) (lr _))
def f124_Ls : Nat → ((Nat) → (Int) → (Int) → (List Os) → (List Int) → (Bool) → (Int) → Cs → (Int) → (Int) → (List Os) → Option ((Nat × Int × Int × Unit) × (List Os))) × ((Nat) → (Nat) → (List Os) → (List Int) → (Bool) → (Int) → Cs → (Int) → (Int) → (List Os) → (List (Int × Unit)) → Option ((Nat × Int × Int × Unit) × (List Os))) × ((Nat) → (Int) → (Int) → (List Int) → (Int) → (Int) → (List Os) → Option ((Nat × Int × Int × Unit) × (List Os))) × ((Int) → Ts → (Int) → (Bool) → (Nat) → (List Os) → (List Int) → (Bool) → (Int) → Cs → (Int) → (Int) → (List Os) → (List (Int × Unit)) → Option ((Nat × Int × Int × Unit) × (List Os)))
 | 0 => (fun _ _ _ _ _ _ _ _ _ _ _ => none, fun _ _ _ _ _ _ _ _ _ _ _ => none, fun _ _ _ _ _ _ _ => none, fun _ _ _ _ _ _ _ _ _ _ _ _ _ _ => none)
 | fu + 1 => (fun out t t2 row row2 e c c2 w w2 hp3 =>
  bif (decide (t2 < t)) then
   (idx row2 t2).bind fun _ =>
   (row2[t2.toNat]?).bind fun v0 =>
   (f124_Ls fu).1 out t (W (t2 + (1 : Int))) row (row2.set t2.toNat (-2 : Int)) e c c2 w w2 hp3
  else
   (f119_P fu (c, (c2, ()))).bind fun r1 =>
   (f120_P fu (r1.1, (r1.2.1, ()))).bind fun r2 =>
   (f124_Ls fu).2.1 out out row row2 e c c2 w w2 hp3 r2,
  fun out out2 row row2 e c c2 w w2 hp3 rest =>
  match rest with
  | [] => (f124_Ls fu).2.2.1 out (row2.length : Int) (0 : Int) row2 w w2 hp3
  | x0 :: x0s =>
   bif e then
    (idx row x0.1).bind fun _ =>
    (row[x0.1.toNat]?).bind fun v1 =>
    bif (!(Option.isNone v1)) then
     (f124_Ls fu).2.1 out2 out2 row row2 e c c2 w (W (w2 + (1 : Int))) hp3 x0s
    else
     (idx c2 x0.1).bind fun v2 =>
     (f47_P fu v2.2.2.1).bind fun r3 =>
     (f48_P fu r3).bind fun r4 =>
     (f124_Ls fu).2.2.2 x0.1 r3 r4.1 r4.2 out2 row row2 e c c2 w w2 hp3 x0s
   else
    (idx c2 x0.1).bind fun v5 =>
    (f47_P fu v5.2.2.1).bind fun r6 =>
    (f48_P fu r6).bind fun r7 =>
    (f124_Ls fu).2.2.2 x0.1 r6 r7.1 r7.2 out2 row row2 e c c2 w w2 hp3 x0s,
  fun out t t2 t3 w w2 hp3 =>
  bif (decide (t2 < t)) then
   (idx t3 t2).bind fun _ =>
   (t3[t2.toNat]?).bind fun v0 =>
   bif (decide (v0 > (-2 : Int))) then
    (hget hp3 out).bind fun v1 =>
    bif (okApp 16 2 v1.length 1) then
     let e2 : List Os := ((hkill hp3 out) ++ [some (v1 ++ ([(t2, (v0, ()))] : Ts))])
     (f124_Ls fu).2.2.1 ((hkill hp3 out).length + 1 : Nat) t (W (t2 + (1 : Int))) t3 w w2 e2
    else
     none
   else
    (f124_Ls fu).2.2.1 out t (W (t2 + (1 : Int))) t3 w w2 hp3
  else
   some ((out, (w, (w2, ()))), hp3),
  fun j x low is0 out row row2 e c c2 w w2 hp3 rest =>
  bif is0 then
   (idx row low).bind fun _ =>
   (row[low.toNat]?).bind fun v0 =>
   bif (!(Option.isNone v0)) then
    (idx row low).bind fun _ =>
    (row[low.toNat]?).bind fun v1 =>
    let e2 : Int := (W (((lst v1).length : Int) - (1 : Int)))
    (idx (lst v1) e2).bind fun v3 =>
    (f49_P fu c v3.2.1).bind fun r4 =>
    let e5 : Int := (W ((x.length : Int) - (1 : Int)))
    (idx x e5).bind fun v6 =>
    let e7 : Int := (W ((W (0 - v6.2.1)) * r4.1))
    (f51_P fu c e7).bind fun r8 =>
    (f50_P fu c x r8 (lst v1)).bind fun r9 =>
    (f48_P fu r9.1).bind fun r10 =>
    (f124_Ls fu).2.2.2 j r9.1 r10.1 r10.2 out row row2 e c c2 (W (w + (1 : Int))) w2 hp3 rest
   else
    bif is0 then
     (idx row low).bind fun _ =>
     (row[low.toNat]?).bind fun v11 =>
     (snap1 [] (.nsl (.st yT)) [⟨.slice (.st yT), x⟩]).bind fun v12 =>
     (idx row2 low).bind fun _ =>
     (row2[low.toNat]?).bind fun v13 =>
     (f124_Ls fu).2.1 out out (row.set low.toNat v12) (row2.set low.toNat j) e c c2 w w2 hp3 rest
    else
     (idx row2 j).bind fun _ =>
     (row2[j.toNat]?).bind fun v14 =>
     bif (v14 == (-2 : Int)) then
      (idx row2 j).bind fun _ =>
      (row2[j.toNat]?).bind fun v15 =>
      (f124_Ls fu).2.1 out out row (row2.set j.toNat (-1 : Int)) e c c2 w w2 hp3 rest
     else
      (f124_Ls fu).2.1 out out row row2 e c c2 w w2 hp3 rest
  else
   bif is0 then
    (idx row low).bind fun _ =>
    (row[low.toNat]?).bind fun v16 =>
    (snap1 [] (.nsl (.st yT)) [⟨.slice (.st yT), x⟩]).bind fun v17 =>
    (idx row2 low).bind fun _ =>
    (row2[low.toNat]?).bind fun v18 =>
    (f124_Ls fu).2.1 out out (row.set low.toNat v17) (row2.set low.toNat j) e c c2 w w2 hp3 rest
   else
    (idx row2 j).bind fun _ =>
    (row2[j.toNat]?).bind fun v19 =>
    bif (v19 == (-2 : Int)) then
     (idx row2 j).bind fun _ =>
     (row2[j.toNat]?).bind fun v20 =>
     (f124_Ls fu).2.1 out out row (row2.set j.toNat (-1 : Int)) e c c2 w w2 hp3 rest
    else
     (f124_Ls fu).2.1 out out row row2 e c c2 w w2 hp3 rest)
theorem f124_Ls_ok : ∀ fu, (∀ (out : Nat) (t : Int) (t2 : Int) (row : List Os) (row2 : List Int) (e : Bool) (c : Int) (c2 : List Cl) (w : Int) (w2 : Int) (hp3 : List Os), Le ((f124_Ls fu).1 out t t2 row row2 e c c2 w w2 hp3) (f124_L0 out t t2 row row2 e c c2 w w2 hp3)) ∧ (∀ (out : Nat) (out2 : Nat) (row : List Os) (row2 : List Int) (e : Bool) (c : Int) (c2 : List Cl) (w : Int) (w2 : Int) (hp3 : List Os) (rest : List (Int × Unit)), Le ((f124_Ls fu).2.1 out out2 row row2 e c c2 w w2 hp3 rest) (f124_L1 out out2 row row2 e c c2 w w2 hp3 rest)) ∧ (∀ (out : Nat) (t : Int) (t2 : Int) (t3 : List Int) (w : Int) (w2 : Int) (hp3 : List Os), Le ((f124_Ls fu).2.2.1 out t t2 t3 w w2 hp3) (f124_L3 out t t2 t3 w w2 hp3)) ∧ (∀ (j : Int) (x : Ts) (low : Int) (is0 : Bool) (out : Nat) (row : List Os) (row2 : List Int) (e : Bool) (c : Int) (c2 : List Cl) (w : Int) (w2 : Int) (hp3 : List Os) (rest : List (Int × Unit)), Le ((f124_Ls fu).2.2.2 j x low is0 out row row2 e c c2 w w2 hp3 rest) (f124_L2 j x low is0 out row row2 e c c2 w w2 hp3 rest))
 | 0 => ⟨(fun _ _ _ _ _ _ _ _ _ _ _ => ln _),
  (fun _ _ _ _ _ _ _ _ _ _ _ => ln _),
  (fun _ _ _ _ _ _ _ => ln _),
  (fun _ _ _ _ _ _ _ _ _ _ _ _ _ _ => ln _)⟩
 | fu + 1 => by
  have ih := f124_Ls_ok fu
  exact ⟨(fun out t t2 row row2 e c c2 w w2 hp3 => le (f124_L0_eq out t t2 row row2 e c c2 w w2 hp3) (
   lc (
   lb fun _ =>
   lb fun v0 =>
   ih.1 out t (W (t2 + (1 : Int))) row (row2.set t2.toNat (-2 : Int)) e c c2 w w2 hp3) (
   lx (f119_P_ok fu (c, (c2, ()))) fun r1 =>
   lx (f120_P_ok fu (r1.1, (r1.2.1, ()))) fun r2 =>
   ih.2.1 out out row row2 e c c2 w w2 hp3 r2))),
  (fun out out2 row row2 e c c2 w w2 hp3 rest => le (f124_L1_eq out out2 row row2 e c c2 w w2 hp3 rest) (
   (by
    cases rest with
    | nil =>
     exact ih.2.2.1 out (row2.length : Int) (0 : Int) row2 w w2 hp3
    | cons x0 x0s =>
     exact lc (
      lb fun _ =>
      lb fun v1 =>
      lc (
      ih.2.1 out2 out2 row row2 e c c2 w (W (w2 + (1 : Int))) hp3 x0s) (
      lb fun v2 =>
      lx (f47_P_ok fu v2.2.2.1) fun r3 =>
      lx (f48_P_ok fu r3) fun r4 =>
      ih.2.2.2 x0.1 r3 r4.1 r4.2 out2 row row2 e c c2 w w2 hp3 x0s)) (
      lb fun v5 =>
      lx (f47_P_ok fu v5.2.2.1) fun r6 =>
      lx (f48_P_ok fu r6) fun r7 =>
      ih.2.2.2 x0.1 r6 r7.1 r7.2 out2 row row2 e c c2 w w2 hp3 x0s)))),
  (fun out t t2 t3 w w2 hp3 => le (f124_L3_eq out t t2 t3 w w2 hp3) (
   lc (
   lb fun _ =>
   lb fun v0 =>
   lc (
   lb fun v1 =>
   lc (
   let e2 : List Os := ((hkill hp3 out) ++ [some (v1 ++ ([(t2, (v0, ()))] : Ts))])
   ih.2.2.1 ((hkill hp3 out).length + 1 : Nat) t (W (t2 + (1 : Int))) t3 w w2 e2) (lr _)) (
   ih.2.2.1 out t (W (t2 + (1 : Int))) t3 w w2 hp3)) (lr _))),
  (fun j x low is0 out row row2 e c c2 w w2 hp3 rest => le (f124_L2_eq j x low is0 out row row2 e c c2 w w2 hp3 rest) (
   lc (
   lb fun _ =>
   lb fun v0 =>
   lc (
   lb fun _ =>
   lb fun v1 =>
   let e2 : Int := (W (((lst v1).length : Int) - (1 : Int)))
   lb fun v3 =>
   lx (f49_P_ok fu c v3.2.1) fun r4 =>
   let e5 : Int := (W ((x.length : Int) - (1 : Int)))
   lb fun v6 =>
   let e7 : Int := (W ((W (0 - v6.2.1)) * r4.1))
   lx (f51_P_ok fu c e7) fun r8 =>
   lx (f50_P_ok fu c x r8 (lst v1)) fun r9 =>
   lx (f48_P_ok fu r9.1) fun r10 =>
   ih.2.2.2 j r9.1 r10.1 r10.2 out row row2 e c c2 (W (w + (1 : Int))) w2 hp3 rest) (
   lc (
   lb fun _ =>
   lb fun v11 =>
   lb fun v12 =>
   lb fun _ =>
   lb fun v13 =>
   ih.2.1 out out (row.set low.toNat v12) (row2.set low.toNat j) e c c2 w w2 hp3 rest) (
   lb fun _ =>
   lb fun v14 =>
   lc (
   lb fun _ =>
   lb fun v15 =>
   ih.2.1 out out row (row2.set j.toNat (-1 : Int)) e c c2 w w2 hp3 rest) (
   ih.2.1 out out row row2 e c c2 w w2 hp3 rest)))) (
   lc (
   lb fun _ =>
   lb fun v16 =>
   lb fun v17 =>
   lb fun _ =>
   lb fun v18 =>
   ih.2.1 out out (row.set low.toNat v17) (row2.set low.toNat j) e c c2 w w2 hp3 rest) (
   lb fun _ =>
   lb fun v19 =>
   lc (
   lb fun _ =>
   lb fun v20 =>
   ih.2.1 out out row (row2.set j.toNat (-1 : Int)) e c c2 w w2 hp3 rest) (
   ih.2.1 out out row row2 e c c2 w w2 hp3 rest)))))⟩
def f124_P (fu : Nat) (c : Int × Cs × Unit) (hp3 : List Os) : Option ((Nat × Int × Int × Unit) × (List Os)) :=
 bif (okMake 24 (c.2.1.length : Int) (c.2.1.length : Int)) then
  let e0 : List Os := (List.replicate (c.2.1.length : Int).toNat (none : Option Ts))
  bif (okMake 8 (c.2.1.length : Int) (c.2.1.length : Int)) then
   let e1 : List Int := (List.replicate (c.2.1.length : Int).toNat (0 : Int))
   (f124_Ls fu).1 (0 : Nat) (e1.length : Int) (0 : Int) e0 e1 true c.1 c.2.1 (0 : Int) (0 : Int) hp3
  else
   none
 else
  none
theorem f124_P_ok (fu : Nat) (c : Int × Cs × Unit) (hp3 : List Os) : Le (f124_P fu c hp3) (f124 c hp3) := le (f124_eq c hp3) (
 lc (
 let e0 : List Os := (List.replicate (c.2.1.length : Int).toNat (none : Option Ts))
 lc (
 let e1 : List Int := (List.replicate (c.2.1.length : Int).toNat (0 : Int))
 (f124_Ls_ok fu).1 (0 : Nat) (e1.length : Int) (0 : Int) e0 e1 true c.1 c.2.1 (0 : Int) (0 : Int) hp3) (lr _)) (lr _))
def f19_P (fu : Nat) (a : (Bool × (List Int) × Unit) × (Bool × (List Int) × Unit) × Unit) : Option ((Bool × (List Int) × Unit) × (Bool × (List Int) × Unit) × Unit) :=
 (f44_P fu (a.1.1, (a.1.2.1, ()))).bind fun r0 =>
 some ((r0.1, (r0.2.1, ())), ((a.2.1.1, (a.2.1.2.1, ())), ()))
theorem f19_P_ok (fu : Nat) (a : (Bool × (List Int) × Unit) × (Bool × (List Int) × Unit) × Unit) : Le (f19_P fu a) (f19 a) := le (f19_eq a) (
 lx (f44_P_ok fu (a.1.1, (a.1.2.1, ()))) fun r0 =>
 lr _)
def f27_P (fu : Nat) (a : ByteArray) (b : ByteArray) : Option (Int) :=
 bif (a.toList == (bs [105, 110, 102]).toList) then
  bif (b.toList == (bs [105, 110, 102]).toList) then
   some (0 : Int)
  else
   bif (a.toList == (bs [105, 110, 102]).toList) then
    some (1 : Int)
   else
    bif (b.toList == (bs [105, 110, 102]).toList) then
     some (-1 : Int)
    else
     (f28_P fu a).bind fun r0 =>
     (f28_P fu b).bind fun r1 =>
     bif (r0.2.1.toList == (bs [49]).toList) then
      bif (r1.2.1.toList == (bs [49]).toList) then
       (f59_P fu r0.1 r1.1).bind fun r2 =>
       some r2
      else
       (f60_P fu r0.1 r1.2.1).bind fun r3 =>
       (f60_P fu r1.1 r0.2.1).bind fun r4 =>
       (f59_P fu r3 r4).bind fun r5 =>
       some r5
     else
      (f60_P fu r0.1 r1.2.1).bind fun r6 =>
      (f60_P fu r1.1 r0.2.1).bind fun r7 =>
      (f59_P fu r6 r7).bind fun r8 =>
      some r8
 else
  bif (a.toList == (bs [105, 110, 102]).toList) then
   some (1 : Int)
  else
   bif (b.toList == (bs [105, 110, 102]).toList) then
    some (-1 : Int)
   else
    (f28_P fu a).bind fun r9 =>
    (f28_P fu b).bind fun r10 =>
    bif (r9.2.1.toList == (bs [49]).toList) then
     bif (r10.2.1.toList == (bs [49]).toList) then
      (f59_P fu r9.1 r10.1).bind fun r11 =>
      some r11
     else
      (f60_P fu r9.1 r10.2.1).bind fun r12 =>
      (f60_P fu r10.1 r9.2.1).bind fun r13 =>
      (f59_P fu r12 r13).bind fun r14 =>
      some r14
    else
     (f60_P fu r9.1 r10.2.1).bind fun r15 =>
     (f60_P fu r10.1 r9.2.1).bind fun r16 =>
     (f59_P fu r15 r16).bind fun r17 =>
     some r17
theorem f27_P_ok (fu : Nat) (a : ByteArray) (b : ByteArray) : Le (f27_P fu a b) (f27 a b) := le (f27_eq a b) (
 lc (
 lc (lr _) (
 lc (lr _) (
 lc (lr _) (
 lx (f28_P_ok fu a) fun r0 =>
 lx (f28_P_ok fu b) fun r1 =>
 lc (
 lc (
 lx (f59_P_ok fu r0.1 r1.1) fun r2 =>
 lr _) (
 lx (f60_P_ok fu r0.1 r1.2.1) fun r3 =>
 lx (f60_P_ok fu r1.1 r0.2.1) fun r4 =>
 lx (f59_P_ok fu r3 r4) fun r5 =>
 lr _)) (
 lx (f60_P_ok fu r0.1 r1.2.1) fun r6 =>
 lx (f60_P_ok fu r1.1 r0.2.1) fun r7 =>
 lx (f59_P_ok fu r6 r7) fun r8 =>
 lr _))))) (
 lc (lr _) (
 lc (lr _) (
 lx (f28_P_ok fu a) fun r9 =>
 lx (f28_P_ok fu b) fun r10 =>
 lc (
 lc (
 lx (f59_P_ok fu r9.1 r10.1) fun r11 =>
 lr _) (
 lx (f60_P_ok fu r9.1 r10.2.1) fun r12 =>
 lx (f60_P_ok fu r10.1 r9.2.1) fun r13 =>
 lx (f59_P_ok fu r12 r13) fun r14 =>
 lr _)) (
 lx (f60_P_ok fu r9.1 r10.2.1) fun r15 =>
 lx (f60_P_ok fu r10.1 r9.2.1) fun r16 =>
 lx (f59_P_ok fu r15 r16) fun r17 =>
 lr _)))))
def f35_Ls : Nat → (Ts → (Int) → (Int) → Ts → (Int) → Cs → Option Ts) × (Ts → Ts → (Int) → (Int) → (Int) → Cs → Option Ts)
 | 0 => (fun _ _ _ _ _ _ => none, fun _ _ _ _ _ _ => none)
 | fu + 1 => (fun t t2 t3 out c c2 =>
  bif (decide (t3 < t2)) then
   (idx t t3).bind fun v0 =>
   (idx c2 v0.1).bind fun v1 =>
   (f50_P fu c out v0.2.1 v1.2.2.1).bind fun r2 =>
   (f35_Ls fu).2 r2.1 t t2 (W (t3 + (1 : Int))) c c2
  else
   some out,
  fun out t t2 t3 c c2 =>
  bif (decide (t3 < t2)) then
   (idx t t3).bind fun v0 =>
   (idx c2 v0.1).bind fun v1 =>
   (f50_P fu c out v0.2.1 v1.2.2.1).bind fun r2 =>
   (f35_Ls fu).2 r2.1 t t2 (W (t3 + (1 : Int))) c c2
  else
   some out)
theorem f35_Ls_ok : ∀ fu, (∀ (t : Ts) (t2 : Int) (t3 : Int) (out : Ts) (c : Int) (c2 : List Cl), Le ((f35_Ls fu).1 t t2 t3 out c c2) (f35_L0 t t2 t3 out c c2)) ∧ (∀ (out : Ts) (t : Ts) (t2 : Int) (t3 : Int) (c : Int) (c2 : List Cl), Le ((f35_Ls fu).2 out t t2 t3 c c2) (f36 out t t2 t3 c c2))
 | 0 => ⟨(fun _ _ _ _ _ _ => ln _),
  (fun _ _ _ _ _ _ => ln _)⟩
 | fu + 1 => by
  have ih := f35_Ls_ok fu
  exact ⟨(fun t t2 t3 out c c2 => le (f35_L0_eq t t2 t3 out c c2) (
   lc (
   lb fun v0 =>
   lb fun v1 =>
   lx (f50_P_ok fu c out v0.2.1 v1.2.2.1) fun r2 =>
   ih.2 r2.1 t t2 (W (t3 + (1 : Int))) c c2) (lr _))),
  (fun out t t2 t3 c c2 => le (f36_eq out t t2 t3 c c2) (
   lc (
   lb fun v0 =>
   lb fun v1 =>
   lx (f50_P_ok fu c out v0.2.1 v1.2.2.1) fun r2 =>
   ih.2 r2.1 t t2 (W (t3 + (1 : Int))) c c2) (lr _)))⟩
def f35_P (fu : Nat) (c : Int × Cs × Unit) (x : Ts) : Option Ts :=
 (f35_Ls fu).1 x (x.length : Int) (0 : Int) ([] : Ts) c.1 c.2.1
theorem f35_P_ok (fu : Nat) (c : Int × Cs × Unit) (x : Ts) : Le (f35_P fu c x) (f35 c x) := le (f35_eq c x) (
 (f35_Ls_ok fu).1 x (x.length : Int) (0 : Int) ([] : Ts) c.1 c.2.1)
def f37_P (fu : Nat) (a : (Bool × (List Int) × Unit) × (Bool × (List Int) × Unit) × Unit) (b : (Bool × (List Int) × Unit) × (Bool × (List Int) × Unit) × Unit) : Option (Int) :=
 (f45_P fu ((b.1.1, (b.1.2.1, ())), ((b.2.1.1, (b.2.1.2.1, ())), ()))).bind fun r0 =>
 (f64_P fu (a.1.1, (a.1.2.1, ())) (r0.1, (r0.2.1, ()))).bind fun r1 =>
 (f45_P fu ((a.1.1, (a.1.2.1, ())), ((a.2.1.1, (a.2.1.2.1, ())), ()))).bind fun r2 =>
 (f64_P fu (b.1.1, (b.1.2.1, ())) (r2.1, (r2.2.1, ()))).bind fun r3 =>
 (f42_P fu (r1.1, (r1.2.1, ())) (r3.1, (r3.2.1, ()))).bind fun r4 =>
 some r4
theorem f37_P_ok (fu : Nat) (a : (Bool × (List Int) × Unit) × (Bool × (List Int) × Unit) × Unit) (b : (Bool × (List Int) × Unit) × (Bool × (List Int) × Unit) × Unit) : Le (f37_P fu a b) (f37 a b) := le (f37_eq a b) (
 lx (f45_P_ok fu ((b.1.1, (b.1.2.1, ())), ((b.2.1.1, (b.2.1.2.1, ())), ()))) fun r0 =>
 lx (f64_P_ok fu (a.1.1, (a.1.2.1, ())) (r0.1, (r0.2.1, ()))) fun r1 =>
 lx (f45_P_ok fu ((a.1.1, (a.1.2.1, ())), ((a.2.1.1, (a.2.1.2.1, ())), ()))) fun r2 =>
 lx (f64_P_ok fu (b.1.1, (b.1.2.1, ())) (r2.1, (r2.2.1, ()))) fun r3 =>
 lx (f42_P_ok fu (r1.1, (r1.2.1, ())) (r3.1, (r3.2.1, ()))) fun r4 =>
 lr _)
def f39_Ls : Nat → ((ByteArray) → (Bool) → (Int) → (List Int) → (Bool) → (List Int) → Option ((Bool × (List Int) × Unit) × Bool)) × ((ByteArray) → (Bool) → (Int) → (Int) → (List Int) → (Int) → (Int) → (List Int) → (Bool) → (List Int) → Option ((Bool × (List Int) × Unit) × Bool))
 | 0 => (fun _ _ _ _ _ _ => none, fun _ _ _ _ _ _ _ _ _ _ => none)
 | fu + 1 => (fun s neg end0 d t t2 =>
  bif (decide (end0 > (0 : Int))) then
   let e0 : Int := (bif decide ((W (end0 - (9 : Int))) > (0 : Int)) then (W (end0 - (9 : Int))) else (0 : Int))
   bif (inCut s.size e0 end0) then
    bif (Nat.ble (s.extract e0.toNat end0.toNat).size 140737488355328) then
     let e1 : Int := ((bytesOf (s.extract e0.toNat end0.toNat)).length : Int)
     (f39_Ls fu).2 s neg end0 (0 : Int) (bytesOf (s.extract e0.toNat end0.toNat)) e1 (0 : Int) d t t2
    else
     none
   else
    none
  else
   (f67_P fu neg d).bind fun r2 =>
   some ((r2.1, (r2.2.1, ())), true),
  fun s neg end0 x t t2 t3 d t4 t5 =>
  bif (decide (t3 < t2)) then
   (idx t t3).bind fun v0 =>
   bif (decide (v0 < (48 : Int))) then
    some ((false, (([] : List Int), ())), false)
   else
    bif (decide (v0 > (57 : Int))) then
     some ((false, (([] : List Int), ())), false)
    else
     let e1 : Int := (IntKind.wrap .u32 (IntKind.wrap .u8 (v0 - (48 : Int))))
     let e2 : Int := (IntKind.wrap .u32 ((IntKind.wrap .u32 ((10 : Int) * x)) + e1))
     (f39_Ls fu).2 s neg end0 e2 t t2 (W (t3 + (1 : Int))) d t4 t5
  else
   bif (okApp 4 1 d.length 1) then
    (f39_Ls fu).1 s neg (W (end0 - (9 : Int))) (d ++ ([x] : List Int)) t4 t5
   else
    none)
theorem f39_Ls_ok : ∀ fu, (∀ (s : ByteArray) (neg : Bool) (end0 : Int) (d : List Int) (t : Bool) (t2 : List Int), Le ((f39_Ls fu).1 s neg end0 d t t2) (f39_L0 s neg end0 d t t2)) ∧ (∀ (s : ByteArray) (neg : Bool) (end0 : Int) (x : Int) (t : List Int) (t2 : Int) (t3 : Int) (d : List Int) (t4 : Bool) (t5 : List Int), Le ((f39_Ls fu).2 s neg end0 x t t2 t3 d t4 t5) (f39_L1 s neg end0 x t t2 t3 d t4 t5))
 | 0 => ⟨(fun _ _ _ _ _ _ => ln _),
  (fun _ _ _ _ _ _ _ _ _ _ => ln _)⟩
 | fu + 1 => by
  have ih := f39_Ls_ok fu
  exact ⟨(fun s neg end0 d t t2 => le (f39_L0_eq s neg end0 d t t2) (
   lc (
   let e0 : Int := (bif decide ((W (end0 - (9 : Int))) > (0 : Int)) then (W (end0 - (9 : Int))) else (0 : Int))
   lc (
   lc (
   let e1 : Int := ((bytesOf (s.extract e0.toNat end0.toNat)).length : Int)
   ih.2 s neg end0 (0 : Int) (bytesOf (s.extract e0.toNat end0.toNat)) e1 (0 : Int) d t t2) (lr _)) (lr _)) (
   lx (f67_P_ok fu neg d) fun r2 =>
   lr _))),
  (fun s neg end0 x t t2 t3 d t4 t5 => le (f39_L1_eq s neg end0 x t t2 t3 d t4 t5) (
   lc (
   lb fun v0 =>
   lc (lr _) (
   lc (lr _) (
   let e1 : Int := (IntKind.wrap .u32 (IntKind.wrap .u8 (v0 - (48 : Int))))
   let e2 : Int := (IntKind.wrap .u32 ((IntKind.wrap .u32 ((10 : Int) * x)) + e1))
   ih.2 s neg end0 e2 t t2 (W (t3 + (1 : Int))) d t4 t5))) (
   lc (
   ih.1 s neg (W (end0 - (9 : Int))) (d ++ ([x] : List Int)) t4 t5) (lr _))))⟩
def f39_P (fu : Nat) (a : ByteArray) : Option ((Bool × (List Int) × Unit) × Bool) :=
 (f66_P fu a (bs [45])).bind fun r0 =>
 bif (r0.1.toList == ByteArray.empty.toList) then
  some ((false, (([] : List Int), ())), false)
 else
  (sidx r0.1 (0 : Int)).bind fun v1 =>
  bif (v1 == (48 : Int)) then
   bif (decide ((r0.1.size : Int) > (1 : Int))) then
    some ((false, (([] : List Int), ())), false)
   else
    bif r0.2 then
     some ((false, (([] : List Int), ())), false)
    else
     (f39_Ls fu).1 r0.1 r0.2 (r0.1.size : Int) ([] : List Int) false ([] : List Int)
  else
   (f39_Ls fu).1 r0.1 r0.2 (r0.1.size : Int) ([] : List Int) false ([] : List Int)
theorem f39_P_ok (fu : Nat) (a : ByteArray) : Le (f39_P fu a) (f39 a) := le (f39_eq a) (
 lx (f66_P_ok fu a (bs [45])) fun r0 =>
 lc (lr _) (
 lb fun v1 =>
 lc (
 lc (lr _) (
 lc (lr _) (
 (f39_Ls_ok fu).1 r0.1 r0.2 (r0.1.size : Int) ([] : List Int) false ([] : List Int)))) (
 (f39_Ls_ok fu).1 r0.1 r0.2 (r0.1.size : Int) ([] : List Int) false ([] : List Int))))
def f43_Ls : Nat → ((List Int) → (List Int) → (Bool) → (List Int) → Option (Bool × (List Int) × Unit))
 | 0 => (fun _ _ _ _ => none)
 | fu + 1 => (fun x y t t2 =>
  bif (decide ((y.length : Int) > (0 : Int))) then
   bif (decide ((x.length : Int) ≤ (2 : Int))) then
    bif (decide ((y.length : Int) ≤ (2 : Int))) then
     (f70_P fu x).bind fun r0 =>
     (f70_P fu y).bind fun r1 =>
     (f69_P fu r0 r1).bind fun r2 =>
     (f40_P fu r2).bind fun r3 =>
     some (r3.1, (r3.2.1, ()))
    else
     (f71_P fu x y).bind fun r4 =>
     (f72_P fu r4.2).bind fun r5 =>
     (f43_Ls fu) y r5 t t2
   else
    (f71_P fu x y).bind fun r6 =>
    (f72_P fu r6.2).bind fun r7 =>
    (f43_Ls fu) y r7 t t2
  else
   some (false, (x, ())))
theorem f43_Ls_ok : ∀ fu, (∀ (x : List Int) (y : List Int) (t : Bool) (t2 : List Int), Le ((f43_Ls fu) x y t t2) (f43_L0 x y t t2))
 | 0 => fun _ _ _ _ => ln _
 | fu + 1 => by
  have ih := f43_Ls_ok fu
  exact fun x y t t2 => le (f43_L0_eq x y t t2) (
   lc (
   lc (
   lc (
   lx (f70_P_ok fu x) fun r0 =>
   lx (f70_P_ok fu y) fun r1 =>
   lx (f69_P_ok fu r0 r1) fun r2 =>
   lx (f40_P_ok fu r2) fun r3 =>
   lr _) (
   lx (f71_P_ok fu x y) fun r4 =>
   lx (f72_P_ok fu r4.2) fun r5 =>
   ih y r5 t t2)) (
   lx (f71_P_ok fu x y) fun r6 =>
   lx (f72_P_ok fu r6.2) fun r7 =>
   ih y r7 t t2)) (lr _))
def f43_P (fu : Nat) (a : Bool × (List Int) × Unit) (b : Bool × (List Int) × Unit) : Option (Bool × (List Int) × Unit) :=
 (f43_Ls fu) a.2.1 b.2.1 false ([] : List Int)
theorem f43_P_ok (fu : Nat) (a : Bool × (List Int) × Unit) (b : Bool × (List Int) × Unit) : Le (f43_P fu a b) (f43 a b) := le (f43_eq a b) (
 (f43_Ls_ok fu) a.2.1 b.2.1 false ([] : List Int))
def f52_Ls : Nat → ((Nat) → (Int) → (Int) → (Int) → (Bool) → (Bool) → (List Os) → Option ((Unit) × (List Os)))
 | 0 => (fun _ _ _ _ _ _ _ => none)
 | fu + 1 => (fun data a b limit wasBalanced wasPartitioned hp3 =>
  bif (decide ((W (b - a)) ≤ (12 : Int))) then
   (f78_P fu data a b hp3).bind fun r0 =>
   some ((), r0.2)
  else
   bif (limit == (0 : Int)) then
    (f79_P fu data a b hp3).bind fun r1 =>
    some ((), r1.2)
   else
    bif (!wasBalanced) then
     (f80_P fu data a b hp3).bind fun r2 =>
     (f81_P fu data a b r2.2).bind fun r3 =>
     bif (r3.1.2 == (2 : Int)) then
      (f82_P fu data a b r3.2).bind fun r4 =>
      let e5 : Int := (W ((W (b - (1 : Int))) - (W (r3.1.1 - a))))
      bif wasBalanced then
       bif wasPartitioned then
        (f83_P fu data a b r4.2).bind fun r6 =>
        bif r6.1 then
         some ((), r6.2)
        else
         bif (decide (a > (0 : Int))) then
          (hget r6.2 data).bind fun v7 =>
          (idx v7 (W (a - (1 : Int)))).bind fun _ =>
          (hget r6.2 data).bind fun v8 =>
          (v8[(W (a - (1 : Int))).toNat]?).bind fun v9 =>
          (hget r6.2 data).bind fun v10 =>
          (idx v10 e5).bind fun _ =>
          (hget r6.2 data).bind fun v11 =>
          (v11[e5.toNat]?).bind fun v12 =>
          (f22_P fu (v9.1, (v9.2.1, ())) (v12.1, (v12.2.1, ()))).bind fun r13 =>
          bif (!(decide (r13 < (0 : Int)))) then
           (f84_P fu data a b e5 r6.2).bind fun r14 =>
           (f52_Ls fu) data r14.1 b (W (limit - (1 : Int))) wasBalanced wasPartitioned r14.2
          else
           (f85_P fu data a b e5 r6.2).bind fun r15 =>
           let e16 : Int := (W ((W (b - a)).tdiv (8 : Int)))
           bif (decide ((W (r15.1.1 - a)) < (W (b - r15.1.1)))) then
            none
           else
            none
         else
          (f85_P fu data a b e5 r6.2).bind fun r19 =>
          let e20 : Int := (W ((W (b - a)).tdiv (8 : Int)))
          bif (decide ((W (r19.1.1 - a)) < (W (b - r19.1.1)))) then
           none
          else
           none
       else
        bif (decide (a > (0 : Int))) then
         (hget r4.2 data).bind fun v23 =>
         (idx v23 (W (a - (1 : Int)))).bind fun _ =>
         (hget r4.2 data).bind fun v24 =>
         (v24[(W (a - (1 : Int))).toNat]?).bind fun v25 =>
         (hget r4.2 data).bind fun v26 =>
         (idx v26 e5).bind fun _ =>
         (hget r4.2 data).bind fun v27 =>
         (v27[e5.toNat]?).bind fun v28 =>
         (f22_P fu (v25.1, (v25.2.1, ())) (v28.1, (v28.2.1, ()))).bind fun r29 =>
         bif (!(decide (r29 < (0 : Int)))) then
          (f84_P fu data a b e5 r4.2).bind fun r30 =>
          (f52_Ls fu) data r30.1 b (W (limit - (1 : Int))) wasBalanced wasPartitioned r30.2
         else
          (f85_P fu data a b e5 r4.2).bind fun r31 =>
          let e32 : Int := (W ((W (b - a)).tdiv (8 : Int)))
          bif (decide ((W (r31.1.1 - a)) < (W (b - r31.1.1)))) then
           none
          else
           none
        else
         (f85_P fu data a b e5 r4.2).bind fun r35 =>
         let e36 : Int := (W ((W (b - a)).tdiv (8 : Int)))
         bif (decide ((W (r35.1.1 - a)) < (W (b - r35.1.1)))) then
          none
         else
          none
      else
       bif (decide (a > (0 : Int))) then
        (hget r4.2 data).bind fun v39 =>
        (idx v39 (W (a - (1 : Int)))).bind fun _ =>
        (hget r4.2 data).bind fun v40 =>
        (v40[(W (a - (1 : Int))).toNat]?).bind fun v41 =>
        (hget r4.2 data).bind fun v42 =>
        (idx v42 e5).bind fun _ =>
        (hget r4.2 data).bind fun v43 =>
        (v43[e5.toNat]?).bind fun v44 =>
        (f22_P fu (v41.1, (v41.2.1, ())) (v44.1, (v44.2.1, ()))).bind fun r45 =>
        bif (!(decide (r45 < (0 : Int)))) then
         (f84_P fu data a b e5 r4.2).bind fun r46 =>
         (f52_Ls fu) data r46.1 b (W (limit - (1 : Int))) wasBalanced wasPartitioned r46.2
        else
         (f85_P fu data a b e5 r4.2).bind fun r47 =>
         let e48 : Int := (W ((W (b - a)).tdiv (8 : Int)))
         bif (decide ((W (r47.1.1 - a)) < (W (b - r47.1.1)))) then
          none
         else
          none
       else
        (f85_P fu data a b e5 r4.2).bind fun r51 =>
        let e52 : Int := (W ((W (b - a)).tdiv (8 : Int)))
        bif (decide ((W (r51.1.1 - a)) < (W (b - r51.1.1)))) then
         none
        else
         none
     else
      bif wasBalanced then
       bif wasPartitioned then
        bif (r3.1.2 == (1 : Int)) then
         (f83_P fu data a b r3.2).bind fun r55 =>
         bif r55.1 then
          some ((), r55.2)
         else
          bif (decide (a > (0 : Int))) then
           (hget r55.2 data).bind fun v56 =>
           (idx v56 (W (a - (1 : Int)))).bind fun _ =>
           (hget r55.2 data).bind fun v57 =>
           (v57[(W (a - (1 : Int))).toNat]?).bind fun v58 =>
           (hget r55.2 data).bind fun v59 =>
           (idx v59 r3.1.1).bind fun _ =>
           (hget r55.2 data).bind fun v60 =>
           (v60[r3.1.1.toNat]?).bind fun v61 =>
           (f22_P fu (v58.1, (v58.2.1, ())) (v61.1, (v61.2.1, ()))).bind fun r62 =>
           bif (!(decide (r62 < (0 : Int)))) then
            (f84_P fu data a b r3.1.1 r55.2).bind fun r63 =>
            (f52_Ls fu) data r63.1 b (W (limit - (1 : Int))) wasBalanced wasPartitioned r63.2
           else
            (f85_P fu data a b r3.1.1 r55.2).bind fun r64 =>
            let e65 : Int := (W ((W (b - a)).tdiv (8 : Int)))
            bif (decide ((W (r64.1.1 - a)) < (W (b - r64.1.1)))) then
             none
            else
             none
          else
           (f85_P fu data a b r3.1.1 r55.2).bind fun r68 =>
           let e69 : Int := (W ((W (b - a)).tdiv (8 : Int)))
           bif (decide ((W (r68.1.1 - a)) < (W (b - r68.1.1)))) then
            none
           else
            none
        else
         bif (decide (a > (0 : Int))) then
          (hget r3.2 data).bind fun v72 =>
          (idx v72 (W (a - (1 : Int)))).bind fun _ =>
          (hget r3.2 data).bind fun v73 =>
          (v73[(W (a - (1 : Int))).toNat]?).bind fun v74 =>
          (hget r3.2 data).bind fun v75 =>
          (idx v75 r3.1.1).bind fun _ =>
          (hget r3.2 data).bind fun v76 =>
          (v76[r3.1.1.toNat]?).bind fun v77 =>
          (f22_P fu (v74.1, (v74.2.1, ())) (v77.1, (v77.2.1, ()))).bind fun r78 =>
          bif (!(decide (r78 < (0 : Int)))) then
           (f84_P fu data a b r3.1.1 r3.2).bind fun r79 =>
           (f52_Ls fu) data r79.1 b (W (limit - (1 : Int))) wasBalanced wasPartitioned r79.2
          else
           (f85_P fu data a b r3.1.1 r3.2).bind fun r80 =>
           let e81 : Int := (W ((W (b - a)).tdiv (8 : Int)))
           bif (decide ((W (r80.1.1 - a)) < (W (b - r80.1.1)))) then
            none
           else
            none
         else
          (f85_P fu data a b r3.1.1 r3.2).bind fun r84 =>
          let e85 : Int := (W ((W (b - a)).tdiv (8 : Int)))
          bif (decide ((W (r84.1.1 - a)) < (W (b - r84.1.1)))) then
           none
          else
           none
       else
        bif (decide (a > (0 : Int))) then
         (hget r3.2 data).bind fun v88 =>
         (idx v88 (W (a - (1 : Int)))).bind fun _ =>
         (hget r3.2 data).bind fun v89 =>
         (v89[(W (a - (1 : Int))).toNat]?).bind fun v90 =>
         (hget r3.2 data).bind fun v91 =>
         (idx v91 r3.1.1).bind fun _ =>
         (hget r3.2 data).bind fun v92 =>
         (v92[r3.1.1.toNat]?).bind fun v93 =>
         (f22_P fu (v90.1, (v90.2.1, ())) (v93.1, (v93.2.1, ()))).bind fun r94 =>
         bif (!(decide (r94 < (0 : Int)))) then
          (f84_P fu data a b r3.1.1 r3.2).bind fun r95 =>
          (f52_Ls fu) data r95.1 b (W (limit - (1 : Int))) wasBalanced wasPartitioned r95.2
         else
          (f85_P fu data a b r3.1.1 r3.2).bind fun r96 =>
          let e97 : Int := (W ((W (b - a)).tdiv (8 : Int)))
          bif (decide ((W (r96.1.1 - a)) < (W (b - r96.1.1)))) then
           none
          else
           none
        else
         (f85_P fu data a b r3.1.1 r3.2).bind fun r100 =>
         let e101 : Int := (W ((W (b - a)).tdiv (8 : Int)))
         bif (decide ((W (r100.1.1 - a)) < (W (b - r100.1.1)))) then
          none
         else
          none
      else
       bif (decide (a > (0 : Int))) then
        (hget r3.2 data).bind fun v104 =>
        (idx v104 (W (a - (1 : Int)))).bind fun _ =>
        (hget r3.2 data).bind fun v105 =>
        (v105[(W (a - (1 : Int))).toNat]?).bind fun v106 =>
        (hget r3.2 data).bind fun v107 =>
        (idx v107 r3.1.1).bind fun _ =>
        (hget r3.2 data).bind fun v108 =>
        (v108[r3.1.1.toNat]?).bind fun v109 =>
        (f22_P fu (v106.1, (v106.2.1, ())) (v109.1, (v109.2.1, ()))).bind fun r110 =>
        bif (!(decide (r110 < (0 : Int)))) then
         (f84_P fu data a b r3.1.1 r3.2).bind fun r111 =>
         (f52_Ls fu) data r111.1 b (W (limit - (1 : Int))) wasBalanced wasPartitioned r111.2
        else
         (f85_P fu data a b r3.1.1 r3.2).bind fun r112 =>
         let e113 : Int := (W ((W (b - a)).tdiv (8 : Int)))
         bif (decide ((W (r112.1.1 - a)) < (W (b - r112.1.1)))) then
          none
         else
          none
       else
        (f85_P fu data a b r3.1.1 r3.2).bind fun r116 =>
        let e117 : Int := (W ((W (b - a)).tdiv (8 : Int)))
        bif (decide ((W (r116.1.1 - a)) < (W (b - r116.1.1)))) then
         none
        else
         none
    else
     (f81_P fu data a b hp3).bind fun r120 =>
     bif (r120.1.2 == (2 : Int)) then
      (f82_P fu data a b r120.2).bind fun r121 =>
      let e122 : Int := (W ((W (b - (1 : Int))) - (W (r120.1.1 - a))))
      bif wasBalanced then
       bif wasPartitioned then
        (f83_P fu data a b r121.2).bind fun r123 =>
        bif r123.1 then
         some ((), r123.2)
        else
         bif (decide (a > (0 : Int))) then
          (hget r123.2 data).bind fun v124 =>
          (idx v124 (W (a - (1 : Int)))).bind fun _ =>
          (hget r123.2 data).bind fun v125 =>
          (v125[(W (a - (1 : Int))).toNat]?).bind fun v126 =>
          (hget r123.2 data).bind fun v127 =>
          (idx v127 e122).bind fun _ =>
          (hget r123.2 data).bind fun v128 =>
          (v128[e122.toNat]?).bind fun v129 =>
          (f22_P fu (v126.1, (v126.2.1, ())) (v129.1, (v129.2.1, ()))).bind fun r130 =>
          bif (!(decide (r130 < (0 : Int)))) then
           (f84_P fu data a b e122 r123.2).bind fun r131 =>
           (f52_Ls fu) data r131.1 b limit wasBalanced wasPartitioned r131.2
          else
           (f85_P fu data a b e122 r123.2).bind fun r132 =>
           let e133 : Int := (W ((W (b - a)).tdiv (8 : Int)))
           bif (decide ((W (r132.1.1 - a)) < (W (b - r132.1.1)))) then
            none
           else
            none
         else
          (f85_P fu data a b e122 r123.2).bind fun r136 =>
          let e137 : Int := (W ((W (b - a)).tdiv (8 : Int)))
          bif (decide ((W (r136.1.1 - a)) < (W (b - r136.1.1)))) then
           none
          else
           none
       else
        bif (decide (a > (0 : Int))) then
         (hget r121.2 data).bind fun v140 =>
         (idx v140 (W (a - (1 : Int)))).bind fun _ =>
         (hget r121.2 data).bind fun v141 =>
         (v141[(W (a - (1 : Int))).toNat]?).bind fun v142 =>
         (hget r121.2 data).bind fun v143 =>
         (idx v143 e122).bind fun _ =>
         (hget r121.2 data).bind fun v144 =>
         (v144[e122.toNat]?).bind fun v145 =>
         (f22_P fu (v142.1, (v142.2.1, ())) (v145.1, (v145.2.1, ()))).bind fun r146 =>
         bif (!(decide (r146 < (0 : Int)))) then
          (f84_P fu data a b e122 r121.2).bind fun r147 =>
          (f52_Ls fu) data r147.1 b limit wasBalanced wasPartitioned r147.2
         else
          (f85_P fu data a b e122 r121.2).bind fun r148 =>
          let e149 : Int := (W ((W (b - a)).tdiv (8 : Int)))
          bif (decide ((W (r148.1.1 - a)) < (W (b - r148.1.1)))) then
           none
          else
           none
        else
         (f85_P fu data a b e122 r121.2).bind fun r152 =>
         let e153 : Int := (W ((W (b - a)).tdiv (8 : Int)))
         bif (decide ((W (r152.1.1 - a)) < (W (b - r152.1.1)))) then
          none
         else
          none
      else
       bif (decide (a > (0 : Int))) then
        (hget r121.2 data).bind fun v156 =>
        (idx v156 (W (a - (1 : Int)))).bind fun _ =>
        (hget r121.2 data).bind fun v157 =>
        (v157[(W (a - (1 : Int))).toNat]?).bind fun v158 =>
        (hget r121.2 data).bind fun v159 =>
        (idx v159 e122).bind fun _ =>
        (hget r121.2 data).bind fun v160 =>
        (v160[e122.toNat]?).bind fun v161 =>
        (f22_P fu (v158.1, (v158.2.1, ())) (v161.1, (v161.2.1, ()))).bind fun r162 =>
        bif (!(decide (r162 < (0 : Int)))) then
         (f84_P fu data a b e122 r121.2).bind fun r163 =>
         (f52_Ls fu) data r163.1 b limit wasBalanced wasPartitioned r163.2
        else
         (f85_P fu data a b e122 r121.2).bind fun r164 =>
         let e165 : Int := (W ((W (b - a)).tdiv (8 : Int)))
         bif (decide ((W (r164.1.1 - a)) < (W (b - r164.1.1)))) then
          none
         else
          none
       else
        (f85_P fu data a b e122 r121.2).bind fun r168 =>
        let e169 : Int := (W ((W (b - a)).tdiv (8 : Int)))
        bif (decide ((W (r168.1.1 - a)) < (W (b - r168.1.1)))) then
         none
        else
         none
     else
      bif wasBalanced then
       bif wasPartitioned then
        bif (r120.1.2 == (1 : Int)) then
         (f83_P fu data a b r120.2).bind fun r172 =>
         bif r172.1 then
          some ((), r172.2)
         else
          bif (decide (a > (0 : Int))) then
           (hget r172.2 data).bind fun v173 =>
           (idx v173 (W (a - (1 : Int)))).bind fun _ =>
           (hget r172.2 data).bind fun v174 =>
           (v174[(W (a - (1 : Int))).toNat]?).bind fun v175 =>
           (hget r172.2 data).bind fun v176 =>
           (idx v176 r120.1.1).bind fun _ =>
           (hget r172.2 data).bind fun v177 =>
           (v177[r120.1.1.toNat]?).bind fun v178 =>
           (f22_P fu (v175.1, (v175.2.1, ())) (v178.1, (v178.2.1, ()))).bind fun r179 =>
           bif (!(decide (r179 < (0 : Int)))) then
            (f84_P fu data a b r120.1.1 r172.2).bind fun r180 =>
            (f52_Ls fu) data r180.1 b limit wasBalanced wasPartitioned r180.2
           else
            (f85_P fu data a b r120.1.1 r172.2).bind fun r181 =>
            let e182 : Int := (W ((W (b - a)).tdiv (8 : Int)))
            bif (decide ((W (r181.1.1 - a)) < (W (b - r181.1.1)))) then
             none
            else
             none
          else
           (f85_P fu data a b r120.1.1 r172.2).bind fun r185 =>
           let e186 : Int := (W ((W (b - a)).tdiv (8 : Int)))
           bif (decide ((W (r185.1.1 - a)) < (W (b - r185.1.1)))) then
            none
           else
            none
        else
         bif (decide (a > (0 : Int))) then
          (hget r120.2 data).bind fun v189 =>
          (idx v189 (W (a - (1 : Int)))).bind fun _ =>
          (hget r120.2 data).bind fun v190 =>
          (v190[(W (a - (1 : Int))).toNat]?).bind fun v191 =>
          (hget r120.2 data).bind fun v192 =>
          (idx v192 r120.1.1).bind fun _ =>
          (hget r120.2 data).bind fun v193 =>
          (v193[r120.1.1.toNat]?).bind fun v194 =>
          (f22_P fu (v191.1, (v191.2.1, ())) (v194.1, (v194.2.1, ()))).bind fun r195 =>
          bif (!(decide (r195 < (0 : Int)))) then
           (f84_P fu data a b r120.1.1 r120.2).bind fun r196 =>
           (f52_Ls fu) data r196.1 b limit wasBalanced wasPartitioned r196.2
          else
           (f85_P fu data a b r120.1.1 r120.2).bind fun r197 =>
           let e198 : Int := (W ((W (b - a)).tdiv (8 : Int)))
           bif (decide ((W (r197.1.1 - a)) < (W (b - r197.1.1)))) then
            none
           else
            none
         else
          (f85_P fu data a b r120.1.1 r120.2).bind fun r201 =>
          let e202 : Int := (W ((W (b - a)).tdiv (8 : Int)))
          bif (decide ((W (r201.1.1 - a)) < (W (b - r201.1.1)))) then
           none
          else
           none
       else
        bif (decide (a > (0 : Int))) then
         (hget r120.2 data).bind fun v205 =>
         (idx v205 (W (a - (1 : Int)))).bind fun _ =>
         (hget r120.2 data).bind fun v206 =>
         (v206[(W (a - (1 : Int))).toNat]?).bind fun v207 =>
         (hget r120.2 data).bind fun v208 =>
         (idx v208 r120.1.1).bind fun _ =>
         (hget r120.2 data).bind fun v209 =>
         (v209[r120.1.1.toNat]?).bind fun v210 =>
         (f22_P fu (v207.1, (v207.2.1, ())) (v210.1, (v210.2.1, ()))).bind fun r211 =>
         bif (!(decide (r211 < (0 : Int)))) then
          (f84_P fu data a b r120.1.1 r120.2).bind fun r212 =>
          (f52_Ls fu) data r212.1 b limit wasBalanced wasPartitioned r212.2
         else
          (f85_P fu data a b r120.1.1 r120.2).bind fun r213 =>
          let e214 : Int := (W ((W (b - a)).tdiv (8 : Int)))
          bif (decide ((W (r213.1.1 - a)) < (W (b - r213.1.1)))) then
           none
          else
           none
        else
         (f85_P fu data a b r120.1.1 r120.2).bind fun r217 =>
         let e218 : Int := (W ((W (b - a)).tdiv (8 : Int)))
         bif (decide ((W (r217.1.1 - a)) < (W (b - r217.1.1)))) then
          none
         else
          none
      else
       bif (decide (a > (0 : Int))) then
        (hget r120.2 data).bind fun v221 =>
        (idx v221 (W (a - (1 : Int)))).bind fun _ =>
        (hget r120.2 data).bind fun v222 =>
        (v222[(W (a - (1 : Int))).toNat]?).bind fun v223 =>
        (hget r120.2 data).bind fun v224 =>
        (idx v224 r120.1.1).bind fun _ =>
        (hget r120.2 data).bind fun v225 =>
        (v225[r120.1.1.toNat]?).bind fun v226 =>
        (f22_P fu (v223.1, (v223.2.1, ())) (v226.1, (v226.2.1, ()))).bind fun r227 =>
        bif (!(decide (r227 < (0 : Int)))) then
         (f84_P fu data a b r120.1.1 r120.2).bind fun r228 =>
         (f52_Ls fu) data r228.1 b limit wasBalanced wasPartitioned r228.2
        else
         (f85_P fu data a b r120.1.1 r120.2).bind fun r229 =>
         let e230 : Int := (W ((W (b - a)).tdiv (8 : Int)))
         bif (decide ((W (r229.1.1 - a)) < (W (b - r229.1.1)))) then
          none
         else
          none
       else
        (f85_P fu data a b r120.1.1 r120.2).bind fun r233 =>
        let e234 : Int := (W ((W (b - a)).tdiv (8 : Int)))
        bif (decide ((W (r233.1.1 - a)) < (W (b - r233.1.1)))) then
         none
        else
         none)
theorem f52_Ls_ok : ∀ fu, (∀ (data : Nat) (a : Int) (b : Int) (limit : Int) (wasBalanced : Bool) (wasPartitioned : Bool) (hp3 : List Os), Le ((f52_Ls fu) data a b limit wasBalanced wasPartitioned hp3) (f52_L0 data a b limit wasBalanced wasPartitioned hp3))
 | 0 => fun _ _ _ _ _ _ _ => ln _
 | fu + 1 => by
  have ih := f52_Ls_ok fu
  exact fun data a b limit wasBalanced wasPartitioned hp3 => le (f52_L0_eq data a b limit wasBalanced wasPartitioned hp3) (
   lc (
   lx (f78_P_ok fu data a b hp3) fun r0 =>
   lr _) (
   lc (
   lx (f79_P_ok fu data a b hp3) fun r1 =>
   lr _) (
   lc (
   lx (f80_P_ok fu data a b hp3) fun r2 =>
   lx (f81_P_ok fu data a b r2.2) fun r3 =>
   lc (
   lx (f82_P_ok fu data a b r3.2) fun r4 =>
   let e5 : Int := (W ((W (b - (1 : Int))) - (W (r3.1.1 - a))))
   lc (
   lc (
   lx (f83_P_ok fu data a b r4.2) fun r6 =>
   lc (lr _) (
   lc (
   lb fun v7 =>
   lb fun _ =>
   lb fun v8 =>
   lb fun v9 =>
   lb fun v10 =>
   lb fun _ =>
   lb fun v11 =>
   lb fun v12 =>
   lx (f22_P_ok fu (v9.1, (v9.2.1, ())) (v12.1, (v12.2.1, ()))) fun r13 =>
   lc (
   lx (f84_P_ok fu data a b e5 r6.2) fun r14 =>
   ih data r14.1 b (W (limit - (1 : Int))) wasBalanced wasPartitioned r14.2) (
   lx (f85_P_ok fu data a b e5 r6.2) fun r15 =>
   let e16 : Int := (W ((W (b - a)).tdiv (8 : Int)))
   lc (ln _) (ln _))) (
   lx (f85_P_ok fu data a b e5 r6.2) fun r19 =>
   let e20 : Int := (W ((W (b - a)).tdiv (8 : Int)))
   lc (ln _) (ln _)))) (
   lc (
   lb fun v23 =>
   lb fun _ =>
   lb fun v24 =>
   lb fun v25 =>
   lb fun v26 =>
   lb fun _ =>
   lb fun v27 =>
   lb fun v28 =>
   lx (f22_P_ok fu (v25.1, (v25.2.1, ())) (v28.1, (v28.2.1, ()))) fun r29 =>
   lc (
   lx (f84_P_ok fu data a b e5 r4.2) fun r30 =>
   ih data r30.1 b (W (limit - (1 : Int))) wasBalanced wasPartitioned r30.2) (
   lx (f85_P_ok fu data a b e5 r4.2) fun r31 =>
   let e32 : Int := (W ((W (b - a)).tdiv (8 : Int)))
   lc (ln _) (ln _))) (
   lx (f85_P_ok fu data a b e5 r4.2) fun r35 =>
   let e36 : Int := (W ((W (b - a)).tdiv (8 : Int)))
   lc (ln _) (ln _)))) (
   lc (
   lb fun v39 =>
   lb fun _ =>
   lb fun v40 =>
   lb fun v41 =>
   lb fun v42 =>
   lb fun _ =>
   lb fun v43 =>
   lb fun v44 =>
   lx (f22_P_ok fu (v41.1, (v41.2.1, ())) (v44.1, (v44.2.1, ()))) fun r45 =>
   lc (
   lx (f84_P_ok fu data a b e5 r4.2) fun r46 =>
   ih data r46.1 b (W (limit - (1 : Int))) wasBalanced wasPartitioned r46.2) (
   lx (f85_P_ok fu data a b e5 r4.2) fun r47 =>
   let e48 : Int := (W ((W (b - a)).tdiv (8 : Int)))
   lc (ln _) (ln _))) (
   lx (f85_P_ok fu data a b e5 r4.2) fun r51 =>
   let e52 : Int := (W ((W (b - a)).tdiv (8 : Int)))
   lc (ln _) (ln _)))) (
   lc (
   lc (
   lc (
   lx (f83_P_ok fu data a b r3.2) fun r55 =>
   lc (lr _) (
   lc (
   lb fun v56 =>
   lb fun _ =>
   lb fun v57 =>
   lb fun v58 =>
   lb fun v59 =>
   lb fun _ =>
   lb fun v60 =>
   lb fun v61 =>
   lx (f22_P_ok fu (v58.1, (v58.2.1, ())) (v61.1, (v61.2.1, ()))) fun r62 =>
   lc (
   lx (f84_P_ok fu data a b r3.1.1 r55.2) fun r63 =>
   ih data r63.1 b (W (limit - (1 : Int))) wasBalanced wasPartitioned r63.2) (
   lx (f85_P_ok fu data a b r3.1.1 r55.2) fun r64 =>
   let e65 : Int := (W ((W (b - a)).tdiv (8 : Int)))
   lc (ln _) (ln _))) (
   lx (f85_P_ok fu data a b r3.1.1 r55.2) fun r68 =>
   let e69 : Int := (W ((W (b - a)).tdiv (8 : Int)))
   lc (ln _) (ln _)))) (
   lc (
   lb fun v72 =>
   lb fun _ =>
   lb fun v73 =>
   lb fun v74 =>
   lb fun v75 =>
   lb fun _ =>
   lb fun v76 =>
   lb fun v77 =>
   lx (f22_P_ok fu (v74.1, (v74.2.1, ())) (v77.1, (v77.2.1, ()))) fun r78 =>
   lc (
   lx (f84_P_ok fu data a b r3.1.1 r3.2) fun r79 =>
   ih data r79.1 b (W (limit - (1 : Int))) wasBalanced wasPartitioned r79.2) (
   lx (f85_P_ok fu data a b r3.1.1 r3.2) fun r80 =>
   let e81 : Int := (W ((W (b - a)).tdiv (8 : Int)))
   lc (ln _) (ln _))) (
   lx (f85_P_ok fu data a b r3.1.1 r3.2) fun r84 =>
   let e85 : Int := (W ((W (b - a)).tdiv (8 : Int)))
   lc (ln _) (ln _)))) (
   lc (
   lb fun v88 =>
   lb fun _ =>
   lb fun v89 =>
   lb fun v90 =>
   lb fun v91 =>
   lb fun _ =>
   lb fun v92 =>
   lb fun v93 =>
   lx (f22_P_ok fu (v90.1, (v90.2.1, ())) (v93.1, (v93.2.1, ()))) fun r94 =>
   lc (
   lx (f84_P_ok fu data a b r3.1.1 r3.2) fun r95 =>
   ih data r95.1 b (W (limit - (1 : Int))) wasBalanced wasPartitioned r95.2) (
   lx (f85_P_ok fu data a b r3.1.1 r3.2) fun r96 =>
   let e97 : Int := (W ((W (b - a)).tdiv (8 : Int)))
   lc (ln _) (ln _))) (
   lx (f85_P_ok fu data a b r3.1.1 r3.2) fun r100 =>
   let e101 : Int := (W ((W (b - a)).tdiv (8 : Int)))
   lc (ln _) (ln _)))) (
   lc (
   lb fun v104 =>
   lb fun _ =>
   lb fun v105 =>
   lb fun v106 =>
   lb fun v107 =>
   lb fun _ =>
   lb fun v108 =>
   lb fun v109 =>
   lx (f22_P_ok fu (v106.1, (v106.2.1, ())) (v109.1, (v109.2.1, ()))) fun r110 =>
   lc (
   lx (f84_P_ok fu data a b r3.1.1 r3.2) fun r111 =>
   ih data r111.1 b (W (limit - (1 : Int))) wasBalanced wasPartitioned r111.2) (
   lx (f85_P_ok fu data a b r3.1.1 r3.2) fun r112 =>
   let e113 : Int := (W ((W (b - a)).tdiv (8 : Int)))
   lc (ln _) (ln _))) (
   lx (f85_P_ok fu data a b r3.1.1 r3.2) fun r116 =>
   let e117 : Int := (W ((W (b - a)).tdiv (8 : Int)))
   lc (ln _) (ln _))))) (
   lx (f81_P_ok fu data a b hp3) fun r120 =>
   lc (
   lx (f82_P_ok fu data a b r120.2) fun r121 =>
   let e122 : Int := (W ((W (b - (1 : Int))) - (W (r120.1.1 - a))))
   lc (
   lc (
   lx (f83_P_ok fu data a b r121.2) fun r123 =>
   lc (lr _) (
   lc (
   lb fun v124 =>
   lb fun _ =>
   lb fun v125 =>
   lb fun v126 =>
   lb fun v127 =>
   lb fun _ =>
   lb fun v128 =>
   lb fun v129 =>
   lx (f22_P_ok fu (v126.1, (v126.2.1, ())) (v129.1, (v129.2.1, ()))) fun r130 =>
   lc (
   lx (f84_P_ok fu data a b e122 r123.2) fun r131 =>
   ih data r131.1 b limit wasBalanced wasPartitioned r131.2) (
   lx (f85_P_ok fu data a b e122 r123.2) fun r132 =>
   let e133 : Int := (W ((W (b - a)).tdiv (8 : Int)))
   lc (ln _) (ln _))) (
   lx (f85_P_ok fu data a b e122 r123.2) fun r136 =>
   let e137 : Int := (W ((W (b - a)).tdiv (8 : Int)))
   lc (ln _) (ln _)))) (
   lc (
   lb fun v140 =>
   lb fun _ =>
   lb fun v141 =>
   lb fun v142 =>
   lb fun v143 =>
   lb fun _ =>
   lb fun v144 =>
   lb fun v145 =>
   lx (f22_P_ok fu (v142.1, (v142.2.1, ())) (v145.1, (v145.2.1, ()))) fun r146 =>
   lc (
   lx (f84_P_ok fu data a b e122 r121.2) fun r147 =>
   ih data r147.1 b limit wasBalanced wasPartitioned r147.2) (
   lx (f85_P_ok fu data a b e122 r121.2) fun r148 =>
   let e149 : Int := (W ((W (b - a)).tdiv (8 : Int)))
   lc (ln _) (ln _))) (
   lx (f85_P_ok fu data a b e122 r121.2) fun r152 =>
   let e153 : Int := (W ((W (b - a)).tdiv (8 : Int)))
   lc (ln _) (ln _)))) (
   lc (
   lb fun v156 =>
   lb fun _ =>
   lb fun v157 =>
   lb fun v158 =>
   lb fun v159 =>
   lb fun _ =>
   lb fun v160 =>
   lb fun v161 =>
   lx (f22_P_ok fu (v158.1, (v158.2.1, ())) (v161.1, (v161.2.1, ()))) fun r162 =>
   lc (
   lx (f84_P_ok fu data a b e122 r121.2) fun r163 =>
   ih data r163.1 b limit wasBalanced wasPartitioned r163.2) (
   lx (f85_P_ok fu data a b e122 r121.2) fun r164 =>
   let e165 : Int := (W ((W (b - a)).tdiv (8 : Int)))
   lc (ln _) (ln _))) (
   lx (f85_P_ok fu data a b e122 r121.2) fun r168 =>
   let e169 : Int := (W ((W (b - a)).tdiv (8 : Int)))
   lc (ln _) (ln _)))) (
   lc (
   lc (
   lc (
   lx (f83_P_ok fu data a b r120.2) fun r172 =>
   lc (lr _) (
   lc (
   lb fun v173 =>
   lb fun _ =>
   lb fun v174 =>
   lb fun v175 =>
   lb fun v176 =>
   lb fun _ =>
   lb fun v177 =>
   lb fun v178 =>
   lx (f22_P_ok fu (v175.1, (v175.2.1, ())) (v178.1, (v178.2.1, ()))) fun r179 =>
   lc (
   lx (f84_P_ok fu data a b r120.1.1 r172.2) fun r180 =>
   ih data r180.1 b limit wasBalanced wasPartitioned r180.2) (
   lx (f85_P_ok fu data a b r120.1.1 r172.2) fun r181 =>
   let e182 : Int := (W ((W (b - a)).tdiv (8 : Int)))
   lc (ln _) (ln _))) (
   lx (f85_P_ok fu data a b r120.1.1 r172.2) fun r185 =>
   let e186 : Int := (W ((W (b - a)).tdiv (8 : Int)))
   lc (ln _) (ln _)))) (
   lc (
   lb fun v189 =>
   lb fun _ =>
   lb fun v190 =>
   lb fun v191 =>
   lb fun v192 =>
   lb fun _ =>
   lb fun v193 =>
   lb fun v194 =>
   lx (f22_P_ok fu (v191.1, (v191.2.1, ())) (v194.1, (v194.2.1, ()))) fun r195 =>
   lc (
   lx (f84_P_ok fu data a b r120.1.1 r120.2) fun r196 =>
   ih data r196.1 b limit wasBalanced wasPartitioned r196.2) (
   lx (f85_P_ok fu data a b r120.1.1 r120.2) fun r197 =>
   let e198 : Int := (W ((W (b - a)).tdiv (8 : Int)))
   lc (ln _) (ln _))) (
   lx (f85_P_ok fu data a b r120.1.1 r120.2) fun r201 =>
   let e202 : Int := (W ((W (b - a)).tdiv (8 : Int)))
   lc (ln _) (ln _)))) (
   lc (
   lb fun v205 =>
   lb fun _ =>
   lb fun v206 =>
   lb fun v207 =>
   lb fun v208 =>
   lb fun _ =>
   lb fun v209 =>
   lb fun v210 =>
   lx (f22_P_ok fu (v207.1, (v207.2.1, ())) (v210.1, (v210.2.1, ()))) fun r211 =>
   lc (
   lx (f84_P_ok fu data a b r120.1.1 r120.2) fun r212 =>
   ih data r212.1 b limit wasBalanced wasPartitioned r212.2) (
   lx (f85_P_ok fu data a b r120.1.1 r120.2) fun r213 =>
   let e214 : Int := (W ((W (b - a)).tdiv (8 : Int)))
   lc (ln _) (ln _))) (
   lx (f85_P_ok fu data a b r120.1.1 r120.2) fun r217 =>
   let e218 : Int := (W ((W (b - a)).tdiv (8 : Int)))
   lc (ln _) (ln _)))) (
   lc (
   lb fun v221 =>
   lb fun _ =>
   lb fun v222 =>
   lb fun v223 =>
   lb fun v224 =>
   lb fun _ =>
   lb fun v225 =>
   lb fun v226 =>
   lx (f22_P_ok fu (v223.1, (v223.2.1, ())) (v226.1, (v226.2.1, ()))) fun r227 =>
   lc (
   lx (f84_P_ok fu data a b r120.1.1 r120.2) fun r228 =>
   ih data r228.1 b limit wasBalanced wasPartitioned r228.2) (
   lx (f85_P_ok fu data a b r120.1.1 r120.2) fun r229 =>
   let e230 : Int := (W ((W (b - a)).tdiv (8 : Int)))
   lc (ln _) (ln _))) (
   lx (f85_P_ok fu data a b r120.1.1 r120.2) fun r233 =>
   let e234 : Int := (W ((W (b - a)).tdiv (8 : Int)))
   lc (ln _) (ln _))))))))
def f52_P (fu : Nat) (data : Nat) (a : Int) (b : Int) (limit : Int) (hp3 : List Os) : Option ((Unit) × (List Os)) :=
 (f52_Ls fu) data a b limit true true hp3
theorem f52_P_ok (fu : Nat) (data : Nat) (a : Int) (b : Int) (limit : Int) (hp3 : List Os) : Le (f52_P fu data a b limit hp3) (f52 data a b limit hp3) := le (f52_eq data a b limit hp3) (
 (f52_Ls_ok fu) data a b limit true true hp3)
end Go.Proofs.YtofjebmoebhiiaaGreatDoor.Ev
