/- YtofjebmoebhiiaaGreatDoorXg: a part of the proof (P1). No condition. -/
import Derived.Test.YtofjebmoebhiiaaGreatDoorXf
set_option linter.unusedVariables false
set_option maxRecDepth 100000
set_option exponentiation.threshold 2000
namespace Go.Proofs.YtofjebmoebhiiaaGreatDoor.Ev
open Go.Abs
def f104_Ls : Nat → ((ByteArray) → (Bool) → (List Int) → (Bool) → (List Int) → (List Int) → (Int) → (List Int) → Option (ByteArray × ByteArray)) × ((ByteArray) → (Bool) → (List Int) → (Bool) → (List Int) → (List Int) → (Int) → (Int) → (List Int) → Option (ByteArray × ByteArray)) × ((ByteArray) → (Bool) → (Bool) → (List Int) → (Int) → (List Int) → Option (ByteArray × ByteArray))
 | 0 => (fun _ _ _ _ _ _ _ _ => none, fun _ _ _ _ _ _ _ _ _ => none, fun _ _ _ _ _ _ => none)
 | fu + 1 => (fun b p x s y r i q =>
  bif (decide (i ≥ (0 : Int))) then
   (idx x i).bind fun v0 =>
   bif (okApp 8 1 1 r.length) then
    (f94_P fu (([v0] : List Int) ++ r)).bind fun r1 =>
    (f104_Ls fu).2.1 b p x s y r1 i (0 : Int) q
   else
    none
  else
   (f104_Ls fu).2.2 b p s r (0 : Int) q,
  fun b p x s y r i k q =>
  (f92_P fu r y).bind fun r0 =>
  bif (decide (r0 ≥ (0 : Int))) then
   (f112_P fu r y).bind fun r1 =>
   (f104_Ls fu).2.1 b p x s y r1 i (W (k + (1 : Int))) q
  else
   bif (okApp 8 1 q.length 1) then
    (f104_Ls fu).1 b p x s y r (W (i - (1 : Int))) (q ++ ([k] : List Int))
   else
    none,
  fun b p s r i q =>
  let e0 : Int := (W ((q.length : Int).tdiv (2 : Int)))
  bif (decide (i < e0)) then
   let e1 : Int := (W ((q.length : Int) - (1 : Int)))
   let e2 : Int := (W ((q.length : Int) - (1 : Int)))
   (idx q (W (e2 - i))).bind fun _ =>
   (q[(W (e2 - i)).toNat]?).bind fun v3 =>
   (idx q i).bind fun _ =>
   (q[i.toNat]?).bind fun v4 =>
   (idx q i).bind fun _ =>
   (q[i.toNat]?).bind fun v5 =>
   (idx (q.set i.toNat v3) (W (e1 - i))).bind fun _ =>
   ((q.set i.toNat v3)[(W (e1 - i)).toNat]?).bind fun v6 =>
   let e7 : List Int := ((q.set i.toNat v3).set (W (e1 - i)).toNat v4)
   (f104_Ls fu).2.2 b p s r (W (i + (1 : Int))) e7
  else
   (f62_P fu (!(p == s)) q).bind fun r8 =>
   (f62_P fu p r).bind fun r9 =>
   bif (!(r9.toList == (bs [48]).toList)) then
    bif (!(p == s)) then
     (f113_P fu r8 (bs [49])).bind fun r10 =>
     (f114_P fu r9 b).bind fun r11 =>
     some (r10, r11)
    else
     some (r8, r9)
   else
    some (r8, r9))
theorem f104_Ls_ok : ∀ fu, (∀ (b : ByteArray) (p : Bool) (x : List Int) (s : Bool) (y : List Int) (r : List Int) (i : Int) (q : List Int), Le ((f104_Ls fu).1 b p x s y r i q) (f104_L0 b p x s y r i q)) ∧ (∀ (b : ByteArray) (p : Bool) (x : List Int) (s : Bool) (y : List Int) (r : List Int) (i : Int) (k : Int) (q : List Int), Le ((f104_Ls fu).2.1 b p x s y r i k q) (f104_L1 b p x s y r i k q)) ∧ (∀ (b : ByteArray) (p : Bool) (s : Bool) (r : List Int) (i : Int) (q : List Int), Le ((f104_Ls fu).2.2 b p s r i q) (f104_L2 b p s r i q))
 | 0 => ⟨(fun _ _ _ _ _ _ _ _ => ln _),
  (fun _ _ _ _ _ _ _ _ _ => ln _),
  (fun _ _ _ _ _ _ => ln _)⟩
 | fu + 1 => by
  have ih := f104_Ls_ok fu
  exact ⟨(fun b p x s y r i q => le (f104_L0_eq b p x s y r i q) (
   lc (
   lb fun v0 =>
   lc (
   lx (f94_P_ok fu (([v0] : List Int) ++ r)) fun r1 =>
   ih.2.1 b p x s y r1 i (0 : Int) q) (lr _)) (
   ih.2.2 b p s r (0 : Int) q))),
  (fun b p x s y r i k q => le (f104_L1_eq b p x s y r i k q) (
   lx (f92_P_ok fu r y) fun r0 =>
   lc (
   lx (f112_P_ok fu r y) fun r1 =>
   ih.2.1 b p x s y r1 i (W (k + (1 : Int))) q) (
   lc (
   ih.1 b p x s y r (W (i - (1 : Int))) (q ++ ([k] : List Int))) (lr _)))),
  (fun b p s r i q => le (f104_L2_eq b p s r i q) (
   let e0 : Int := (W ((q.length : Int).tdiv (2 : Int)))
   lc (
   let e1 : Int := (W ((q.length : Int) - (1 : Int)))
   let e2 : Int := (W ((q.length : Int) - (1 : Int)))
   lb fun _ =>
   lb fun v3 =>
   lb fun _ =>
   lb fun v4 =>
   lb fun _ =>
   lb fun v5 =>
   lb fun _ =>
   lb fun v6 =>
   let e7 : List Int := ((q.set i.toNat v3).set (W (e1 - i)).toNat v4)
   ih.2.2 b p s r (W (i + (1 : Int))) e7) (
   lx (f62_P_ok fu (!(p == s)) q) fun r8 =>
   lx (f62_P_ok fu p r) fun r9 =>
   lc (
   lc (
   lx (f113_P_ok fu r8 (bs [49])) fun r10 =>
   lx (f114_P_ok fu r9 b) fun r11 =>
   lr _) (lr _)) (lr _))))⟩
def f104_P (fu : Nat) (a : ByteArray) (b : ByteArray) : Option (ByteArray × ByteArray) :=
 (f93_P fu a).bind fun r0 =>
 (f93_P fu b).bind fun r1 =>
 bif r0.2 then
  bif r1.2 then
   bif (!(r1.1 == 0)) then
    bif (!(r1.1 == 0)) then
     bif ((r0.1.tmod r1.1) != (0 : Int)) then
      bif (!((decide ((r0.1.tmod r1.1) < (0 : Int))) == (decide (r1.1 < (0 : Int))))) then
       let e2 : Int := (W ((W (r0.1.tdiv r1.1)) - (1 : Int)))
       (f87_P fu e2).bind fun r3 =>
       (f87_P fu (W ((r0.1.tmod r1.1) + r1.1))).bind fun r4 =>
       some (r3, r4)
      else
       (f87_P fu (W (r0.1.tdiv r1.1))).bind fun r5 =>
       (f87_P fu (r0.1.tmod r1.1)).bind fun r6 =>
       some (r5, r6)
     else
      (f87_P fu (W (r0.1.tdiv r1.1))).bind fun r7 =>
      (f87_P fu (r0.1.tmod r1.1)).bind fun r8 =>
      some (r7, r8)
    else
     none
   else
    none
  else
   (f61_P fu a).bind fun r9 =>
   (f61_P fu b).bind fun r10 =>
   let e11 : Int := (W ((r10.2.length : Int) - (1 : Int)))
   let e12 : Int := (bif decide (e11 > (0 : Int)) then e11 else (0 : Int))
   let e13 : Int := (bif decide ((W ((r9.2.length : Int) - e12)) > (0 : Int)) then (W ((r9.2.length : Int) - e12)) else (0 : Int))
   bif (inCut r9.2.length e13 (r9.2.length : Int)) then
    bif (okApp 8 1 0 (cut r9.2 e13 (r9.2.length : Int)).length) then
     let e14 : List Int := (([] : List Int) ++ (cut r9.2 e13 (r9.2.length : Int)))
     (f94_P fu e14).bind fun r15 =>
     (f104_Ls fu).1 b r9.1 r9.2 r10.1 r10.2 r15 (W (e13 - (1 : Int))) ([] : List Int)
    else
     none
   else
    none
 else
  (f61_P fu a).bind fun r16 =>
  (f61_P fu b).bind fun r17 =>
  let e18 : Int := (W ((r17.2.length : Int) - (1 : Int)))
  let e19 : Int := (bif decide (e18 > (0 : Int)) then e18 else (0 : Int))
  let e20 : Int := (bif decide ((W ((r16.2.length : Int) - e19)) > (0 : Int)) then (W ((r16.2.length : Int) - e19)) else (0 : Int))
  bif (inCut r16.2.length e20 (r16.2.length : Int)) then
   bif (okApp 8 1 0 (cut r16.2 e20 (r16.2.length : Int)).length) then
    let e21 : List Int := (([] : List Int) ++ (cut r16.2 e20 (r16.2.length : Int)))
    (f94_P fu e21).bind fun r22 =>
    (f104_Ls fu).1 b r16.1 r16.2 r17.1 r17.2 r22 (W (e20 - (1 : Int))) ([] : List Int)
   else
    none
  else
   none
theorem f104_P_ok (fu : Nat) (a : ByteArray) (b : ByteArray) : Le (f104_P fu a b) (f104 a b) := le (f104_eq a b) (
 lx (f93_P_ok fu a) fun r0 =>
 lx (f93_P_ok fu b) fun r1 =>
 lc (
 lc (
 lc (
 lc (
 lc (
 lc (
 let e2 : Int := (W ((W (r0.1.tdiv r1.1)) - (1 : Int)))
 lx (f87_P_ok fu e2) fun r3 =>
 lx (f87_P_ok fu (W ((r0.1.tmod r1.1) + r1.1))) fun r4 =>
 lr _) (
 lx (f87_P_ok fu (W (r0.1.tdiv r1.1))) fun r5 =>
 lx (f87_P_ok fu (r0.1.tmod r1.1)) fun r6 =>
 lr _)) (
 lx (f87_P_ok fu (W (r0.1.tdiv r1.1))) fun r7 =>
 lx (f87_P_ok fu (r0.1.tmod r1.1)) fun r8 =>
 lr _)) (lr _)) (lr _)) (
 lx (f61_P_ok fu a) fun r9 =>
 lx (f61_P_ok fu b) fun r10 =>
 let e11 : Int := (W ((r10.2.length : Int) - (1 : Int)))
 let e12 : Int := (bif decide (e11 > (0 : Int)) then e11 else (0 : Int))
 let e13 : Int := (bif decide ((W ((r9.2.length : Int) - e12)) > (0 : Int)) then (W ((r9.2.length : Int) - e12)) else (0 : Int))
 lc (
 lc (
 let e14 : List Int := (([] : List Int) ++ (cut r9.2 e13 (r9.2.length : Int)))
 lx (f94_P_ok fu e14) fun r15 =>
 (f104_Ls_ok fu).1 b r9.1 r9.2 r10.1 r10.2 r15 (W (e13 - (1 : Int))) ([] : List Int)) (lr _)) (lr _))) (
 lx (f61_P_ok fu a) fun r16 =>
 lx (f61_P_ok fu b) fun r17 =>
 let e18 : Int := (W ((r17.2.length : Int) - (1 : Int)))
 let e19 : Int := (bif decide (e18 > (0 : Int)) then e18 else (0 : Int))
 let e20 : Int := (bif decide ((W ((r16.2.length : Int) - e19)) > (0 : Int)) then (W ((r16.2.length : Int) - e19)) else (0 : Int))
 lc (
 lc (
 let e21 : List Int := (([] : List Int) ++ (cut r16.2 e20 (r16.2.length : Int)))
 lx (f94_P_ok fu e21) fun r22 =>
 (f104_Ls_ok fu).1 b r16.1 r16.2 r17.1 r17.2 r22 (W (e20 - (1 : Int))) ([] : List Int)) (lr _)) (lr _)))
def f18_P (fu : Nat) (a : ByteArray) : Option (((Bool × (List Int) × Unit) × (Bool × (List Int) × Unit) × Unit) × Bool) :=
 (f38_P fu a (bs [47])).bind fun r0 =>
 (f39_P fu r0.1).bind fun r1 =>
 bif (!r1.2) then
  (f40_P fu (1 : Int)).bind fun r2 =>
  some (((r1.1.1, (r1.1.2.1, ())), ((r2.1, (r2.2.1, ())), ())), r1.2)
 else
  bif (!r0.2.2) then
   (f40_P fu (1 : Int)).bind fun r3 =>
   some (((r1.1.1, (r1.1.2.1, ())), ((r3.1, (r3.2.1, ())), ())), r1.2)
  else
   (f39_P fu r0.2.1).bind fun r4 =>
   bif (!r4.2) then
    some (((false, (([] : List Int), ())), ((false, (([] : List Int), ())), ())), false)
   else
    (f41_P fu (r1.1.1, (r1.1.2.1, ()))).bind fun r5 =>
    bif (r5 == (0 : Int)) then
     some (((false, (([] : List Int), ())), ((false, (([] : List Int), ())), ())), false)
    else
     (f40_P fu (1 : Int)).bind fun r6 =>
     (f42_P fu (r4.1.1, (r4.1.2.1, ())) (r6.1, (r6.2.1, ()))).bind fun r7 =>
     bif (decide (r7 ≤ (0 : Int))) then
      some (((false, (([] : List Int), ())), ((false, (([] : List Int), ())), ())), false)
     else
      (f43_P fu (r1.1.1, (r1.1.2.1, ())) (r4.1.1, (r4.1.2.1, ()))).bind fun r8 =>
      (f40_P fu (1 : Int)).bind fun r9 =>
      (f42_P fu (r8.1, (r8.2.1, ())) (r9.1, (r9.2.1, ()))).bind fun r10 =>
      bif (r10 != (0 : Int)) then
       some (((false, (([] : List Int), ())), ((false, (([] : List Int), ())), ())), false)
      else
       some (((r1.1.1, (r1.1.2.1, ())), ((r4.1.1, (r4.1.2.1, ())), ())), true)
theorem f18_P_ok (fu : Nat) (a : ByteArray) : Le (f18_P fu a) (f18 a) := le (f18_eq a) (
 lx (f38_P_ok fu a (bs [47])) fun r0 =>
 lx (f39_P_ok fu r0.1) fun r1 =>
 lc (
 lx (f40_P_ok fu (1 : Int)) fun r2 =>
 lr _) (
 lc (
 lx (f40_P_ok fu (1 : Int)) fun r3 =>
 lr _) (
 lx (f39_P_ok fu r0.2.1) fun r4 =>
 lc (lr _) (
 lx (f41_P_ok fu (r1.1.1, (r1.1.2.1, ()))) fun r5 =>
 lc (lr _) (
 lx (f40_P_ok fu (1 : Int)) fun r6 =>
 lx (f42_P_ok fu (r4.1.1, (r4.1.2.1, ())) (r6.1, (r6.2.1, ()))) fun r7 =>
 lc (lr _) (
 lx (f43_P_ok fu (r1.1.1, (r1.1.2.1, ())) (r4.1.1, (r4.1.2.1, ()))) fun r8 =>
 lx (f40_P_ok fu (1 : Int)) fun r9 =>
 lx (f42_P_ok fu (r8.1, (r8.2.1, ())) (r9.1, (r9.2.1, ()))) fun r10 =>
 lc (lr _) (lr _)))))))
def f21_P (fu : Nat) (x : Nat) (hp3 : List Os) : Option ((Unit) × (List Os)) :=
 (hget hp3 x).bind fun v0 =>
 (f53_P fu (IntKind.wrap .u64 (v0.length : Int))).bind fun r1 =>
 (f52_P fu x (0 : Int) (v0.length : Int) r1 hp3).bind fun r2 =>
 some ((), r2.2)
theorem f21_P_ok (fu : Nat) (x : Nat) (hp3 : List Os) : Le (f21_P fu x hp3) (f21 x hp3) := le (f21_eq x hp3) (
 lb fun v0 =>
 lx (f53_P_ok fu (IntKind.wrap .u64 (v0.length : Int))) fun r1 =>
 lx (f52_P_ok fu x (0 : Int) (v0.length : Int) r1 hp3) fun r2 =>
 lr _)
def f63_P (fu : Nat) (a : ByteArray) : Option (((Bool × (List Int) × Unit) × (Bool × (List Int) × Unit) × Unit) × Bool) :=
 (f18_P fu a).bind fun r0 =>
 bif r0.2 then
  (f95_P fu ((r0.1.1.1, (r0.1.1.2.1, ())), ((r0.1.2.1.1, (r0.1.2.1.2.1, ())), ()))).bind fun r1 =>
  some (((r0.1.1.1, (r0.1.1.2.1, ())), ((r0.1.2.1.1, (r0.1.2.1.2.1, ())), ())), (!r1))
 else
  some (((r0.1.1.1, (r0.1.1.2.1, ())), ((r0.1.2.1.1, (r0.1.2.1.2.1, ())), ())), false)
theorem f63_P_ok (fu : Nat) (a : ByteArray) : Le (f63_P fu a) (f63 a) := le (f63_eq a) (
 lx (f18_P_ok fu a) fun r0 =>
 lc (
 lx (f95_P_ok fu ((r0.1.1.1, (r0.1.1.2.1, ())), ((r0.1.2.1.1, (r0.1.2.1.2.1, ())), ()))) fun r1 =>
 lr _) (lr _))
def f91_Ls : Nat → ((ByteArray) → (ByteArray) → Option (ByteArray))
 | 0 => (fun _ _ => none)
 | fu + 1 => (fun x y =>
  bif (!(y.toList == (bs [48]).toList)) then
   (f104_P fu x y).bind fun r0 =>
   (f91_Ls fu) y r0.2
  else
   some x)
theorem f91_Ls_ok : ∀ fu, (∀ (x : ByteArray) (y : ByteArray), Le ((f91_Ls fu) x y) (f91_L0 x y))
 | 0 => fun _ _ => ln _
 | fu + 1 => by
  have ih := f91_Ls_ok fu
  exact fun x y => le (f91_L0_eq x y) (
   lc (
   lx (f104_P_ok fu x y) fun r0 =>
   ih y r0.2) (lr _))
def f91_P (fu : Nat) (a : ByteArray) (b : ByteArray) : Option (ByteArray) :=
 (f106_P fu a).bind fun r0 =>
 (f106_P fu b).bind fun r1 =>
 (f91_Ls fu) r0 r1
theorem f91_P_ok (fu : Nat) (a : ByteArray) (b : ByteArray) : Le (f91_P fu a b) (f91 a b) := le (f91_eq a b) (
 lx (f106_P_ok fu a) fun r0 =>
 lx (f106_P_ok fu b) fun r1 =>
 (f91_Ls_ok fu) r0 r1)
def f31_P (fu : Nat) (a : ByteArray) : Option (Bool) :=
 (f63_P fu a).bind fun r0 =>
 some r0.2
theorem f31_P_ok (fu : Nat) (a : ByteArray) : Le (f31_P fu a) (f31 a) := le (f31_eq a) (
 lx (f63_P_ok fu a) fun r0 =>
 lr _)
def f58_P (fu : Nat) (a : ByteArray) : Option (Bool) :=
 (f28_P fu a).bind fun r0 =>
 (f90_P fu r0.1).bind fun r1 =>
 bif (!r1) then
  some false
 else
  bif (!r0.2.2) then
   some true
  else
   (f90_P fu r0.2.1).bind fun r2 =>
   bif r2 then
    bif (!(r0.1.toList == (bs [48]).toList)) then
     (f59_P fu r0.2.1 (bs [50])).bind fun r3 =>
     bif (decide (r3 ≥ (0 : Int))) then
      (f91_P fu r0.1 r0.2.1).bind fun r4 =>
      some (r4.toList == (bs [49]).toList)
     else
      some false
    else
     some false
   else
    some false
theorem f58_P_ok (fu : Nat) (a : ByteArray) : Le (f58_P fu a) (f58 a) := le (f58_eq a) (
 lx (f28_P_ok fu a) fun r0 =>
 lx (f90_P_ok fu r0.1) fun r1 =>
 lc (lr _) (
 lc (lr _) (
 lx (f90_P_ok fu r0.2.1) fun r2 =>
 lc (
 lc (
 lx (f59_P_ok fu r0.2.1 (bs [50])) fun r3 =>
 lc (
 lx (f91_P_ok fu r0.1 r0.2.1) fun r4 =>
 lr _) (lr _)) (lr _)) (lr _))))
def f17_Ls : Nat → (Cs → (Int) → (Int) → (Int) → Cs → (Bool) → (List Int) → (Bool) → (List Int) → Option (Int))
 | 0 => (fun _ _ _ _ _ _ _ _ _ => none)
 | fu + 1 => (fun t t2 t3 c c2 last last2 last3 last4 =>
  bif (decide (t3 < t2)) then
   (idx t t3).bind fun v0 =>
   (f18_P fu v0.2.1).bind fun r1 =>
   bif (decide (v0.1 < (0 : Int))) then
    some (1 : Int)
   else
    bif (decide (v0.1 > (4 : Int))) then
     some (1 : Int)
    else
     bif (!r1.2) then
      some (1 : Int)
     else
      (f31_P fu v0.2.1).bind fun r2 =>
      bif (!r2) then
       some (1 : Int)
      else
       (f32_P fu c v0.2.2.1).bind fun r3 =>
       bif (r3 != (0 : Int)) then
        some r3
       else
        (f126_P fu v0.2.2.1 t3).bind fun r4 =>
        bif r4 then
         some (7 : Int)
        else
         (f127_P fu v0.2.2.1 ((c, (c2, ())), (v0.1, (v0.2.1, (v0.2.2.1, ()))))).bind fun r5 =>
         bif r5 then
          some (10 : Int)
         else
          (f35_P fu (c, (c2, ())) v0.2.2.1).bind fun r6 =>
          bif (decide ((r6.length : Int) > (0 : Int))) then
           some (11 : Int)
          else
           bif (decide (t3 > (0 : Int))) then
            (f37_P fu ((r1.1.1.1, (r1.1.1.2.1, ())), ((r1.1.2.1.1, (r1.1.2.1.2.1, ())), ())) ((last, (last2, ())), ((last3, (last4, ())), ()))).bind fun r7 =>
            bif (decide (r7 < (0 : Int))) then
             some (6 : Int)
            else
             (f17_Ls fu) t t2 (W (t3 + (1 : Int))) c c2 r1.1.1.1 r1.1.1.2.1 r1.1.2.1.1 r1.1.2.1.2.1
           else
            (f17_Ls fu) t t2 (W (t3 + (1 : Int))) c c2 r1.1.1.1 r1.1.1.2.1 r1.1.2.1.1 r1.1.2.1.2.1
  else
   some (0 : Int))
theorem f17_Ls_ok : ∀ fu, (∀ (t : List Cl) (t2 : Int) (t3 : Int) (c : Int) (c2 : List Cl) (last : Bool) (last2 : List Int) (last3 : Bool) (last4 : List Int), Le ((f17_Ls fu) t t2 t3 c c2 last last2 last3 last4) (f17_L0 t t2 t3 c c2 last last2 last3 last4))
 | 0 => fun _ _ _ _ _ _ _ _ _ => ln _
 | fu + 1 => by
  have ih := f17_Ls_ok fu
  exact fun t t2 t3 c c2 last last2 last3 last4 => le (f17_L0_eq t t2 t3 c c2 last last2 last3 last4) (
   lc (
   lb fun v0 =>
   lx (f18_P_ok fu v0.2.1) fun r1 =>
   lc (lr _) (
   lc (lr _) (
   lc (lr _) (
   lx (f31_P_ok fu v0.2.1) fun r2 =>
   lc (lr _) (
   lx (f32_P_ok fu c v0.2.2.1) fun r3 =>
   lc (lr _) (
   lx (f126_P_ok fu v0.2.2.1 t3) fun r4 =>
   lc (lr _) (
   lx (f127_P_ok fu v0.2.2.1 ((c, (c2, ())), (v0.1, (v0.2.1, (v0.2.2.1, ()))))) fun r5 =>
   lc (lr _) (
   lx (f35_P_ok fu (c, (c2, ())) v0.2.2.1) fun r6 =>
   lc (lr _) (
   lc (
   lx (f37_P_ok fu ((r1.1.1.1, (r1.1.1.2.1, ())), ((r1.1.2.1.1, (r1.1.2.1.2.1, ())), ())) ((last, (last2, ())), ((last3, (last4, ())), ()))) fun r7 =>
   lc (lr _) (
   ih t t2 (W (t3 + (1 : Int))) c c2 r1.1.1.1 r1.1.1.2.1 r1.1.2.1.1 r1.1.2.1.2.1)) (
   ih t t2 (W (t3 + (1 : Int))) c c2 r1.1.1.1 r1.1.1.2.1 r1.1.2.1.1 r1.1.2.1.2.1)))))))))) (lr _))
def f17_P (fu : Nat) (c : Int × Cs × Unit) : Option (Int) :=
 (f30_P fu c.1).bind fun r0 =>
 bif (!r0) then
  some (8 : Int)
 else
  bif (decide ((c.2.1.length : Int) > (1024 : Int))) then
   some (3 : Int)
  else
   (f17_Ls fu) c.2.1 (c.2.1.length : Int) (0 : Int) c.1 c.2.1 false ([] : List Int) false ([] : List Int)
theorem f17_P_ok (fu : Nat) (c : Int × Cs × Unit) : Le (f17_P fu c) (f17 c) := le (f17_eq c) (
 lx (f30_P_ok fu c.1) fun r0 =>
 lc (lr _) (
 lc (lr _) (
 (f17_Ls_ok fu) c.2.1 (c.2.1.length : Int) (0 : Int) c.1 c.2.1 false ([] : List Int) false ([] : List Int))))
def f26_P (fu : Nat) (a : ByteArray) : Option (Bool) :=
 (f57_P fu a).bind fun r0 =>
 bif (!r0) then
  (f58_P fu a).bind fun r1 =>
  some r1
 else
  some false
theorem f26_P_ok (fu : Nat) (a : ByteArray) : Le (f26_P fu a) (f26 a) := le (f26_eq a) (
 lx (f57_P_ok fu a) fun r0 =>
 lc (
 lx (f58_P_ok fu a) fun r1 =>
 lr _) (lr _))
def f54_P (fu : Nat) (f : List ((List Int) × ByteArray × Unit)) (i : Int) : Option (Int) :=
 (idx f i).bind fun v0 =>
 (f88_P fu v0.1).bind fun r1 =>
 bif (r1 != (0 : Int)) then
  some r1
 else
  (idx f i).bind fun v2 =>
  (f26_P fu v2.2.1).bind fun r3 =>
  bif (!r3) then
   some (1 : Int)
  else
   (idx f i).bind fun v4 =>
   (f55_P fu f i v4.1).bind fun r5 =>
   bif (decide (r5 ≥ (0 : Int))) then
    some (5 : Int)
   else
    some (0 : Int)
theorem f54_P_ok (fu : Nat) (f : List ((List Int) × ByteArray × Unit)) (i : Int) : Le (f54_P fu f i) (f54 f i) := le (f54_eq f i) (
 lb fun v0 =>
 lx (f88_P_ok fu v0.1) fun r1 =>
 lc (lr _) (
 lb fun v2 =>
 lx (f26_P_ok fu v2.2.1) fun r3 =>
 lc (lr _) (
 lb fun v4 =>
 lx (f55_P_ok fu f i v4.1) fun r5 =>
 lc (lr _) (lr _))))
def f121_P (fu : Nat) (c : Int × Cs × Unit) (hp3 : List Os) : Option ((Nat × Tm × Int) × (List Os)) :=
 (f17_P fu (c.1, (c.2.1, ()))).bind fun r0 =>
 bif (r0 != (0 : Int)) then
  some (((0 : Nat), ((0 : Int), ((0 : Int), ())), r0), hp3)
 else
  (f123_P fu (c.1, (c.2.1, ())) hp3).bind fun r1 =>
  some ((r1.1.1, (r1.1.2.1, (r1.1.2.2.1, ())), (0 : Int)), r1.2)
theorem f121_P_ok (fu : Nat) (c : Int × Cs × Unit) (hp3 : List Os) : Le (f121_P fu c hp3) (f121 c hp3) := le (f121_eq c hp3) (
 lx (f17_P_ok fu (c.1, (c.2.1, ()))) fun r0 =>
 lc (lr _) (
 lx (f123_P_ok fu (c.1, (c.2.1, ())) hp3) fun r1 =>
 lr _))
def f122_P (fu : Nat) (c : Int × Cs × Unit) (hp3 : List Os) : Option ((Nat × Tm × Int) × (List Os)) :=
 (f17_P fu (c.1, (c.2.1, ()))).bind fun r0 =>
 bif (r0 != (0 : Int)) then
  some (((0 : Nat), ((0 : Int), ((0 : Int), ())), r0), hp3)
 else
  (f124_P fu (c.1, (c.2.1, ())) hp3).bind fun r1 =>
  some ((r1.1.1, (r1.1.2.1, (r1.1.2.2.1, ())), (0 : Int)), r1.2)
theorem f122_P_ok (fu : Nat) (c : Int × Cs × Unit) (hp3 : List Os) : Le (f122_P fu c hp3) (f122 c hp3) := le (f122_eq c hp3) (
 lx (f17_P_ok fu (c.1, (c.2.1, ()))) fun r0 =>
 lc (lr _) (
 lx (f124_P_ok fu (c.1, (c.2.1, ())) hp3) fun r1 =>
 lr _))
def f1_Ls : Nat → ((Int) → (Int) → (Int) → (Int) → Cs → (Int) → (Nat) → (Int) → (Nat) → (List (Option (List Cn))) → Option ((Int × Cs × Unit) × Int)) × ((Int) → (Int) → (Int) → Cs → (Int) → (Nat) → (Int) → (Nat) → (List (Option (List Cn))) → Option ((Int × Cs × Unit) × Int)) × ((Int) → (Int) → Ts → (Int) → (Int) → (Int) → Cs → (Int) → (Nat) → (Int) → (Nat) → (List (Option (List Cn))) → Option ((Int × Cs × Unit) × Int)) × ((Int) → (Int) → Ts → (Int) → (Int) → (Int) → Cs → (Int) → (Nat) → (Int) → (Nat) → (List (Option (List Cn))) → (List Os) → Option ((Int × Cs × Unit) × Int)) × ((Int) → (Int) → (Int) → Cs → (Int) → (Nat) → (Int) → (Nat) → (List (Option (List Cn))) → (List Os) → Option ((Int × Cs × Unit) × Int))
 | 0 => (fun _ _ _ _ _ _ _ _ _ _ => none, fun _ _ _ _ _ _ _ _ _ => none, fun _ _ _ _ _ _ _ _ _ _ _ _ => none, fun _ _ _ _ _ _ _ _ _ _ _ _ _ => none, fun _ _ _ _ _ _ _ _ _ _ => none)
 | fu + 1 => (fun last t t2 c c2 t3 t4 out out2 hp1 =>
  bif (decide (t2 < t)) then
   (idx c2 (W (last - t2))).bind fun v0 =>
   (f18_P fu v0.2.1).bind fun r1 =>
   (f19_P fu ((r1.1.1.1, (r1.1.1.2.1, ())), ((r1.1.2.1.1, (r1.1.2.1.2.1, ())), ()))).bind fun r2 =>
   (f20_P fu ((r2.1.1, (r2.1.2.1, ())), ((r2.2.1.1, (r2.2.1.2.1, ())), ()))).bind fun r3 =>
   (hget hp1 out2).bind fun v4 =>
   (idx v4 t2).bind fun _ =>
   (hget hp1 out2).bind fun v5 =>
   (v5[t2.toNat]?).bind fun v6 =>
   let e7 : List (Option (List Cn)) := (hset hp1 out2 (v5.set t2.toNat ((W ((4 : Int) - v0.1)), (v6.2.1, (v6.2.2.1, ())))))
   (hget e7 out2).bind fun v8 =>
   (idx v8 t2).bind fun _ =>
   (hget e7 out2).bind fun v9 =>
   (v9[t2.toNat]?).bind fun v10 =>
   let e11 : List (Option (List Cn)) := (hset e7 out2 (v9.set t2.toNat (v10.1, (r3, (v10.2.2.1, ())))))
   (f1_Ls fu).1 last t (W (t2 + (1 : Int))) c c2 t3 t4 out out2 e11
  else
   (f1_Ls fu).2.1 last last c c2 t3 t4 out out2 hp1,
  fun last k c c2 t t2 out out2 hp1 =>
  bif (decide (k ≥ (0 : Int))) then
   (idx c2 k).bind fun v0 =>
   (f1_Ls fu).2.2.1 last k v0.2.2.1 (v0.2.2.1.length : Int) (0 : Int) c c2 t t2 out out2 hp1
  else
   (res2 (typed [⟨42, .st yC, 0, true, ([] : List (Option Cs))⟩, ⟨42, .st yR, 0, true, hp1⟩, ⟨44, .st yT, 0, true, ([] : List Os)⟩, ⟨58, .st yT, 0, true, ([] : List Os)⟩, ⟨3, .int .i64, 0, true, ([] : List (Option (List Int)))⟩] (.st (.pair (.int .i64) (.pair (.slice (.st yC)) (.unit)))) (.rv (.agg [⟨.int .i64, out⟩, ⟨.ref 1, out2⟩]))) (some (0 : Int))).bind fun v1 =>
   some v1,
  fun last k t t2 t3 c c2 t4 t5 out out2 hp1 =>
  bif (decide (t3 < t2)) then
   (idx t t3).bind fun v0 =>
   (hget hp1 out2).bind fun v1 =>
   (idx v1 (W (last - v0.1))).bind fun _ =>
   (hget hp1 out2).bind fun v2 =>
   (v2[(W (last - v0.1)).toNat]?).bind fun v3 =>
   let e4 : Ts := ([((W (last - k)), (v0.2.1, ()))] : Ts)
   (hget ([] : List Os) v3.2.2.1).bind fun v5 =>
   bif (okApp 16 2 v5.length 1) then
    let e6 : List Os := ((hkill ([] : List Os) v3.2.2.1) ++ [some (v5 ++ e4)])
    let e7 : Nat := ((hkill ([] : List Os) v3.2.2.1).length + 1 : Nat)
    (hget hp1 out2).bind fun v8 =>
    (v8[(W (last - v0.1)).toNat]?).bind fun v9 =>
    let e10 : List (Option (List Cn)) := (hset hp1 out2 (v8.set (W (last - v0.1)).toNat (v9.1, (v9.2.1, (e7, ())))))
    (f1_Ls fu).2.2.2.1 last k t t2 (W (t3 + (1 : Int))) c c2 t4 t5 out out2 e10 e6
   else
    none
  else
   (f1_Ls fu).2.1 last (W (k - (1 : Int))) c c2 t4 t5 out out2 hp1,
  fun last k t t2 t3 c c2 t4 t5 out out2 hp1 hp2 =>
  bif (decide (t3 < t2)) then
   (idx t t3).bind fun v0 =>
   (hget hp1 out2).bind fun v1 =>
   (idx v1 (W (last - v0.1))).bind fun _ =>
   (hget hp1 out2).bind fun v2 =>
   (v2[(W (last - v0.1)).toNat]?).bind fun v3 =>
   let e4 : Ts := ([((W (last - k)), (v0.2.1, ()))] : Ts)
   (hget hp2 v3.2.2.1).bind fun v5 =>
   bif (okApp 16 2 v5.length 1) then
    (hget hp1 out2).bind fun v6 =>
    (v6[(W (last - v0.1)).toNat]?).bind fun v7 =>
    let e8 : List (Option (List Cn)) := (hset hp1 out2 (v6.set (W (last - v0.1)).toNat (v7.1, (v7.2.1, (((hkill hp2 v3.2.2.1).length + 1 : Nat), ())))))
    (f1_Ls fu).2.2.2.1 last k t t2 (W (t3 + (1 : Int))) c c2 t4 t5 out out2 e8 ((hkill hp2 v3.2.2.1) ++ [some (v5 ++ e4)])
   else
    none
  else
   (f1_Ls fu).2.2.2.2 last (W (k - (1 : Int))) c c2 t4 t5 out out2 hp1 hp2,
  fun last k c c2 t t2 out out2 hp1 hp2 =>
  bif (decide (k ≥ (0 : Int))) then
   (idx c2 k).bind fun v0 =>
   (f1_Ls fu).2.2.2.1 last k v0.2.2.1 (v0.2.2.1.length : Int) (0 : Int) c c2 t t2 out out2 hp1 hp2
  else
   (res2 (typed [⟨42, .st yC, 0, true, ([] : List (Option Cs))⟩, ⟨42, .st yR, 0, true, hp1⟩, ⟨44, .st yT, 0, true, hp2⟩, ⟨58, .st yT, 0, true, ([] : List Os)⟩, ⟨3, .int .i64, 0, true, ([] : List (Option (List Int)))⟩] (.st (.pair (.int .i64) (.pair (.slice (.st yC)) (.unit)))) (.rv (.agg [⟨.int .i64, out⟩, ⟨.ref 1, out2⟩]))) (some (0 : Int))).bind fun v1 =>
   some v1)
theorem f1_Ls_ok : ∀ fu, (∀ (last : Int) (t : Int) (t2 : Int) (c : Int) (c2 : List Cl) (t3 : Int) (t4 : Nat) (out : Int) (out2 : Nat) (hp1 : List (Option (List Cn))), Le ((f1_Ls fu).1 last t t2 c c2 t3 t4 out out2 hp1) (f1_L0 last t t2 c c2 t3 t4 out out2 hp1)) ∧ (∀ (last : Int) (k : Int) (c : Int) (c2 : List Cl) (t : Int) (t2 : Nat) (out : Int) (out2 : Nat) (hp1 : List (Option (List Cn))), Le ((f1_Ls fu).2.1 last k c c2 t t2 out out2 hp1) (f1_L1 last k c c2 t t2 out out2 hp1)) ∧ (∀ (last : Int) (k : Int) (t : Ts) (t2 : Int) (t3 : Int) (c : Int) (c2 : List Cl) (t4 : Int) (t5 : Nat) (out : Int) (out2 : Nat) (hp1 : List (Option (List Cn))), Le ((f1_Ls fu).2.2.1 last k t t2 t3 c c2 t4 t5 out out2 hp1) (f1_L2 last k t t2 t3 c c2 t4 t5 out out2 hp1)) ∧ (∀ (last : Int) (k : Int) (t : Ts) (t2 : Int) (t3 : Int) (c : Int) (c2 : List Cl) (t4 : Int) (t5 : Nat) (out : Int) (out2 : Nat) (hp1 : List (Option (List Cn))) (hp2 : List Os), Le ((f1_Ls fu).2.2.2.1 last k t t2 t3 c c2 t4 t5 out out2 hp1 hp2) (f2 last k t t2 t3 c c2 t4 t5 out out2 hp1 hp2)) ∧ (∀ (last : Int) (k : Int) (c : Int) (c2 : List Cl) (t : Int) (t2 : Nat) (out : Int) (out2 : Nat) (hp1 : List (Option (List Cn))) (hp2 : List Os), Le ((f1_Ls fu).2.2.2.2 last k c c2 t t2 out out2 hp1 hp2) (f3 last k c c2 t t2 out out2 hp1 hp2))
 | 0 => ⟨(fun _ _ _ _ _ _ _ _ _ _ => ln _),
  (fun _ _ _ _ _ _ _ _ _ => ln _),
  (fun _ _ _ _ _ _ _ _ _ _ _ _ => ln _),
  (fun _ _ _ _ _ _ _ _ _ _ _ _ _ => ln _),
  (fun _ _ _ _ _ _ _ _ _ _ => ln _)⟩
 | fu + 1 => by
  have ih := f1_Ls_ok fu
  exact ⟨(fun last t t2 c c2 t3 t4 out out2 hp1 => le (f1_L0_eq last t t2 c c2 t3 t4 out out2 hp1) (
   lc (
   lb fun v0 =>
   lx (f18_P_ok fu v0.2.1) fun r1 =>
   lx (f19_P_ok fu ((r1.1.1.1, (r1.1.1.2.1, ())), ((r1.1.2.1.1, (r1.1.2.1.2.1, ())), ()))) fun r2 =>
   lx (f20_P_ok fu ((r2.1.1, (r2.1.2.1, ())), ((r2.2.1.1, (r2.2.1.2.1, ())), ()))) fun r3 =>
   lb fun v4 =>
   lb fun _ =>
   lb fun v5 =>
   lb fun v6 =>
   let e7 : List (Option (List Cn)) := (hset hp1 out2 (v5.set t2.toNat ((W ((4 : Int) - v0.1)), (v6.2.1, (v6.2.2.1, ())))))
   lb fun v8 =>
   lb fun _ =>
   lb fun v9 =>
   lb fun v10 =>
   let e11 : List (Option (List Cn)) := (hset e7 out2 (v9.set t2.toNat (v10.1, (r3, (v10.2.2.1, ())))))
   ih.1 last t (W (t2 + (1 : Int))) c c2 t3 t4 out out2 e11) (
   ih.2.1 last last c c2 t3 t4 out out2 hp1))),
  (fun last k c c2 t t2 out out2 hp1 => le (f1_L1_eq last k c c2 t t2 out out2 hp1) (
   lc (
   lb fun v0 =>
   ih.2.2.1 last k v0.2.2.1 (v0.2.2.1.length : Int) (0 : Int) c c2 t t2 out out2 hp1) (
   lb fun v1 =>
   lr _))),
  (fun last k t t2 t3 c c2 t4 t5 out out2 hp1 => le (f1_L2_eq last k t t2 t3 c c2 t4 t5 out out2 hp1) (
   lc (
   lb fun v0 =>
   lb fun v1 =>
   lb fun _ =>
   lb fun v2 =>
   lb fun v3 =>
   let e4 : Ts := ([((W (last - k)), (v0.2.1, ()))] : Ts)
   lb fun v5 =>
   lc (
   let e6 : List Os := ((hkill ([] : List Os) v3.2.2.1) ++ [some (v5 ++ e4)])
   let e7 : Nat := ((hkill ([] : List Os) v3.2.2.1).length + 1 : Nat)
   lb fun v8 =>
   lb fun v9 =>
   let e10 : List (Option (List Cn)) := (hset hp1 out2 (v8.set (W (last - v0.1)).toNat (v9.1, (v9.2.1, (e7, ())))))
   ih.2.2.2.1 last k t t2 (W (t3 + (1 : Int))) c c2 t4 t5 out out2 e10 e6) (lr _)) (
   ih.2.1 last (W (k - (1 : Int))) c c2 t4 t5 out out2 hp1))),
  (fun last k t t2 t3 c c2 t4 t5 out out2 hp1 hp2 => le (f2_eq last k t t2 t3 c c2 t4 t5 out out2 hp1 hp2) (
   lc (
   lb fun v0 =>
   lb fun v1 =>
   lb fun _ =>
   lb fun v2 =>
   lb fun v3 =>
   let e4 : Ts := ([((W (last - k)), (v0.2.1, ()))] : Ts)
   lb fun v5 =>
   lc (
   lb fun v6 =>
   lb fun v7 =>
   let e8 : List (Option (List Cn)) := (hset hp1 out2 (v6.set (W (last - v0.1)).toNat (v7.1, (v7.2.1, (((hkill hp2 v3.2.2.1).length + 1 : Nat), ())))))
   ih.2.2.2.1 last k t t2 (W (t3 + (1 : Int))) c c2 t4 t5 out out2 e8 ((hkill hp2 v3.2.2.1) ++ [some (v5 ++ e4)])) (lr _)) (
   ih.2.2.2.2 last (W (k - (1 : Int))) c c2 t4 t5 out out2 hp1 hp2))),
  (fun last k c c2 t t2 out out2 hp1 hp2 => le (f3_eq last k c c2 t t2 out out2 hp1 hp2) (
   lc (
   lb fun v0 =>
   ih.2.2.2.1 last k v0.2.2.1 (v0.2.2.1.length : Int) (0 : Int) c c2 t t2 out out2 hp1 hp2) (
   lb fun v1 =>
   lr _)))⟩
def f1_P (fu : Nat) (c : Int × Cs × Unit) : Option ((Int × Cs × Unit) × Int) :=
 (f17_P fu (c.1, (c.2.1, ()))).bind fun r0 =>
 bif (r0 != (0 : Int)) then
  (res2 (typed [⟨42, .st yC, 0, true, ([] : List (Option Cs))⟩, ⟨42, .st yR, 0, true, ([] : List (Option (List Cn)))⟩, ⟨44, .st yT, 0, true, ([] : List Os)⟩, ⟨58, .st yT, 0, true, ([] : List Os)⟩, ⟨3, .int .i64, 0, true, ([] : List (Option (List Int)))⟩] (.st (.pair (.int .i64) (.pair (.slice (.st yC)) (.unit)))) (.rv (.agg [⟨.int .i64, (0 : Int)⟩, ⟨.ref 0, (0 : Nat)⟩]))) (some r0)).bind fun v1 =>
  some v1
 else
  let e2 : Int := (W ((c.2.1.length : Int) - (1 : Int)))
  bif (okMake 48 (c.2.1.length : Int) (c.2.1.length : Int)) then
   let e3 : List (Option (List Cn)) := (([] : List (Option (List Cn))) ++ [some (List.replicate (c.2.1.length : Int).toNat ((0 : Int), (ByteArray.empty, ((0 : Nat), ()))))])
   let e4 : Nat := (([] : List (Option (List Cn))).length + 1 : Nat)
   (hget e3 e4).bind fun v5 =>
   (f1_Ls fu).1 e2 (v5.length : Int) (0 : Int) c.1 c.2.1 (0 : Int) (0 : Nat) c.1 e4 e3
  else
   none
theorem f1_P_ok (fu : Nat) (c : Int × Cs × Unit) : Le (f1_P fu c) (f1 c) := le (f1_eq c) (
 lx (f17_P_ok fu (c.1, (c.2.1, ()))) fun r0 =>
 lc (
 lb fun v1 =>
 lr _) (
 let e2 : Int := (W ((c.2.1.length : Int) - (1 : Int)))
 lc (
 let e3 : List (Option (List Cn)) := (([] : List (Option (List Cn))) ++ [some (List.replicate (c.2.1.length : Int).toNat ((0 : Int), (ByteArray.empty, ((0 : Nat), ()))))])
 let e4 : Nat := (([] : List (Option (List Cn))).length + 1 : Nat)
 lb fun v5 =>
 (f1_Ls_ok fu).1 e2 (v5.length : Int) (0 : Int) c.1 c.2.1 (0 : Int) (0 : Nat) c.1 e4 e3) (lr _)))
def f4_P (fu : Nat) (c : Int × Cs × Unit) : Option (Ts × Tm × Int) :=
 (f121_P fu (c.1, (c.2.1, ())) ([] : List Os)).bind fun r0 =>
 (res2 (typed [⟨42, .st yC, 0, true, ([] : List (Option Cs))⟩, ⟨42, .st yR, 0, true, ([] : List (Option (List Cn)))⟩, ⟨44, .st yT, 0, true, ([] : List Os)⟩, ⟨58, .st yT, 0, true, r0.2⟩, ⟨3, .int .i64, 0, true, ([] : List (Option (List Int)))⟩] (.slice (.st yT)) (.rv (.cv ⟨.ref 3, r0.1.1⟩))) (res2 (some (r0.1.2.1.1, (r0.1.2.1.2.1, ()))) (some r0.1.2.2))).bind fun v1 =>
 some v1
theorem f4_P_ok (fu : Nat) (c : Int × Cs × Unit) : Le (f4_P fu c) (f4 c) := le (f4_eq c) (
 lx (f121_P_ok fu (c.1, (c.2.1, ())) ([] : List Os)) fun r0 =>
 lb fun v1 =>
 lr _)
def f7_P (fu : Nat) (c : Int × Cs × Unit) : Option (Ts × Tm × Int) :=
 (f122_P fu (c.1, (c.2.1, ())) ([] : List Os)).bind fun r0 =>
 (res2 (typed [⟨42, .st yC, 0, true, ([] : List (Option Cs))⟩, ⟨42, .st yR, 0, true, ([] : List (Option (List Cn)))⟩, ⟨44, .st yT, 0, true, ([] : List Os)⟩, ⟨58, .st yT, 0, true, r0.2⟩, ⟨3, .int .i64, 0, true, ([] : List (Option (List Int)))⟩] (.slice (.st yT)) (.rv (.cv ⟨.ref 3, r0.1.1⟩))) (res2 (some (r0.1.2.1.1, (r0.1.2.1.2.1, ()))) (some r0.1.2.2))).bind fun v1 =>
 some v1
theorem f7_P_ok (fu : Nat) (c : Int × Cs × Unit) : Le (f7_P fu c) (f7 c) := le (f7_eq c) (
 lx (f122_P_ok fu (c.1, (c.2.1, ())) ([] : List Os)) fun r0 =>
 lb fun v1 =>
 lr _)
def f8_Ls : Nat → ((Nat) → (Int) → (Nat) → (Int) → (Int) → (Int) → (Int) → (Int) → (Int) → (List Os) → Option (Ts × Tm × Int))
 | 0 => (fun _ _ _ _ _ _ _ _ _ _ => none)
 | fu + 1 => (fun l last t t2 t3 t4 t5 w w2 hp3 =>
  bif (decide (t3 < t2)) then
   (hget hp3 t).bind fun v0 =>
   (idx v0 t3).bind fun _ =>
   (hget hp3 t).bind fun v1 =>
   (v1[t3.toNat]?).bind fun v2 =>
   (hget hp3 l).bind fun v3 =>
   (idx v3 t3).bind fun _ =>
   (hget hp3 l).bind fun v4 =>
   (v4[t3.toNat]?).bind fun v5 =>
   let e6 : List Os := (hset hp3 l (v4.set t3.toNat ((W (last - v2.2.1)), ((W (last - v2.1)), ()))))
   bif (decide (v2.2.1 < (0 : Int))) then
    (hget e6 l).bind fun v7 =>
    (idx v7 t3).bind fun _ =>
    (hget e6 l).bind fun v8 =>
    (v8[t3.toNat]?).bind fun v9 =>
    let e10 : List Os := (hset e6 l (v8.set t3.toNat ((W (last - v2.1)), ((-1 : Int), ()))))
    (f8_Ls fu) l last t t2 (W (t3 + (1 : Int))) t4 t5 w w2 e10
   else
    (f8_Ls fu) l last t t2 (W (t3 + (1 : Int))) t4 t5 w w2 e6
  else
   (f21_P fu l hp3).bind fun r11 =>
   (res2 (typed [⟨42, .st yC, 0, true, ([] : List (Option Cs))⟩, ⟨42, .st yR, 0, true, ([] : List (Option (List Cn)))⟩, ⟨44, .st yT, 0, true, ([] : List Os)⟩, ⟨58, .st yT, 0, true, r11.2⟩, ⟨3, .int .i64, 0, true, ([] : List (Option (List Int)))⟩] (.slice (.st yT)) (.rv (.cv ⟨.ref 3, l⟩))) (res2 (some (w, (w2, ()))) (some (0 : Int)))).bind fun v12 =>
   some v12)
theorem f8_Ls_ok : ∀ fu, (∀ (l : Nat) (last : Int) (t : Nat) (t2 : Int) (t3 : Int) (t4 : Int) (t5 : Int) (w : Int) (w2 : Int) (hp3 : List Os), Le ((f8_Ls fu) l last t t2 t3 t4 t5 w w2 hp3) (f8_L0 l last t t2 t3 t4 t5 w w2 hp3))
 | 0 => fun _ _ _ _ _ _ _ _ _ _ => ln _
 | fu + 1 => by
  have ih := f8_Ls_ok fu
  exact fun l last t t2 t3 t4 t5 w w2 hp3 => le (f8_L0_eq l last t t2 t3 t4 t5 w w2 hp3) (
   lc (
   lb fun v0 =>
   lb fun _ =>
   lb fun v1 =>
   lb fun v2 =>
   lb fun v3 =>
   lb fun _ =>
   lb fun v4 =>
   lb fun v5 =>
   let e6 : List Os := (hset hp3 l (v4.set t3.toNat ((W (last - v2.2.1)), ((W (last - v2.1)), ()))))
   lc (
   lb fun v7 =>
   lb fun _ =>
   lb fun v8 =>
   lb fun v9 =>
   let e10 : List Os := (hset e6 l (v8.set t3.toNat ((W (last - v2.1)), ((-1 : Int), ()))))
   ih l last t t2 (W (t3 + (1 : Int))) t4 t5 w w2 e10) (
   ih l last t t2 (W (t3 + (1 : Int))) t4 t5 w w2 e6)) (
   lx (f21_P_ok fu l hp3) fun r11 =>
   lb fun v12 =>
   lr _))
def f8_P (fu : Nat) (c : Int × Cs × Unit) : Option (Ts × Tm × Int) :=
 (f1_P fu (c.1, (c.2.1, ()))).bind fun r0 =>
 bif (r0.2 != (0 : Int)) then
  some (([] : Ts), ((0 : Int), ((0 : Int), ())), r0.2)
 else
  (f124_P fu (r0.1.1, (r0.1.2.1, ())) ([] : List Os)).bind fun r1 =>
  let e2 : Int := (W ((c.2.1.length : Int) - (1 : Int)))
  (hget r1.2 r1.1.1).bind fun v3 =>
  (f8_Ls fu) r1.1.1 e2 r1.1.1 (v3.length : Int) (0 : Int) (0 : Int) (0 : Int) r1.1.2.1 r1.1.2.2.1 r1.2
theorem f8_P_ok (fu : Nat) (c : Int × Cs × Unit) : Le (f8_P fu c) (f8 c) := le (f8_eq c) (
 lx (f1_P_ok fu (c.1, (c.2.1, ()))) fun r0 =>
 lc (lr _) (
 lx (f124_P_ok fu (r0.1.1, (r0.1.2.1, ())) ([] : List Os)) fun r1 =>
 let e2 : Int := (W ((c.2.1.length : Int) - (1 : Int)))
 lb fun v3 =>
 (f8_Ls_ok fu) r1.1.1 e2 r1.1.1 (v3.length : Int) (0 : Int) (0 : Int) (0 : Int) r1.1.2.1 r1.1.2.2.1 r1.2))
def f23_Ls : Nat → ((List ((List Int) × ByteArray × Unit)) → (Int) → Option (Int)) × ((List ((List Int) × ByteArray × Unit)) → (Int) → (List (List Int)) → (Int) → Option (Int))
 | 0 => (fun _ _ => none, fun _ _ _ _ => none)
 | fu + 1 => (fun f i =>
  bif (decide (i < (f.length : Int))) then
   (f54_P fu f i).bind fun r0 =>
   bif (r0 != (0 : Int)) then
    some r0
   else
    (idx f i).bind fun v1 =>
    (f24_P fu v1.1).bind fun r2 =>
    (f23_Ls fu).2 f i r2 (0 : Int)
  else
   some (0 : Int),
  fun f i facets k =>
  bif (decide (k < (facets.length : Int))) then
   (idx facets k).bind fun v0 =>
   (f55_P fu f i v0).bind fun r1 =>
   bif (decide (r1 < (0 : Int))) then
    some (7 : Int)
   else
    (f23_Ls fu).2 f i facets (W (k + (1 : Int)))
  else
   bif (decide (i > (0 : Int))) then
    (idx f i).bind fun v2 =>
    (idx f (W (i - (1 : Int)))).bind fun v3 =>
    (f27_P fu v2.2.1 v3.2.1).bind fun r4 =>
    bif (decide (r4 < (0 : Int))) then
     some (6 : Int)
    else
     (f23_Ls fu).1 f (W (i + (1 : Int)))
   else
    (f23_Ls fu).1 f (W (i + (1 : Int))))
theorem f23_Ls_ok : ∀ fu, (∀ (f : List ((List Int) × ByteArray × Unit)) (i : Int), Le ((f23_Ls fu).1 f i) (f23_L0 f i)) ∧ (∀ (f : List ((List Int) × ByteArray × Unit)) (i : Int) (facets : List (List Int)) (k : Int), Le ((f23_Ls fu).2 f i facets k) (f23_L1 f i facets k))
 | 0 => ⟨(fun _ _ => ln _),
  (fun _ _ _ _ => ln _)⟩
 | fu + 1 => by
  have ih := f23_Ls_ok fu
  exact ⟨(fun f i => le (f23_L0_eq f i) (
   lc (
   lx (f54_P_ok fu f i) fun r0 =>
   lc (lr _) (
   lb fun v1 =>
   lx (f24_P_ok fu v1.1) fun r2 =>
   ih.2 f i r2 (0 : Int))) (lr _))),
  (fun f i facets k => le (f23_L1_eq f i facets k) (
   lc (
   lb fun v0 =>
   lx (f55_P_ok fu f i v0) fun r1 =>
   lc (lr _) (
   ih.2 f i facets (W (k + (1 : Int))))) (
   lc (
   lb fun v2 =>
   lb fun v3 =>
   lx (f27_P_ok fu v2.2.1 v3.2.1) fun r4 =>
   lc (lr _) (
   ih.1 f (W (i + (1 : Int))))) (
   ih.1 f (W (i + (1 : Int)))))))⟩
def f23_P (fu : Nat) (f : List ((List Int) × ByteArray × Unit)) : Option (Int) :=
 bif (decide ((f.length : Int) > (1024 : Int))) then
  some (3 : Int)
 else
  (f23_Ls fu).1 f (0 : Int)
theorem f23_P_ok (fu : Nat) (f : List ((List Int) × ByteArray × Unit)) : Le (f23_P fu f) (f23 f) := le (f23_eq f) (
 lc (lr _) (
 (f23_Ls_ok fu).1 f (0 : Int)))
def f12_Ls : Nat → ((List ((List Int) × ByteArray × Unit)) → (Int) → (Int) → (Int) → (Nat) → (Int) → (Nat) → Option ((Int × Cs × Unit) × Int)) × ((List ((List Int) × ByteArray × Unit)) → (Int) → (Int) → (Nat) → (List (List Int)) → (Int) → (Int) → (Nat) → (Int) → (Nat) → (List (Option (List Int))) → Option ((Int × Cs × Unit) × Int)) × ((List ((List Int) × ByteArray × Unit)) → (Int) → (Int) → (Nat) → (List (List Int)) → (Int) → (Int) → (Int) → (Nat) → (Int) → (Nat) → (List (Option (List Int))) → Option ((Int × Cs × Unit) × Int)) × ((List ((List Int) × ByteArray × Unit)) → (Int) → (Int) → (Int) → (Nat) → (Int) → (Nat) → (List (Option Cs)) → (List (Option (List Int))) → Option ((Int × Cs × Unit) × Int)) × ((List ((List Int) × ByteArray × Unit)) → (Int) → (Int) → (Nat) → (List (List Int)) → (Int) → (Int) → (Nat) → (Int) → (Nat) → (List (Option Cs)) → (List (Option (List Int))) → Option ((Int × Cs × Unit) × Int)) × ((List ((List Int) × ByteArray × Unit)) → (Int) → (Int) → (Nat) → (List (List Int)) → (Int) → (Int) → (Int) → (Nat) → (Int) → (Nat) → (List (Option Cs)) → (List (Option (List Int))) → Option ((Int × Cs × Unit) × Int))
 | 0 => (fun _ _ _ _ _ _ _ => none, fun _ _ _ _ _ _ _ _ _ _ _ => none, fun _ _ _ _ _ _ _ _ _ _ _ _ => none, fun _ _ _ _ _ _ _ _ _ => none, fun _ _ _ _ _ _ _ _ _ _ _ _ => none, fun _ _ _ _ _ _ _ _ _ _ _ _ _ => none)
 | fu + 1 => (fun f p j t t2 out out2 =>
  bif (decide (j < (f.length : Int))) then
   bif (okMake 8 j j) then
    let e0 : List (Option (List Int)) := (([] : List (Option (List Int))) ++ [some (List.replicate j.toNat (0 : Int))])
    let e1 : Nat := (([] : List (Option (List Int))).length + 1 : Nat)
    (idx f j).bind fun v2 =>
    (f24_P fu v2.1).bind fun r3 =>
    (f12_Ls fu).2.1 f p j e1 r3 (0 : Int) t t2 out out2 e0
   else
    none
  else
   (res2 (typed [⟨42, .st yC, 0, true, ([] : List (Option Cs))⟩, ⟨42, .st yR, 0, true, ([] : List (Option (List Cn)))⟩, ⟨44, .st yT, 0, true, ([] : List Os)⟩, ⟨58, .st yT, 0, true, ([] : List Os)⟩, ⟨3, .int .i64, 0, true, ([] : List (Option (List Int)))⟩] (.st (.pair (.int .i64) (.pair (.slice (.st yC)) (.unit)))) (.rv (.agg [⟨.int .i64, out⟩, ⟨.ref 0, out2⟩]))) (some (0 : Int))).bind fun v4 =>
   some v4,
  fun f p j v facets k t t2 out out2 hp4 =>
  bif (decide (k < (facets.length : Int))) then
   (f12_Ls fu).2.2.1 f p j v facets k (0 : Int) t t2 out out2 hp4
  else
   (idx f j).bind fun v0 =>
   let e1 : Int := (W ((v0.1.length : Int) - (1 : Int)))
   (idx f j).bind fun v2 =>
   (f125_P fu v hp4).bind fun r3 =>
   let e4 : List Cl := ([(e1, (v2.2.1, (r3, ())))] : List Cl)
   (hget ([] : List (Option Cs)) out2).bind fun v5 =>
   bif (okApp 48 3 v5.length 1) then
    let e6 : List (Option Cs) := ((hkill ([] : List (Option Cs)) out2) ++ [some (v5 ++ e4)])
    let e7 : Nat := ((hkill ([] : List (Option Cs)) out2).length + 1 : Nat)
    (f12_Ls fu).2.2.2.1 f p (W (j + (1 : Int))) t t2 out e7 e6 hp4
   else
    none,
  fun f p j v facets k i t t2 out out2 hp4 =>
  bif (decide (i < j)) then
   (idx f i).bind fun v0 =>
   (idx facets k).bind fun v1 =>
   (f25_P fu v0.1 v1).bind fun r2 =>
   bif (r2 == (0 : Int)) then
    let e3 : Int := (W ((k.tmod (2 : Int)) * (W (p - (2 : Int)))))
    bif (!(p == 0)) then
     (hget hp4 v).bind fun v4 =>
     (idx v4 i).bind fun _ =>
     (hget hp4 v).bind fun v5 =>
     (v5[i.toNat]?).bind fun v6 =>
     let e7 : List (Option (List Int)) := (hset hp4 v (v5.set i.toNat ((W ((1 : Int) + e3)).tmod p)))
     (f12_Ls fu).2.2.1 f p j v facets k (W (i + (1 : Int))) t t2 out out2 e7
    else
     none
   else
    (f12_Ls fu).2.2.1 f p j v facets k (W (i + (1 : Int))) t t2 out out2 hp4
  else
   (f12_Ls fu).2.1 f p j v facets (W (k + (1 : Int))) t t2 out out2 hp4,
  fun f p j t t2 out out2 hp0 hp4 =>
  bif (decide (j < (f.length : Int))) then
   bif (okMake 8 j j) then
    let e0 : List (Option (List Int)) := (hp4 ++ [some (List.replicate j.toNat (0 : Int))])
    (idx f j).bind fun v1 =>
    (f24_P fu v1.1).bind fun r2 =>
    (f12_Ls fu).2.2.2.2.1 f p j (hp4.length + 1 : Nat) r2 (0 : Int) t t2 out out2 hp0 e0
   else
    none
  else
   (res2 (typed [⟨42, .st yC, 0, true, hp0⟩, ⟨42, .st yR, 0, true, ([] : List (Option (List Cn)))⟩, ⟨44, .st yT, 0, true, ([] : List Os)⟩, ⟨58, .st yT, 0, true, ([] : List Os)⟩, ⟨3, .int .i64, 0, true, hp4⟩] (.st (.pair (.int .i64) (.pair (.slice (.st yC)) (.unit)))) (.rv (.agg [⟨.int .i64, out⟩, ⟨.ref 0, out2⟩]))) (some (0 : Int))).bind fun v3 =>
   some v3,
  fun f p j v facets k t t2 out out2 hp0 hp4 =>
  bif (decide (k < (facets.length : Int))) then
   (f12_Ls fu).2.2.2.2.2 f p j v facets k (0 : Int) t t2 out out2 hp0 hp4
  else
   (idx f j).bind fun v0 =>
   let e1 : Int := (W ((v0.1.length : Int) - (1 : Int)))
   (idx f j).bind fun v2 =>
   (f125_P fu v hp4).bind fun r3 =>
   let e4 : List Cl := ([(e1, (v2.2.1, (r3, ())))] : List Cl)
   (hget hp0 out2).bind fun v5 =>
   bif (okApp 48 3 v5.length 1) then
    (f12_Ls fu).2.2.2.1 f p (W (j + (1 : Int))) t t2 out ((hkill hp0 out2).length + 1 : Nat) ((hkill hp0 out2) ++ [some (v5 ++ e4)]) hp4
   else
    none,
  fun f p j v facets k i t t2 out out2 hp0 hp4 =>
  bif (decide (i < j)) then
   (idx f i).bind fun v0 =>
   (idx facets k).bind fun v1 =>
   (f25_P fu v0.1 v1).bind fun r2 =>
   bif (r2 == (0 : Int)) then
    let e3 : Int := (W ((k.tmod (2 : Int)) * (W (p - (2 : Int)))))
    bif (!(p == 0)) then
     (hget hp4 v).bind fun v4 =>
     (idx v4 i).bind fun _ =>
     (hget hp4 v).bind fun v5 =>
     (v5[i.toNat]?).bind fun v6 =>
     let e7 : List (Option (List Int)) := (hset hp4 v (v5.set i.toNat ((W ((1 : Int) + e3)).tmod p)))
     (f12_Ls fu).2.2.2.2.2 f p j v facets k (W (i + (1 : Int))) t t2 out out2 hp0 e7
    else
     none
   else
    (f12_Ls fu).2.2.2.2.2 f p j v facets k (W (i + (1 : Int))) t t2 out out2 hp0 hp4
  else
   (f12_Ls fu).2.2.2.2.1 f p j v facets (W (k + (1 : Int))) t t2 out out2 hp0 hp4)
theorem f12_Ls_ok : ∀ fu, (∀ (f : List ((List Int) × ByteArray × Unit)) (p : Int) (j : Int) (t : Int) (t2 : Nat) (out : Int) (out2 : Nat), Le ((f12_Ls fu).1 f p j t t2 out out2) (f12_L0 f p j t t2 out out2)) ∧ (∀ (f : List ((List Int) × ByteArray × Unit)) (p : Int) (j : Int) (v : Nat) (facets : List (List Int)) (k : Int) (t : Int) (t2 : Nat) (out : Int) (out2 : Nat) (hp4 : List (Option (List Int))), Le ((f12_Ls fu).2.1 f p j v facets k t t2 out out2 hp4) (f12_L1 f p j v facets k t t2 out out2 hp4)) ∧ (∀ (f : List ((List Int) × ByteArray × Unit)) (p : Int) (j : Int) (v : Nat) (facets : List (List Int)) (k : Int) (i : Int) (t : Int) (t2 : Nat) (out : Int) (out2 : Nat) (hp4 : List (Option (List Int))), Le ((f12_Ls fu).2.2.1 f p j v facets k i t t2 out out2 hp4) (f12_L2 f p j v facets k i t t2 out out2 hp4)) ∧ (∀ (f : List ((List Int) × ByteArray × Unit)) (p : Int) (j : Int) (t : Int) (t2 : Nat) (out : Int) (out2 : Nat) (hp0 : List (Option Cs)) (hp4 : List (Option (List Int))), Le ((f12_Ls fu).2.2.2.1 f p j t t2 out out2 hp0 hp4) (f13 f p j t t2 out out2 hp0 hp4)) ∧ (∀ (f : List ((List Int) × ByteArray × Unit)) (p : Int) (j : Int) (v : Nat) (facets : List (List Int)) (k : Int) (t : Int) (t2 : Nat) (out : Int) (out2 : Nat) (hp0 : List (Option Cs)) (hp4 : List (Option (List Int))), Le ((f12_Ls fu).2.2.2.2.1 f p j v facets k t t2 out out2 hp0 hp4) (f14 f p j v facets k t t2 out out2 hp0 hp4)) ∧ (∀ (f : List ((List Int) × ByteArray × Unit)) (p : Int) (j : Int) (v : Nat) (facets : List (List Int)) (k : Int) (i : Int) (t : Int) (t2 : Nat) (out : Int) (out2 : Nat) (hp0 : List (Option Cs)) (hp4 : List (Option (List Int))), Le ((f12_Ls fu).2.2.2.2.2 f p j v facets k i t t2 out out2 hp0 hp4) (f15 f p j v facets k i t t2 out out2 hp0 hp4))
 | 0 => ⟨(fun _ _ _ _ _ _ _ => ln _),
  (fun _ _ _ _ _ _ _ _ _ _ _ => ln _),
  (fun _ _ _ _ _ _ _ _ _ _ _ _ => ln _),
  (fun _ _ _ _ _ _ _ _ _ => ln _),
  (fun _ _ _ _ _ _ _ _ _ _ _ _ => ln _),
  (fun _ _ _ _ _ _ _ _ _ _ _ _ _ => ln _)⟩
 | fu + 1 => by
  have ih := f12_Ls_ok fu
  exact ⟨(fun f p j t t2 out out2 => le (f12_L0_eq f p j t t2 out out2) (
   lc (
   lc (
   let e0 : List (Option (List Int)) := (([] : List (Option (List Int))) ++ [some (List.replicate j.toNat (0 : Int))])
   let e1 : Nat := (([] : List (Option (List Int))).length + 1 : Nat)
   lb fun v2 =>
   lx (f24_P_ok fu v2.1) fun r3 =>
   ih.2.1 f p j e1 r3 (0 : Int) t t2 out out2 e0) (lr _)) (
   lb fun v4 =>
   lr _))),
  (fun f p j v facets k t t2 out out2 hp4 => le (f12_L1_eq f p j v facets k t t2 out out2 hp4) (
   lc (
   ih.2.2.1 f p j v facets k (0 : Int) t t2 out out2 hp4) (
   lb fun v0 =>
   let e1 : Int := (W ((v0.1.length : Int) - (1 : Int)))
   lb fun v2 =>
   lx (f125_P_ok fu v hp4) fun r3 =>
   let e4 : List Cl := ([(e1, (v2.2.1, (r3, ())))] : List Cl)
   lb fun v5 =>
   lc (
   let e6 : List (Option Cs) := ((hkill ([] : List (Option Cs)) out2) ++ [some (v5 ++ e4)])
   let e7 : Nat := ((hkill ([] : List (Option Cs)) out2).length + 1 : Nat)
   ih.2.2.2.1 f p (W (j + (1 : Int))) t t2 out e7 e6 hp4) (lr _)))),
  (fun f p j v facets k i t t2 out out2 hp4 => le (f12_L2_eq f p j v facets k i t t2 out out2 hp4) (
   lc (
   lb fun v0 =>
   lb fun v1 =>
   lx (f25_P_ok fu v0.1 v1) fun r2 =>
   lc (
   let e3 : Int := (W ((k.tmod (2 : Int)) * (W (p - (2 : Int)))))
   lc (
   lb fun v4 =>
   lb fun _ =>
   lb fun v5 =>
   lb fun v6 =>
   let e7 : List (Option (List Int)) := (hset hp4 v (v5.set i.toNat ((W ((1 : Int) + e3)).tmod p)))
   ih.2.2.1 f p j v facets k (W (i + (1 : Int))) t t2 out out2 e7) (lr _)) (
   ih.2.2.1 f p j v facets k (W (i + (1 : Int))) t t2 out out2 hp4)) (
   ih.2.1 f p j v facets (W (k + (1 : Int))) t t2 out out2 hp4))),
  (fun f p j t t2 out out2 hp0 hp4 => le (f13_eq f p j t t2 out out2 hp0 hp4) (
   lc (
   lc (
   let e0 : List (Option (List Int)) := (hp4 ++ [some (List.replicate j.toNat (0 : Int))])
   lb fun v1 =>
   lx (f24_P_ok fu v1.1) fun r2 =>
   ih.2.2.2.2.1 f p j (hp4.length + 1 : Nat) r2 (0 : Int) t t2 out out2 hp0 e0) (lr _)) (
   lb fun v3 =>
   lr _))),
  (fun f p j v facets k t t2 out out2 hp0 hp4 => le (f14_eq f p j v facets k t t2 out out2 hp0 hp4) (
   lc (
   ih.2.2.2.2.2 f p j v facets k (0 : Int) t t2 out out2 hp0 hp4) (
   lb fun v0 =>
   let e1 : Int := (W ((v0.1.length : Int) - (1 : Int)))
   lb fun v2 =>
   lx (f125_P_ok fu v hp4) fun r3 =>
   let e4 : List Cl := ([(e1, (v2.2.1, (r3, ())))] : List Cl)
   lb fun v5 =>
   lc (
   ih.2.2.2.1 f p (W (j + (1 : Int))) t t2 out ((hkill hp0 out2).length + 1 : Nat) ((hkill hp0 out2) ++ [some (v5 ++ e4)]) hp4) (lr _)))),
  (fun f p j v facets k i t t2 out out2 hp0 hp4 => le (f15_eq f p j v facets k i t t2 out out2 hp0 hp4) (
   lc (
   lb fun v0 =>
   lb fun v1 =>
   lx (f25_P_ok fu v0.1 v1) fun r2 =>
   lc (
   let e3 : Int := (W ((k.tmod (2 : Int)) * (W (p - (2 : Int)))))
   lc (
   lb fun v4 =>
   lb fun _ =>
   lb fun v5 =>
   lb fun v6 =>
   let e7 : List (Option (List Int)) := (hset hp4 v (v5.set i.toNat ((W ((1 : Int) + e3)).tmod p)))
   ih.2.2.2.2.2 f p j v facets k (W (i + (1 : Int))) t t2 out out2 hp0 e7) (lr _)) (
   ih.2.2.2.2.2 f p j v facets k (W (i + (1 : Int))) t t2 out out2 hp0 hp4)) (
   ih.2.2.2.2.1 f p j v facets (W (k + (1 : Int))) t t2 out out2 hp0 hp4)))⟩
def f12_P (fu : Nat) (f : List ((List Int) × ByteArray × Unit)) (p : Int) : Option ((Int × Cs × Unit) × Int) :=
 (f16_P fu p).bind fun r0 =>
 bif (!r0) then
  (res2 (typed [⟨42, .st yC, 0, true, ([] : List (Option Cs))⟩, ⟨42, .st yR, 0, true, ([] : List (Option (List Cn)))⟩, ⟨44, .st yT, 0, true, ([] : List Os)⟩, ⟨58, .st yT, 0, true, ([] : List Os)⟩, ⟨3, .int .i64, 0, true, ([] : List (Option (List Int)))⟩] (.st (.pair (.int .i64) (.pair (.slice (.st yC)) (.unit)))) (.rv (.agg [⟨.int .i64, (0 : Int)⟩, ⟨.ref 0, (0 : Nat)⟩]))) (some (8 : Int))).bind fun v1 =>
  some v1
 else
  (f23_P fu f).bind fun r2 =>
  bif (r2 != (0 : Int)) then
   (res2 (typed [⟨42, .st yC, 0, true, ([] : List (Option Cs))⟩, ⟨42, .st yR, 0, true, ([] : List (Option (List Cn)))⟩, ⟨44, .st yT, 0, true, ([] : List Os)⟩, ⟨58, .st yT, 0, true, ([] : List Os)⟩, ⟨3, .int .i64, 0, true, ([] : List (Option (List Int)))⟩] (.st (.pair (.int .i64) (.pair (.slice (.st yC)) (.unit)))) (.rv (.agg [⟨.int .i64, (0 : Int)⟩, ⟨.ref 0, (0 : Nat)⟩]))) (some r2)).bind fun v3 =>
   some v3
  else
   (f12_Ls fu).1 f p (0 : Int) (0 : Int) (0 : Nat) p (0 : Nat)
theorem f12_P_ok (fu : Nat) (f : List ((List Int) × ByteArray × Unit)) (p : Int) : Le (f12_P fu f p) (f12 f p) := le (f12_eq f p) (
 lx (f16_P_ok fu p) fun r0 =>
 lc (
 lb fun v1 =>
 lr _) (
 lx (f23_P_ok fu f) fun r2 =>
 lc (
 lb fun v3 =>
 lr _) (
 (f12_Ls_ok fu).1 f p (0 : Int) (0 : Int) (0 : Nat) p (0 : Nat))))
def f9_P (fu : Nat) : Option (Int × Cs × Unit) :=
 let e0 : List ((List Int) × ByteArray × Unit) := ([(([(0 : Int)] : List Int), ((bs [48]), ())), (([(1 : Int)] : List Int), ((bs [48]), ())), (([(2 : Int)] : List Int), ((bs [49, 47, 50]), ())), (([(0 : Int), (1 : Int)] : List Int), ((bs [49]), ())), (([(1 : Int), (2 : Int)] : List Int), ((bs [49]), ())), (([(0 : Int), (2 : Int)] : List Int), ((bs [50]), ())), (([(0 : Int), (1 : Int), (2 : Int)] : List Int), ((bs [51]), ()))] : List ((List Int) × ByteArray × Unit))
 (f12_P fu e0 (3 : Int)).bind fun r1 =>
 some (r1.1.1, (r1.1.2.1, ()))
theorem f9_P_ok (fu : Nat) : Le (f9_P fu) (f9) := le (f9_eq) (
 let e0 : List ((List Int) × ByteArray × Unit) := ([(([(0 : Int)] : List Int), ((bs [48]), ())), (([(1 : Int)] : List Int), ((bs [48]), ())), (([(2 : Int)] : List Int), ((bs [49, 47, 50]), ())), (([(0 : Int), (1 : Int)] : List Int), ((bs [49]), ())), (([(1 : Int), (2 : Int)] : List Int), ((bs [49]), ())), (([(0 : Int), (2 : Int)] : List Int), ((bs [50]), ())), (([(0 : Int), (1 : Int), (2 : Int)] : List Int), ((bs [51]), ()))] : List ((List Int) × ByteArray × Unit))
 lx (f12_P_ok fu e0 (3 : Int)) fun r1 =>
 lr _)
def f0_P (fu : Nat) : Option (Bool) :=
 let e0 : Ts := ([((0 : Int), ((-1 : Int), ())), ((1 : Int), ((3 : Int), ())), ((2 : Int), ((4 : Int), ())), ((5 : Int), ((6 : Int), ()))] : Ts)
 (f9_P fu).bind fun r1 =>
 (f4_P fu (r1.1, (r1.2.1, ()))).bind fun r2 =>
 (f9_P fu).bind fun r3 =>
 (f7_P fu (r3.1, (r3.2.1, ()))).bind fun r4 =>
 (f9_P fu).bind fun r5 =>
 (f8_P fu (r5.1, (r5.2.1, ()))).bind fun r6 =>
 (f9_P fu).bind fun r7 =>
 (f1_P fu (r7.1, (r7.2.1, ()))).bind fun r8 =>
 bif (r2.2.2 == (0 : Int)) then
  bif (r4.2.2 == (0 : Int)) then
   bif (r6.2.2 == (0 : Int)) then
    bif (r8.2 == (0 : Int)) then
     (f6_P fu r2.1 e0).bind fun r9 =>
     bif r9 then
      (f6_P fu r4.1 e0).bind fun r10 =>
      bif r10 then
       (f6_P fu r6.1 e0).bind fun r11 =>
       bif r11 then
        bif (denEq yT (r2.2.1.1, (r2.2.1.2.1, ())) ((2 : Int), ((0 : Int), ()))) then
         bif (denEq yT (r4.2.1.1, (r4.2.1.2.1, ())) ((0 : Int), ((3 : Int), ()))) then
          bif (denEq yT (r6.2.1.1, (r6.2.1.2.1, ())) ((2 : Int), ((3 : Int), ()))) then
           bif ((r8.1.2.1.length : Int) == (7 : Int)) then
            (idx r8.1.2.1 (0 : Int)).bind fun v12 =>
            bif (v12.1 == (2 : Int)) then
             (idx r8.1.2.1 (1 : Int)).bind fun v13 =>
             bif (v13.2.1.toList == (bs [45, 50]).toList) then
              (idx r8.1.2.1 (1 : Int)).bind fun v14 =>
              (f11_P fu ([(0 : Int), (2 : Int)] : List Int)).bind fun r15 =>
              (f10_P fu v14.2.2.1 r15).bind fun r16 =>
              bif r16 then
               (idx r8.1.2.1 (4 : Int)).bind fun v17 =>
               bif (v17.1 == (4 : Int)) then
                (idx r8.1.2.1 (4 : Int)).bind fun v18 =>
                bif (v18.2.1.toList == (bs [45, 49, 47, 50]).toList) then
                 (idx r8.1.2.1 (4 : Int)).bind fun v19 =>
                 let e20 : List Int := ([(1 : Int), (1 : Int), (2 : Int), (1 : Int)] : List Int)
                 (f11_P fu e20).bind fun r21 =>
                 (f10_P fu v19.2.2.1 r21).bind fun r22 =>
                 some r22
                else
                 some false
               else
                some false
              else
               some false
             else
              some false
            else
             some false
           else
            some false
          else
           some false
         else
          some false
        else
         some false
       else
        some false
      else
       some false
     else
      some false
    else
     some false
   else
    some false
  else
   some false
 else
  some false
theorem f0_P_ok (fu : Nat) : Le (f0_P fu) (f0) := le (f0_eq) (
 let e0 : Ts := ([((0 : Int), ((-1 : Int), ())), ((1 : Int), ((3 : Int), ())), ((2 : Int), ((4 : Int), ())), ((5 : Int), ((6 : Int), ()))] : Ts)
 lx (f9_P_ok fu) fun r1 =>
 lx (f4_P_ok fu (r1.1, (r1.2.1, ()))) fun r2 =>
 lx (f9_P_ok fu) fun r3 =>
 lx (f7_P_ok fu (r3.1, (r3.2.1, ()))) fun r4 =>
 lx (f9_P_ok fu) fun r5 =>
 lx (f8_P_ok fu (r5.1, (r5.2.1, ()))) fun r6 =>
 lx (f9_P_ok fu) fun r7 =>
 lx (f1_P_ok fu (r7.1, (r7.2.1, ()))) fun r8 =>
 lc (
 lc (
 lc (
 lc (
 lx (f6_P_ok fu r2.1 e0) fun r9 =>
 lc (
 lx (f6_P_ok fu r4.1 e0) fun r10 =>
 lc (
 lx (f6_P_ok fu r6.1 e0) fun r11 =>
 lc (
 lc (
 lc (
 lc (
 lc (
 lb fun v12 =>
 lc (
 lb fun v13 =>
 lc (
 lb fun v14 =>
 lx (f11_P_ok fu ([(0 : Int), (2 : Int)] : List Int)) fun r15 =>
 lx (f10_P_ok fu v14.2.2.1 r15) fun r16 =>
 lc (
 lb fun v17 =>
 lc (
 lb fun v18 =>
 lc (
 lb fun v19 =>
 let e20 : List Int := ([(1 : Int), (1 : Int), (2 : Int), (1 : Int)] : List Int)
 lx (f11_P_ok fu e20) fun r21 =>
 lx (f10_P_ok fu v19.2.2.1 r21) fun r22 =>
 lr _) (lr _)) (lr _)) (lr _)) (lr _)) (lr _)) (lr _)) (lr _)) (lr _)) (lr _)) (lr _)) (lr _)) (lr _)) (lr _)) (lr _)) (lr _)) (lr _))
def toruslaw22_ClearExamples_P (fu : Nat) : Option (Bool) :=
 (f0_P fu).bind fun r0 =>
 bif (!r0) then
  some false
 else
  (f7_P fu ((5 : Int), (([] : List Cl), ()))).bind fun r1 =>
  (f8_P fu ((5 : Int), (([] : List Cl), ()))).bind fun r2 =>
  (f1_P fu ((5 : Int), (([] : List Cl), ()))).bind fun r3 =>
  (f9_P fu).bind fun r4 =>
  (f4_P fu ((9 : Int), (r4.2.1, ()))).bind fun r5 =>
  (f7_P fu ((9 : Int), (r4.2.1, ()))).bind fun r6 =>
  (f8_P fu ((9 : Int), (r4.2.1, ()))).bind fun r7 =>
  (f1_P fu ((9 : Int), (r4.2.1, ()))).bind fun r8 =>
  bif (r1.2.2 == (0 : Int)) then
   (f5_P fu r1.1 (r1.2.1.1, (r1.2.1.2.1, ()))).bind fun r9 =>
   bif r9 then
    bif (r2.2.2 == (0 : Int)) then
     (f5_P fu r2.1 (r2.2.1.1, (r2.2.1.2.1, ()))).bind fun r10 =>
     bif r10 then
      bif (r3.2 == (0 : Int)) then
       bif (r3.1.1 == (5 : Int)) then
        bif ((r3.1.2.1.length : Int) == (0 : Int)) then
         bif (r5.2.2 == (8 : Int)) then
          bif (r6.2.2 == (8 : Int)) then
           bif (r7.2.2 == (8 : Int)) then
            some (r8.2 == (8 : Int))
           else
            some false
          else
           some false
         else
          some false
        else
         some false
       else
        some false
      else
       some false
     else
      some false
    else
     some false
   else
    some false
  else
   some false
theorem toruslaw22_ClearExamples_P_ok (fu : Nat) : Le (toruslaw22_ClearExamples_P fu) (toruslaw22_ClearExamples) := le (toruslaw22_ClearExamples_eq) (
 lx (f0_P_ok fu) fun r0 =>
 lc (lr _) (
 lx (f7_P_ok fu ((5 : Int), (([] : List Cl), ()))) fun r1 =>
 lx (f8_P_ok fu ((5 : Int), (([] : List Cl), ()))) fun r2 =>
 lx (f1_P_ok fu ((5 : Int), (([] : List Cl), ()))) fun r3 =>
 lx (f9_P_ok fu) fun r4 =>
 lx (f4_P_ok fu ((9 : Int), (r4.2.1, ()))) fun r5 =>
 lx (f7_P_ok fu ((9 : Int), (r4.2.1, ()))) fun r6 =>
 lx (f8_P_ok fu ((9 : Int), (r4.2.1, ()))) fun r7 =>
 lx (f1_P_ok fu ((9 : Int), (r4.2.1, ()))) fun r8 =>
 lc (
 lx (f5_P_ok fu r1.1 (r1.2.1.1, (r1.2.1.2.1, ()))) fun r9 =>
 lc (
 lc (
 lx (f5_P_ok fu r2.1 (r2.2.1.1, (r2.2.1.2.1, ()))) fun r10 =>
 lc (
 lc (
 lc (
 lc (
 lc (
 lc (
 lc (lr _) (lr _)) (lr _)) (lr _)) (lr _)) (lr _)) (lr _)) (lr _)) (lr _)) (lr _)) (lr _)))
end Go.Proofs.YtofjebmoebhiiaaGreatDoor.Ev
