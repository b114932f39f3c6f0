/- YtofjebmoebhiiaaGreatDoorXe: a part of the proof (Eqbits, Eqchain, Eqclear ..). No condition. -/
import Derived.Test.YtofjebmoebhiiaaGreatDoorXd
set_option linter.unusedVariables false
set_option maxRecDepth 100000
set_option exponentiation.threshold 2000
namespace Go.Proofs.YtofjebmoebhiiaaGreatDoor.Ev
open Go.Abs
theorem f53_eq (x : Int) : f53 x =
 (f86 x).bind fun r0 =>
 some r0 := (evI_eq1 T B lf 91 x).trans (by kernel_rfl)
theorem f86_eq (x : Int) : f86 x =
 bif (decide (x ≥ (4294967296 : Int))) then
  bif (decide ((shr .u64 x (32 : Int)) ≥ (65536 : Int))) then
   bif (decide ((shr .u64 (shr .u64 x (32 : Int)) (16 : Int)) ≥ (256 : Int))) then
    let e0 : Int := (shr .u64 (shr .u64 (shr .u64 x (32 : Int)) (16 : Int)) (8 : Int))
    (sidx (bs [0, 1, 2, 2, 3, 3, 3, 3, 4, 4, 4, 4, 4, 4, 4, 4, 5, 5, 5, 5, 5, 5, 5, 5, 5, 5, 5, 5, 5, 5, 5, 5, 6, 6, 6, 6, 6, 6, 6, 6, 6, 6, 6, 6, 6, 6, 6, 6, 6, 6, 6, 6, 6, 6, 6, 6, 6, 6, 6, 6, 6, 6, 6, 6, 7, 7, 7, 7, 7, 7, 7, 7, 7, 7, 7, 7, 7, 7, 7, 7, 7, 7, 7, 7, 7, 7, 7, 7, 7, 7, 7, 7, 7, 7, 7, 7, 7, 7, 7, 7, 7, 7, 7, 7, 7, 7, 7, 7, 7, 7, 7, 7, 7, 7, 7, 7, 7, 7, 7, 7, 7, 7, 7, 7, 7, 7, 7, 7, 8, 8, 8, 8, 8, 8, 8, 8, 8, 8, 8, 8, 8, 8, 8, 8, 8, 8, 8, 8, 8, 8, 8, 8, 8, 8, 8, 8, 8, 8, 8, 8, 8, 8, 8, 8, 8, 8, 8, 8, 8, 8, 8, 8, 8, 8, 8, 8, 8, 8, 8, 8, 8, 8, 8, 8, 8, 8, 8, 8, 8, 8, 8, 8, 8, 8, 8, 8, 8, 8, 8, 8, 8, 8, 8, 8, 8, 8, 8, 8, 8, 8, 8, 8, 8, 8, 8, 8, 8, 8, 8, 8, 8, 8, 8, 8, 8, 8, 8, 8, 8, 8, 8, 8, 8, 8, 8, 8, 8, 8, 8, 8, 8, 8, 8, 8, 8, 8, 8, 8, 8, 8, 8, 8, 8, 8, 8, 8]) (IntKind.wrap .u8 e0)).bind fun v1 =>
    let e2 : Int := (W ((56 : Int) + (W v1)))
    some e2
   else
    let e3 : Int := (IntKind.wrap .u8 (shr .u64 (shr .u64 x (32 : Int)) (16 : Int)))
    (sidx (bs [0, 1, 2, 2, 3, 3, 3, 3, 4, 4, 4, 4, 4, 4, 4, 4, 5, 5, 5, 5, 5, 5, 5, 5, 5, 5, 5, 5, 5, 5, 5, 5, 6, 6, 6, 6, 6, 6, 6, 6, 6, 6, 6, 6, 6, 6, 6, 6, 6, 6, 6, 6, 6, 6, 6, 6, 6, 6, 6, 6, 6, 6, 6, 6, 7, 7, 7, 7, 7, 7, 7, 7, 7, 7, 7, 7, 7, 7, 7, 7, 7, 7, 7, 7, 7, 7, 7, 7, 7, 7, 7, 7, 7, 7, 7, 7, 7, 7, 7, 7, 7, 7, 7, 7, 7, 7, 7, 7, 7, 7, 7, 7, 7, 7, 7, 7, 7, 7, 7, 7, 7, 7, 7, 7, 7, 7, 7, 7, 8, 8, 8, 8, 8, 8, 8, 8, 8, 8, 8, 8, 8, 8, 8, 8, 8, 8, 8, 8, 8, 8, 8, 8, 8, 8, 8, 8, 8, 8, 8, 8, 8, 8, 8, 8, 8, 8, 8, 8, 8, 8, 8, 8, 8, 8, 8, 8, 8, 8, 8, 8, 8, 8, 8, 8, 8, 8, 8, 8, 8, 8, 8, 8, 8, 8, 8, 8, 8, 8, 8, 8, 8, 8, 8, 8, 8, 8, 8, 8, 8, 8, 8, 8, 8, 8, 8, 8, 8, 8, 8, 8, 8, 8, 8, 8, 8, 8, 8, 8, 8, 8, 8, 8, 8, 8, 8, 8, 8, 8, 8, 8, 8, 8, 8, 8, 8, 8, 8, 8, 8, 8, 8, 8, 8, 8, 8, 8]) e3).bind fun v4 =>
    let e5 : Int := (W ((48 : Int) + (W v4)))
    some e5
  else
   bif (decide ((shr .u64 x (32 : Int)) ≥ (256 : Int))) then
    let e6 : Int := (IntKind.wrap .u8 (shr .u64 (shr .u64 x (32 : Int)) (8 : Int)))
    (sidx (bs [0, 1, 2, 2, 3, 3, 3, 3, 4, 4, 4, 4, 4, 4, 4, 4, 5, 5, 5, 5, 5, 5, 5, 5, 5, 5, 5, 5, 5, 5, 5, 5, 6, 6, 6, 6, 6, 6, 6, 6, 6, 6, 6, 6, 6, 6, 6, 6, 6, 6, 6, 6, 6, 6, 6, 6, 6, 6, 6, 6, 6, 6, 6, 6, 7, 7, 7, 7, 7, 7, 7, 7, 7, 7, 7, 7, 7, 7, 7, 7, 7, 7, 7, 7, 7, 7, 7, 7, 7, 7, 7, 7, 7, 7, 7, 7, 7, 7, 7, 7, 7, 7, 7, 7, 7, 7, 7, 7, 7, 7, 7, 7, 7, 7, 7, 7, 7, 7, 7, 7, 7, 7, 7, 7, 7, 7, 7, 7, 8, 8, 8, 8, 8, 8, 8, 8, 8, 8, 8, 8, 8, 8, 8, 8, 8, 8, 8, 8, 8, 8, 8, 8, 8, 8, 8, 8, 8, 8, 8, 8, 8, 8, 8, 8, 8, 8, 8, 8, 8, 8, 8, 8, 8, 8, 8, 8, 8, 8, 8, 8, 8, 8, 8, 8, 8, 8, 8, 8, 8, 8, 8, 8, 8, 8, 8, 8, 8, 8, 8, 8, 8, 8, 8, 8, 8, 8, 8, 8, 8, 8, 8, 8, 8, 8, 8, 8, 8, 8, 8, 8, 8, 8, 8, 8, 8, 8, 8, 8, 8, 8, 8, 8, 8, 8, 8, 8, 8, 8, 8, 8, 8, 8, 8, 8, 8, 8, 8, 8, 8, 8, 8, 8, 8, 8, 8, 8]) e6).bind fun v7 =>
    let e8 : Int := (W ((40 : Int) + (W v7)))
    some e8
   else
    (sidx (bs [0, 1, 2, 2, 3, 3, 3, 3, 4, 4, 4, 4, 4, 4, 4, 4, 5, 5, 5, 5, 5, 5, 5, 5, 5, 5, 5, 5, 5, 5, 5, 5, 6, 6, 6, 6, 6, 6, 6, 6, 6, 6, 6, 6, 6, 6, 6, 6, 6, 6, 6, 6, 6, 6, 6, 6, 6, 6, 6, 6, 6, 6, 6, 6, 7, 7, 7, 7, 7, 7, 7, 7, 7, 7, 7, 7, 7, 7, 7, 7, 7, 7, 7, 7, 7, 7, 7, 7, 7, 7, 7, 7, 7, 7, 7, 7, 7, 7, 7, 7, 7, 7, 7, 7, 7, 7, 7, 7, 7, 7, 7, 7, 7, 7, 7, 7, 7, 7, 7, 7, 7, 7, 7, 7, 7, 7, 7, 7, 8, 8, 8, 8, 8, 8, 8, 8, 8, 8, 8, 8, 8, 8, 8, 8, 8, 8, 8, 8, 8, 8, 8, 8, 8, 8, 8, 8, 8, 8, 8, 8, 8, 8, 8, 8, 8, 8, 8, 8, 8, 8, 8, 8, 8, 8, 8, 8, 8, 8, 8, 8, 8, 8, 8, 8, 8, 8, 8, 8, 8, 8, 8, 8, 8, 8, 8, 8, 8, 8, 8, 8, 8, 8, 8, 8, 8, 8, 8, 8, 8, 8, 8, 8, 8, 8, 8, 8, 8, 8, 8, 8, 8, 8, 8, 8, 8, 8, 8, 8, 8, 8, 8, 8, 8, 8, 8, 8, 8, 8, 8, 8, 8, 8, 8, 8, 8, 8, 8, 8, 8, 8, 8, 8, 8, 8, 8, 8]) (IntKind.wrap .u8 (shr .u64 x (32 : Int)))).bind fun v9 =>
    let e10 : Int := (W ((32 : Int) + (W v9)))
    some e10
 else
  bif (decide (x ≥ (65536 : Int))) then
   bif (decide ((shr .u64 x (16 : Int)) ≥ (256 : Int))) then
    let e11 : Int := (IntKind.wrap .u8 (shr .u64 (shr .u64 x (16 : Int)) (8 : Int)))
    (sidx (bs [0, 1, 2, 2, 3, 3, 3, 3, 4, 4, 4, 4, 4, 4, 4, 4, 5, 5, 5, 5, 5, 5, 5, 5, 5, 5, 5, 5, 5, 5, 5, 5, 6, 6, 6, 6, 6, 6, 6, 6, 6, 6, 6, 6, 6, 6, 6, 6, 6, 6, 6, 6, 6, 6, 6, 6, 6, 6, 6, 6, 6, 6, 6, 6, 7, 7, 7, 7, 7, 7, 7, 7, 7, 7, 7, 7, 7, 7, 7, 7, 7, 7, 7, 7, 7, 7, 7, 7, 7, 7, 7, 7, 7, 7, 7, 7, 7, 7, 7, 7, 7, 7, 7, 7, 7, 7, 7, 7, 7, 7, 7, 7, 7, 7, 7, 7, 7, 7, 7, 7, 7, 7, 7, 7, 7, 7, 7, 7, 8, 8, 8, 8, 8, 8, 8, 8, 8, 8, 8, 8, 8, 8, 8, 8, 8, 8, 8, 8, 8, 8, 8, 8, 8, 8, 8, 8, 8, 8, 8, 8, 8, 8, 8, 8, 8, 8, 8, 8, 8, 8, 8, 8, 8, 8, 8, 8, 8, 8, 8, 8, 8, 8, 8, 8, 8, 8, 8, 8, 8, 8, 8, 8, 8, 8, 8, 8, 8, 8, 8, 8, 8, 8, 8, 8, 8, 8, 8, 8, 8, 8, 8, 8, 8, 8, 8, 8, 8, 8, 8, 8, 8, 8, 8, 8, 8, 8, 8, 8, 8, 8, 8, 8, 8, 8, 8, 8, 8, 8, 8, 8, 8, 8, 8, 8, 8, 8, 8, 8, 8, 8, 8, 8, 8, 8, 8, 8]) e11).bind fun v12 =>
    let e13 : Int := (W ((24 : Int) + (W v12)))
    some e13
   else
    (sidx (bs [0, 1, 2, 2, 3, 3, 3, 3, 4, 4, 4, 4, 4, 4, 4, 4, 5, 5, 5, 5, 5, 5, 5, 5, 5, 5, 5, 5, 5, 5, 5, 5, 6, 6, 6, 6, 6, 6, 6, 6, 6, 6, 6, 6, 6, 6, 6, 6, 6, 6, 6, 6, 6, 6, 6, 6, 6, 6, 6, 6, 6, 6, 6, 6, 7, 7, 7, 7, 7, 7, 7, 7, 7, 7, 7, 7, 7, 7, 7, 7, 7, 7, 7, 7, 7, 7, 7, 7, 7, 7, 7, 7, 7, 7, 7, 7, 7, 7, 7, 7, 7, 7, 7, 7, 7, 7, 7, 7, 7, 7, 7, 7, 7, 7, 7, 7, 7, 7, 7, 7, 7, 7, 7, 7, 7, 7, 7, 7, 8, 8, 8, 8, 8, 8, 8, 8, 8, 8, 8, 8, 8, 8, 8, 8, 8, 8, 8, 8, 8, 8, 8, 8, 8, 8, 8, 8, 8, 8, 8, 8, 8, 8, 8, 8, 8, 8, 8, 8, 8, 8, 8, 8, 8, 8, 8, 8, 8, 8, 8, 8, 8, 8, 8, 8, 8, 8, 8, 8, 8, 8, 8, 8, 8, 8, 8, 8, 8, 8, 8, 8, 8, 8, 8, 8, 8, 8, 8, 8, 8, 8, 8, 8, 8, 8, 8, 8, 8, 8, 8, 8, 8, 8, 8, 8, 8, 8, 8, 8, 8, 8, 8, 8, 8, 8, 8, 8, 8, 8, 8, 8, 8, 8, 8, 8, 8, 8, 8, 8, 8, 8, 8, 8, 8, 8, 8, 8]) (IntKind.wrap .u8 (shr .u64 x (16 : Int)))).bind fun v14 =>
    let e15 : Int := (W ((16 : Int) + (W v14)))
    some e15
  else
   bif (decide (x ≥ (256 : Int))) then
    (sidx (bs [0, 1, 2, 2, 3, 3, 3, 3, 4, 4, 4, 4, 4, 4, 4, 4, 5, 5, 5, 5, 5, 5, 5, 5, 5, 5, 5, 5, 5, 5, 5, 5, 6, 6, 6, 6, 6, 6, 6, 6, 6, 6, 6, 6, 6, 6, 6, 6, 6, 6, 6, 6, 6, 6, 6, 6, 6, 6, 6, 6, 6, 6, 6, 6, 7, 7, 7, 7, 7, 7, 7, 7, 7, 7, 7, 7, 7, 7, 7, 7, 7, 7, 7, 7, 7, 7, 7, 7, 7, 7, 7, 7, 7, 7, 7, 7, 7, 7, 7, 7, 7, 7, 7, 7, 7, 7, 7, 7, 7, 7, 7, 7, 7, 7, 7, 7, 7, 7, 7, 7, 7, 7, 7, 7, 7, 7, 7, 7, 8, 8, 8, 8, 8, 8, 8, 8, 8, 8, 8, 8, 8, 8, 8, 8, 8, 8, 8, 8, 8, 8, 8, 8, 8, 8, 8, 8, 8, 8, 8, 8, 8, 8, 8, 8, 8, 8, 8, 8, 8, 8, 8, 8, 8, 8, 8, 8, 8, 8, 8, 8, 8, 8, 8, 8, 8, 8, 8, 8, 8, 8, 8, 8, 8, 8, 8, 8, 8, 8, 8, 8, 8, 8, 8, 8, 8, 8, 8, 8, 8, 8, 8, 8, 8, 8, 8, 8, 8, 8, 8, 8, 8, 8, 8, 8, 8, 8, 8, 8, 8, 8, 8, 8, 8, 8, 8, 8, 8, 8, 8, 8, 8, 8, 8, 8, 8, 8, 8, 8, 8, 8, 8, 8, 8, 8, 8, 8]) (IntKind.wrap .u8 (shr .u64 x (8 : Int)))).bind fun v16 =>
    let e17 : Int := (W ((8 : Int) + (W v16)))
    some e17
   else
    (sidx (bs [0, 1, 2, 2, 3, 3, 3, 3, 4, 4, 4, 4, 4, 4, 4, 4, 5, 5, 5, 5, 5, 5, 5, 5, 5, 5, 5, 5, 5, 5, 5, 5, 6, 6, 6, 6, 6, 6, 6, 6, 6, 6, 6, 6, 6, 6, 6, 6, 6, 6, 6, 6, 6, 6, 6, 6, 6, 6, 6, 6, 6, 6, 6, 6, 7, 7, 7, 7, 7, 7, 7, 7, 7, 7, 7, 7, 7, 7, 7, 7, 7, 7, 7, 7, 7, 7, 7, 7, 7, 7, 7, 7, 7, 7, 7, 7, 7, 7, 7, 7, 7, 7, 7, 7, 7, 7, 7, 7, 7, 7, 7, 7, 7, 7, 7, 7, 7, 7, 7, 7, 7, 7, 7, 7, 7, 7, 7, 7, 8, 8, 8, 8, 8, 8, 8, 8, 8, 8, 8, 8, 8, 8, 8, 8, 8, 8, 8, 8, 8, 8, 8, 8, 8, 8, 8, 8, 8, 8, 8, 8, 8, 8, 8, 8, 8, 8, 8, 8, 8, 8, 8, 8, 8, 8, 8, 8, 8, 8, 8, 8, 8, 8, 8, 8, 8, 8, 8, 8, 8, 8, 8, 8, 8, 8, 8, 8, 8, 8, 8, 8, 8, 8, 8, 8, 8, 8, 8, 8, 8, 8, 8, 8, 8, 8, 8, 8, 8, 8, 8, 8, 8, 8, 8, 8, 8, 8, 8, 8, 8, 8, 8, 8, 8, 8, 8, 8, 8, 8, 8, 8, 8, 8, 8, 8, 8, 8, 8, 8, 8, 8, 8, 8, 8, 8, 8, 8]) (IntKind.wrap .u8 x)).bind fun v18 =>
    let e19 : Int := (W ((0 : Int) + (W v18)))
    some e19 := (evI_eq1 T B lf 133 x).trans (by kernel_rfl)
end Go.Proofs.YtofjebmoebhiiaaGreatDoor.Ev

set_option maxRecDepth 100000
set_option exponentiation.threshold 2000
namespace Go.Proofs.YtofjebmoebhiiaaGreatDoor.Ev
open Go.Abs
theorem f17_eq (c : Int × Cs × Unit) : f17 c =
 (f30 c.1).bind fun r0 =>
 bif (!r0) then
  some (8 : Int)
 else
  bif (decide ((c.2.1.length : Int) > (1024 : Int))) then
   some (3 : Int)
  else
   f17_L0 c.2.1 (c.2.1.length : Int) (0 : Int) c.1 c.2.1 false ([] : List Int) false ([] : List Int) := (evI_eq1 T B lf 41 c).trans (by kernel_rfl)
theorem f17_L0_eq (t : List Cl) (t2 : Int) (t3 : Int) (c : Int) (c2 : List Cl) (last : Bool) (last2 : List Int) (last3 : Bool) (last4 : List Int) : f17_L0 t t2 t3 c c2 last last2 last3 last4 =
 bif (decide (t3 < t2)) then
  (idx t t3).bind fun v0 =>
  (f18 v0.2.1).bind fun r1 =>
  bif (decide (v0.1 < (0 : Int))) then
   some (1 : Int)
  else
   bif (decide (v0.1 > (4 : Int))) then
    some (1 : Int)
   else
    bif (!r1.2) then
     some (1 : Int)
    else
     (f31 v0.2.1).bind fun r2 =>
     bif (!r2) then
      some (1 : Int)
     else
      (f32 c v0.2.2.1).bind fun r3 =>
      bif (r3 != (0 : Int)) then
       some r3
      else
       (f126 v0.2.2.1 t3).bind fun r4 =>
       bif r4 then
        some (7 : Int)
       else
        (f127 v0.2.2.1 ((c, (c2, ())), (v0.1, (v0.2.1, (v0.2.2.1, ()))))).bind fun r5 =>
        bif r5 then
         some (10 : Int)
        else
         (f35 (c, (c2, ())) v0.2.2.1).bind fun r6 =>
         bif (decide ((r6.length : Int) > (0 : Int))) then
          some (11 : Int)
         else
          bif (decide (t3 > (0 : Int))) then
           (f37 ((r1.1.1.1, (r1.1.1.2.1, ())), ((r1.1.2.1.1, (r1.1.2.1.2.1, ())), ())) ((last, (last2, ())), ((last3, (last4, ())), ()))).bind fun r7 =>
           bif (decide (r7 < (0 : Int))) then
            some (6 : Int)
           else
            f17_L0 t t2 (W (t3 + (1 : Int))) c c2 r1.1.1.1 r1.1.1.2.1 r1.1.2.1.1 r1.1.2.1.2.1
          else
           f17_L0 t t2 (W (t3 + (1 : Int))) c c2 r1.1.1.1 r1.1.1.2.1 r1.1.2.1.1 r1.1.2.1.2.1
 else
  some (0 : Int) := (LL_eq T B lf 41 0 _).trans (by kernel_rfl)
theorem f33_eq (t : Int × Int × Unit) (t2 : Int) : f33 t t2 =
 some (decide (t.1 ≥ t2)) := (evI_eq1 T B lf 71 (t, t2)).trans (by kernel_rfl)
theorem f34_eq (t : Int × Int × Unit) (t2 : Int × Cs × Unit) (t3 : Int × ByteArray × Ts × Unit) : f34 t t2 t3 =
 (idx t2.2.1 t.1).bind fun v0 =>
 some (v0.1 != (W (t3.1 - (1 : Int)))) := (evI_eq1 T B lf 72 (t, t2, t3)).trans (by kernel_rfl)
theorem f35_eq (c : Int × Cs × Unit) (x : Ts) : f35 c x =
 f35_L0 x (x.length : Int) (0 : Int) ([] : Ts) c.1 c.2.1 := (evI_eq1 T B lf 73 (c, x)).trans (by kernel_rfl)
theorem f35_L0_eq (t : Ts) (t2 : Int) (t3 : Int) (out : Ts) (c : Int) (c2 : List Cl) : f35_L0 t t2 t3 out c c2 =
 bif (decide (t3 < t2)) then
  (idx t t3).bind fun v0 =>
  (idx c2 v0.1).bind fun v1 =>
  (f50 c out v0.2.1 v1.2.2.1).bind fun r2 =>
  f36 r2.1 t t2 (W (t3 + (1 : Int))) c c2
 else
  some out := (LL_eq T B lf 73 0 _).trans (by kernel_rfl)
theorem f36_eq (out : Ts) (t : Ts) (t2 : Int) (t3 : Int) (c : Int) (c2 : List Cl) : f36 out t t2 t3 c c2 =
 bif (decide (t3 < t2)) then
  (idx t t3).bind fun v0 =>
  (idx c2 v0.1).bind fun v1 =>
  (f50 c out v0.2.1 v1.2.2.1).bind fun r2 =>
  f36 r2.1 t t2 (W (t3 + (1 : Int))) c c2
 else
  some out := (LL_eq T B lf 73 0 _).trans (by kernel_rfl)
end Go.Proofs.YtofjebmoebhiiaaGreatDoor.Ev

set_option maxRecDepth 100000
set_option exponentiation.threshold 2000
namespace Go.Proofs.YtofjebmoebhiiaaGreatDoor.Ev
open Go.Abs
theorem f1_eq (c : Int × Cs × Unit) : f1 c =
 (f17 (c.1, (c.2.1, ()))).bind fun r0 =>
 bif (r0 != (0 : Int)) then
  (res2 (typed [⟨42, .st yC, 0, true, ([] : List (Option Cs))⟩, ⟨42, .st yR, 0, true, ([] : List (Option (List Cn)))⟩, ⟨44, .st yT, 0, true, ([] : List Os)⟩, ⟨58, .st yT, 0, true, ([] : List Os)⟩, ⟨3, .int .i64, 0, true, ([] : List (Option (List Int)))⟩] (.st (.pair (.int .i64) (.pair (.slice (.st yC)) (.unit)))) (.rv (.agg [⟨.int .i64, (0 : Int)⟩, ⟨.ref 0, (0 : Nat)⟩]))) (some r0)).bind fun v1 =>
  some v1
 else
  let e2 : Int := (W ((c.2.1.length : Int) - (1 : Int)))
  bif (okMake 48 (c.2.1.length : Int) (c.2.1.length : Int)) then
  let e3 : List (Option (List Cn)) := (([] : List (Option (List Cn))) ++ [some (List.replicate (c.2.1.length : Int).toNat ((0 : Int), (ByteArray.empty, ((0 : Nat), ()))))])
  let e4 : Nat := (([] : List (Option (List Cn))).length + 1 : Nat)
  (hget e3 e4).bind fun v5 =>
  f1_L0 e2 (v5.length : Int) (0 : Int) c.1 c.2.1 (0 : Int) (0 : Nat) c.1 e4 e3
  else none := (evI_eq1 T B lf 18 c).trans (by kernel_rfl)
theorem f1_L0_eq (last : Int) (t : Int) (t2 : Int) (c : Int) (c2 : List Cl) (t3 : Int) (t4 : Nat) (out : Int) (out2 : Nat) (hp1 : List (Option (List Cn))) : f1_L0 last t t2 c c2 t3 t4 out out2 hp1 =
 bif (decide (t2 < t)) then
  (idx c2 (W (last - t2))).bind fun v0 =>
  (f18 v0.2.1).bind fun r1 =>
  (f19 ((r1.1.1.1, (r1.1.1.2.1, ())), ((r1.1.2.1.1, (r1.1.2.1.2.1, ())), ()))).bind fun r2 =>
  (f20 ((r2.1.1, (r2.1.2.1, ())), ((r2.2.1.1, (r2.2.1.2.1, ())), ()))).bind fun r3 =>
  (hget hp1 out2).bind fun v4 =>
  (idx v4 t2).bind fun _ =>
  (hget hp1 out2).bind fun v5 =>
  (v5[t2.toNat]?).bind fun v6 =>
  let e7 : List (Option (List Cn)) := (hset hp1 out2 (v5.set t2.toNat ((W ((4 : Int) - v0.1)), (v6.2.1, (v6.2.2.1, ())))))
  (hget e7 out2).bind fun v8 =>
  (idx v8 t2).bind fun _ =>
  (hget e7 out2).bind fun v9 =>
  (v9[t2.toNat]?).bind fun v10 =>
  let e11 : List (Option (List Cn)) := (hset e7 out2 (v9.set t2.toNat (v10.1, (r3, (v10.2.2.1, ())))))
  f1_L0 last t (W (t2 + (1 : Int))) c c2 t3 t4 out out2 e11
 else
  f1_L1 last last c c2 t3 t4 out out2 hp1 := (LL_eq T B lf 18 0 _).trans (by kernel_rfl)
theorem f1_L1_eq (last : Int) (k : Int) (c : Int) (c2 : List Cl) (t : Int) (t2 : Nat) (out : Int) (out2 : Nat) (hp1 : List (Option (List Cn))) : f1_L1 last k c c2 t t2 out out2 hp1 =
 bif (decide (k ≥ (0 : Int))) then
  (idx c2 k).bind fun v0 =>
  f1_L2 last k v0.2.2.1 (v0.2.2.1.length : Int) (0 : Int) c c2 t t2 out out2 hp1
 else
  (res2 (typed [⟨42, .st yC, 0, true, ([] : List (Option Cs))⟩, ⟨42, .st yR, 0, true, hp1⟩, ⟨44, .st yT, 0, true, ([] : List Os)⟩, ⟨58, .st yT, 0, true, ([] : List Os)⟩, ⟨3, .int .i64, 0, true, ([] : List (Option (List Int)))⟩] (.st (.pair (.int .i64) (.pair (.slice (.st yC)) (.unit)))) (.rv (.agg [⟨.int .i64, out⟩, ⟨.ref 1, out2⟩]))) (some (0 : Int))).bind fun v1 =>
  some v1 := (LL_eq T B lf 18 1 _).trans (by kernel_rfl)
theorem f1_L2_eq (last : Int) (k : Int) (t : Ts) (t2 : Int) (t3 : Int) (c : Int) (c2 : List Cl) (t4 : Int) (t5 : Nat) (out : Int) (out2 : Nat) (hp1 : List (Option (List Cn))) : f1_L2 last k t t2 t3 c c2 t4 t5 out out2 hp1 =
 bif (decide (t3 < t2)) then
  (idx t t3).bind fun v0 =>
  (hget hp1 out2).bind fun v1 =>
  (idx v1 (W (last - v0.1))).bind fun _ =>
  (hget hp1 out2).bind fun v2 =>
  (v2[(W (last - v0.1)).toNat]?).bind fun v3 =>
  let e4 : Ts := ([((W (last - k)), (v0.2.1, ()))] : Ts)
  (hget ([] : List Os) v3.2.2.1).bind fun v5 =>
  bif (okApp 16 2 v5.length 1) then
  let e6 : List Os := ((hkill ([] : List Os) v3.2.2.1) ++ [some (v5 ++ e4)])
  let e7 : Nat := ((hkill ([] : List Os) v3.2.2.1).length + 1 : Nat)
  (hget hp1 out2).bind fun v8 =>
  (v8[(W (last - v0.1)).toNat]?).bind fun v9 =>
  let e10 : List (Option (List Cn)) := (hset hp1 out2 (v8.set (W (last - v0.1)).toNat (v9.1, (v9.2.1, (e7, ())))))
  f2 last k t t2 (W (t3 + (1 : Int))) c c2 t4 t5 out out2 e10 e6
  else none
 else
  f1_L1 last (W (k - (1 : Int))) c c2 t4 t5 out out2 hp1 := (LL_eq T B lf 18 2 _).trans (by kernel_rfl)
theorem f2_eq (last : Int) (k : Int) (t : Ts) (t2 : Int) (t3 : Int) (c : Int) (c2 : List Cl) (t4 : Int) (t5 : Nat) (out : Int) (out2 : Nat) (hp1 : List (Option (List Cn))) (hp2 : List Os) : f2 last k t t2 t3 c c2 t4 t5 out out2 hp1 hp2 =
 bif (decide (t3 < t2)) then
  (idx t t3).bind fun v0 =>
  (hget hp1 out2).bind fun v1 =>
  (idx v1 (W (last - v0.1))).bind fun _ =>
  (hget hp1 out2).bind fun v2 =>
  (v2[(W (last - v0.1)).toNat]?).bind fun v3 =>
  let e4 : Ts := ([((W (last - k)), (v0.2.1, ()))] : Ts)
  (hget hp2 v3.2.2.1).bind fun v5 =>
  bif (okApp 16 2 v5.length 1) then
  (hget hp1 out2).bind fun v6 =>
  (v6[(W (last - v0.1)).toNat]?).bind fun v7 =>
  let e8 : List (Option (List Cn)) := (hset hp1 out2 (v6.set (W (last - v0.1)).toNat (v7.1, (v7.2.1, (((hkill hp2 v3.2.2.1).length + 1 : Nat), ())))))
  f2 last k t t2 (W (t3 + (1 : Int))) c c2 t4 t5 out out2 e8 ((hkill hp2 v3.2.2.1) ++ [some (v5 ++ e4)])
  else none
 else
  f3 last (W (k - (1 : Int))) c c2 t4 t5 out out2 hp1 hp2 := (LL_eq T B lf 18 2 _).trans (by kernel_rfl)
theorem f3_eq (last : Int) (k : Int) (c : Int) (c2 : List Cl) (t : Int) (t2 : Nat) (out : Int) (out2 : Nat) (hp1 : List (Option (List Cn))) (hp2 : List Os) : f3 last k c c2 t t2 out out2 hp1 hp2 =
 bif (decide (k ≥ (0 : Int))) then
  (idx c2 k).bind fun v0 =>
  f2 last k v0.2.2.1 (v0.2.2.1.length : Int) (0 : Int) c c2 t t2 out out2 hp1 hp2
 else
  (res2 (typed [⟨42, .st yC, 0, true, ([] : List (Option Cs))⟩, ⟨42, .st yR, 0, true, hp1⟩, ⟨44, .st yT, 0, true, hp2⟩, ⟨58, .st yT, 0, true, ([] : List Os)⟩, ⟨3, .int .i64, 0, true, ([] : List (Option (List Int)))⟩] (.st (.pair (.int .i64) (.pair (.slice (.st yC)) (.unit)))) (.rv (.agg [⟨.int .i64, out⟩, ⟨.ref 1, out2⟩]))) (some (0 : Int))).bind fun v1 =>
  some v1 := (LL_eq T B lf 18 1 _).trans (by kernel_rfl)
theorem f4_eq (c : Int × Cs × Unit) : f4 c =
 (f121 (c.1, (c.2.1, ())) ([] : List Os)).bind fun r0 =>
 (res2 (typed [⟨42, .st yC, 0, true, ([] : List (Option Cs))⟩, ⟨42, .st yR, 0, true, ([] : List (Option (List Cn)))⟩, ⟨44, .st yT, 0, true, ([] : List Os)⟩, ⟨58, .st yT, 0, true, r0.2⟩, ⟨3, .int .i64, 0, true, ([] : List (Option (List Int)))⟩] (.slice (.st yT)) (.rv (.cv ⟨.ref 3, r0.1.1⟩))) (res2 (some (r0.1.2.1.1, (r0.1.2.1.2.1, ()))) (some r0.1.2.2))).bind fun v1 =>
 some v1 := (evI_eq1 T B lf 20 c).trans (by kernel_rfl)
theorem f7_eq (c : Int × Cs × Unit) : f7 c =
 (f122 (c.1, (c.2.1, ())) ([] : List Os)).bind fun r0 =>
 (res2 (typed [⟨42, .st yC, 0, true, ([] : List (Option Cs))⟩, ⟨42, .st yR, 0, true, ([] : List (Option (List Cn)))⟩, ⟨44, .st yT, 0, true, ([] : List Os)⟩, ⟨58, .st yT, 0, true, r0.2⟩, ⟨3, .int .i64, 0, true, ([] : List (Option (List Int)))⟩] (.slice (.st yT)) (.rv (.cv ⟨.ref 3, r0.1.1⟩))) (res2 (some (r0.1.2.1.1, (r0.1.2.1.2.1, ()))) (some r0.1.2.2))).bind fun v1 =>
 some v1 := (evI_eq1 T B lf 24 c).trans (by kernel_rfl)
theorem f8_eq (c : Int × Cs × Unit) : f8 c =
 (f1 (c.1, (c.2.1, ()))).bind fun r0 =>
 bif (r0.2 != (0 : Int)) then
  some (([] : Ts), ((0 : Int), ((0 : Int), ())), r0.2)
 else
  (f124 (r0.1.1, (r0.1.2.1, ())) ([] : List Os)).bind fun r1 =>
  let e2 : Int := (W ((c.2.1.length : Int) - (1 : Int)))
  (hget r1.2 r1.1.1).bind fun v3 =>
  f8_L0 r1.1.1 e2 r1.1.1 (v3.length : Int) (0 : Int) (0 : Int) (0 : Int) r1.1.2.1 r1.1.2.2.1 r1.2 := (evI_eq1 T B lf 26 c).trans (by kernel_rfl)
theorem f8_L0_eq (l : Nat) (last : Int) (t : Nat) (t2 : Int) (t3 : Int) (t4 : Int) (t5 : Int) (w : Int) (w2 : Int) (hp3 : List Os) : f8_L0 l last t t2 t3 t4 t5 w w2 hp3 =
 bif (decide (t3 < t2)) then
  (hget hp3 t).bind fun v0 =>
  (idx v0 t3).bind fun _ =>
  (hget hp3 t).bind fun v1 =>
  (v1[t3.toNat]?).bind fun v2 =>
  (hget hp3 l).bind fun v3 =>
  (idx v3 t3).bind fun _ =>
  (hget hp3 l).bind fun v4 =>
  (v4[t3.toNat]?).bind fun v5 =>
  let e6 : List Os := (hset hp3 l (v4.set t3.toNat ((W (last - v2.2.1)), ((W (last - v2.1)), ()))))
  bif (decide (v2.2.1 < (0 : Int))) then
   (hget e6 l).bind fun v7 =>
   (idx v7 t3).bind fun _ =>
   (hget e6 l).bind fun v8 =>
   (v8[t3.toNat]?).bind fun v9 =>
   let e10 : List Os := (hset e6 l (v8.set t3.toNat ((W (last - v2.1)), ((-1 : Int), ()))))
   f8_L0 l last t t2 (W (t3 + (1 : Int))) t4 t5 w w2 e10
  else
   f8_L0 l last t t2 (W (t3 + (1 : Int))) t4 t5 w w2 e6
 else
  (f21 l hp3).bind fun r11 =>
  (res2 (typed [⟨42, .st yC, 0, true, ([] : List (Option Cs))⟩, ⟨42, .st yR, 0, true, ([] : List (Option (List Cn)))⟩, ⟨44, .st yT, 0, true, ([] : List Os)⟩, ⟨58, .st yT, 0, true, r11.2⟩, ⟨3, .int .i64, 0, true, ([] : List (Option (List Int)))⟩] (.slice (.st yT)) (.rv (.cv ⟨.ref 3, l⟩))) (res2 (some (w, (w2, ()))) (some (0 : Int)))).bind fun v12 =>
  some v12 := (LL_eq T B lf 26 0 _).trans (by kernel_rfl)
theorem f22_eq (a : Int × Int × Unit) (b : Int × Int × Unit) : f22 a b =
 some (W (a.1 - b.1)) := (evI_eq1 T B lf 51 (a, b)).trans (by kernel_rfl)
theorem f117_eq (c : Int × Cs × Unit) : f117 c =
 some (c.1, (c.2.1, ())) := (evI_eq1 T B lf 196 c).trans (by kernel_rfl)
theorem f118_eq (t : Int × Cs × Unit) : f118 t =
 f118_L0 (t.2.1.length : Int) (0 : Int) ([] : List (Int × Unit)) := (evI_eq1 T B lf 197 ((), t)).trans (by kernel_rfl)
theorem f118_L0_eq (t : Int) (t2 : Int) (trace : List (Int × Unit)) : f118_L0 t t2 trace =
 bif (decide (t2 < t)) then
  f118_L0 t (W (t2 + (1 : Int))) (trace ++ [(t2, ())])
 else
  some trace := (LL_eq T B lf 197 0 _).trans (by kernel_rfl)
theorem f119_eq (c : Int × Cs × Unit) : f119 c =
 some (c.1, (c.2.1, ())) := (evI_eq1 T B lf 198 c).trans (by kernel_rfl)
theorem f120_eq (t : Int × Cs × Unit) : f120 t =
 f120_L0 (4 : Int) t.1 t.2.1 ([] : List (Int × Unit)) := (evI_eq1 T B lf 199 ((), t)).trans (by kernel_rfl)
theorem f120_L0_eq (d : Int) (t : Int) (t2 : List Cl) (trace : List (Int × Unit)) : f120_L0 d t t2 trace =
 bif (decide (d ≥ (0 : Int))) then
  f120_L1 d t2 (t2.length : Int) (0 : Int) t t2 trace
 else
  some trace := (LL_eq T B lf 199 0 _).trans (by kernel_rfl)
theorem f120_L1_eq (d : Int) (t : List Cl) (t2 : Int) (t3 : Int) (t4 : Int) (t5 : List Cl) (trace : List (Int × Unit)) : f120_L1 d t t2 t3 t4 t5 trace =
 bif (decide (t3 < t2)) then
  (idx t t3).bind fun v0 =>
  bif (v0.1 == d) then
   f120_L1 d t t2 (W (t3 + (1 : Int))) t4 t5 (trace ++ [(t3, ())])
  else
   f120_L1 d t t2 (W (t3 + (1 : Int))) t4 t5 trace
 else
  f120_L0 (W (d - (1 : Int))) t4 t5 trace := (LL_eq T B lf 199 1 _).trans (by kernel_rfl)
theorem f121_eq (c : Int × Cs × Unit) (hp3 : List Os) : f121 c hp3 =
 (f17 (c.1, (c.2.1, ()))).bind fun r0 =>
 bif (r0 != (0 : Int)) then
  some (((0 : Nat), ((0 : Int), ((0 : Int), ())), r0), hp3)
 else
  (f123 (c.1, (c.2.1, ())) hp3).bind fun r1 =>
  some ((r1.1.1, (r1.1.2.1, (r1.1.2.2.1, ())), (0 : Int)), r1.2) := (evI_eq1 T B lf 100045 ((c, (), ()), hp3)).trans (by kernel_rfl)
theorem f122_eq (c : Int × Cs × Unit) (hp3 : List Os) : f122 c hp3 =
 (f17 (c.1, (c.2.1, ()))).bind fun r0 =>
 bif (r0 != (0 : Int)) then
  some (((0 : Nat), ((0 : Int), ((0 : Int), ())), r0), hp3)
 else
  (f124 (c.1, (c.2.1, ())) hp3).bind fun r1 =>
  some ((r1.1.1, (r1.1.2.1, (r1.1.2.2.1, ())), (0 : Int)), r1.2) := (evI_eq1 T B lf 100145 ((c, (), ()), hp3)).trans (by kernel_rfl)
theorem f123_eq (c : Int × Cs × Unit) (hp3 : List Os) : f123 c hp3 =
 bif (okMake 24 (c.2.1.length : Int) (c.2.1.length : Int)) then
 let e0 : List Os := (List.replicate (c.2.1.length : Int).toNat (none : Option Ts))
 bif (okMake 8 (c.2.1.length : Int) (c.2.1.length : Int)) then
 let e1 : List Int := (List.replicate (c.2.1.length : Int).toNat (0 : Int))
 f123_L0 (0 : Nat) (e1.length : Int) (0 : Int) e0 e1 false c.1 c.2.1 (0 : Int) (0 : Int) hp3
 else none
 else none := (evI_eq1 T B lf 100046 (((), c), hp3)).trans (by kernel_rfl)
theorem f123_L0_eq (out : Nat) (t : Int) (t2 : Int) (row : List Os) (row2 : List Int) (e : Bool) (c : Int) (c2 : List Cl) (w : Int) (w2 : Int) (hp3 : List Os) : f123_L0 out t t2 row row2 e c c2 w w2 hp3 =
 bif (decide (t2 < t)) then
  (idx row2 t2).bind fun _ =>
  (row2[t2.toNat]?).bind fun v0 =>
  f123_L0 out t (W (t2 + (1 : Int))) row (row2.set t2.toNat (-2 : Int)) e c c2 w w2 hp3
 else
  (f117 (c, (c2, ()))).bind fun r1 =>
  (f118 (r1.1, (r1.2.1, ()))).bind fun r2 =>
  f123_L1 out out row row2 e c c2 w w2 hp3 r2 := (LL_eq T B lf 100046 0 _).trans (by kernel_rfl)
theorem f123_L1_eq (out : Nat) (out2 : Nat) (row : List Os) (row2 : List Int) (e : Bool) (c : Int) (c2 : List Cl) (w : Int) (w2 : Int) (hp3 : List Os) (rest : List (Int × Unit)) : f123_L1 out out2 row row2 e c c2 w w2 hp3 rest =
 match rest with
 | [] => f123_L3 out (row2.length : Int) (0 : Int) row2 w w2 hp3
 | x0 :: x0s =>
  bif e then
   (idx row x0.1).bind fun _ =>
   (row[x0.1.toNat]?).bind fun v1 =>
   bif (!(Option.isNone v1)) then
    f123_L1 out2 out2 row row2 e c c2 w (W (w2 + (1 : Int))) hp3 x0s
   else
    (idx c2 x0.1).bind fun v2 =>
    (f47 v2.2.2.1).bind fun r3 =>
    (f48 r3).bind fun r4 =>
    f123_L2 x0.1 r3 r4.1 r4.2 out2 row row2 e c c2 w w2 hp3 x0s
  else
   (idx c2 x0.1).bind fun v5 =>
   (f47 v5.2.2.1).bind fun r6 =>
   (f48 r6).bind fun r7 =>
   f123_L2 x0.1 r6 r7.1 r7.2 out2 row row2 e c c2 w w2 hp3 x0s := (LL_eq T B lf 100046 1 _).trans (by kernel_rfl)
theorem f123_L3_eq (out : Nat) (t : Int) (t2 : Int) (t3 : List Int) (w : Int) (w2 : Int) (hp3 : List Os) : f123_L3 out t t2 t3 w w2 hp3 =
 bif (decide (t2 < t)) then
  (idx t3 t2).bind fun _ =>
  (t3[t2.toNat]?).bind fun v0 =>
  bif (decide (v0 > (-2 : Int))) then
   (hget hp3 out).bind fun v1 =>
   bif (okApp 16 2 v1.length 1) then
   let e2 : List Os := ((hkill hp3 out) ++ [some (v1 ++ ([(t2, (v0, ()))] : Ts))])
   f123_L3 ((hkill hp3 out).length + 1 : Nat) t (W (t2 + (1 : Int))) t3 w w2 e2
   else none
  else
   f123_L3 out t (W (t2 + (1 : Int))) t3 w w2 hp3
 else
  some ((out, (w, (w2, ()))), hp3) := (LL_eq T B lf 100046 3 _).trans (by kernel_rfl)
theorem f123_L2_eq (j : Int) (x : Ts) (low : Int) (is0 : Bool) (out : Nat) (row : List Os) (row2 : List Int) (e : Bool) (c : Int) (c2 : List Cl) (w : Int) (w2 : Int) (hp3 : List Os) (rest : List (Int × Unit)) : f123_L2 j x low is0 out row row2 e c c2 w w2 hp3 rest =
 bif is0 then
  (idx row low).bind fun _ =>
  (row[low.toNat]?).bind fun v0 =>
  bif (!(Option.isNone v0)) then
   (idx row low).bind fun _ =>
   (row[low.toNat]?).bind fun v1 =>
   let e2 : Int := (W (((lst v1).length : Int) - (1 : Int)))
   (idx (lst v1) e2).bind fun v3 =>
   (f49 c v3.2.1).bind fun r4 =>
   let e5 : Int := (W ((x.length : Int) - (1 : Int)))
   (idx x e5).bind fun v6 =>
   let e7 : Int := (W ((W (0 - v6.2.1)) * r4.1))
   (f51 c e7).bind fun r8 =>
   (f50 c x r8 (lst v1)).bind fun r9 =>
   (f48 r9.1).bind fun r10 =>
   f123_L2 j r9.1 r10.1 r10.2 out row row2 e c c2 (W (w + (1 : Int))) w2 hp3 rest
  else
   bif is0 then
    (idx row low).bind fun _ =>
    (row[low.toNat]?).bind fun v11 =>
    (snap1 [] (.nsl (.st yT)) [⟨.slice (.st yT), x⟩]).bind fun v12 =>
    (idx row2 low).bind fun _ =>
    (row2[low.toNat]?).bind fun v13 =>
    f123_L1 out out (row.set low.toNat v12) (row2.set low.toNat j) e c c2 w w2 hp3 rest
   else
    (idx row2 j).bind fun _ =>
    (row2[j.toNat]?).bind fun v14 =>
    bif (v14 == (-2 : Int)) then
     (idx row2 j).bind fun _ =>
     (row2[j.toNat]?).bind fun v15 =>
     f123_L1 out out row (row2.set j.toNat (-1 : Int)) e c c2 w w2 hp3 rest
    else
     f123_L1 out out row row2 e c c2 w w2 hp3 rest
 else
  bif is0 then
   (idx row low).bind fun _ =>
   (row[low.toNat]?).bind fun v16 =>
   (snap1 [] (.nsl (.st yT)) [⟨.slice (.st yT), x⟩]).bind fun v17 =>
   (idx row2 low).bind fun _ =>
   (row2[low.toNat]?).bind fun v18 =>
   f123_L1 out out (row.set low.toNat v17) (row2.set low.toNat j) e c c2 w w2 hp3 rest
  else
   (idx row2 j).bind fun _ =>
   (row2[j.toNat]?).bind fun v19 =>
   bif (v19 == (-2 : Int)) then
    (idx row2 j).bind fun _ =>
    (row2[j.toNat]?).bind fun v20 =>
    f123_L1 out out row (row2.set j.toNat (-1 : Int)) e c c2 w w2 hp3 rest
   else
    f123_L1 out out row row2 e c c2 w w2 hp3 rest := (LL_eq T B lf 100046 2 _).trans (by kernel_rfl)
theorem f124_eq (c : Int × Cs × Unit) (hp3 : List Os) : f124 c hp3 =
 bif (okMake 24 (c.2.1.length : Int) (c.2.1.length : Int)) then
 let e0 : List Os := (List.replicate (c.2.1.length : Int).toNat (none : Option Ts))
 bif (okMake 8 (c.2.1.length : Int) (c.2.1.length : Int)) then
 let e1 : List Int := (List.replicate (c.2.1.length : Int).toNat (0 : Int))
 f124_L0 (0 : Nat) (e1.length : Int) (0 : Int) e0 e1 true c.1 c.2.1 (0 : Int) (0 : Int) hp3
 else none
 else none := (evI_eq1 T B lf 100146 (((), c), hp3)).trans (by kernel_rfl)
theorem f124_L0_eq (out : Nat) (t : Int) (t2 : Int) (row : List Os) (row2 : List Int) (e : Bool) (c : Int) (c2 : List Cl) (w : Int) (w2 : Int) (hp3 : List Os) : f124_L0 out t t2 row row2 e c c2 w w2 hp3 =
 bif (decide (t2 < t)) then
  (idx row2 t2).bind fun _ =>
  (row2[t2.toNat]?).bind fun v0 =>
  f124_L0 out t (W (t2 + (1 : Int))) row (row2.set t2.toNat (-2 : Int)) e c c2 w w2 hp3
 else
  (f119 (c, (c2, ()))).bind fun r1 =>
  (f120 (r1.1, (r1.2.1, ()))).bind fun r2 =>
  f124_L1 out out row row2 e c c2 w w2 hp3 r2 := (LL_eq T B lf 100146 0 _).trans (by kernel_rfl)
theorem f124_L1_eq (out : Nat) (out2 : Nat) (row : List Os) (row2 : List Int) (e : Bool) (c : Int) (c2 : List Cl) (w : Int) (w2 : Int) (hp3 : List Os) (rest : List (Int × Unit)) : f124_L1 out out2 row row2 e c c2 w w2 hp3 rest =
 match rest with
 | [] => f124_L3 out (row2.length : Int) (0 : Int) row2 w w2 hp3
 | x0 :: x0s =>
  bif e then
   (idx row x0.1).bind fun _ =>
   (row[x0.1.toNat]?).bind fun v1 =>
   bif (!(Option.isNone v1)) then
    f124_L1 out2 out2 row row2 e c c2 w (W (w2 + (1 : Int))) hp3 x0s
   else
    (idx c2 x0.1).bind fun v2 =>
    (f47 v2.2.2.1).bind fun r3 =>
    (f48 r3).bind fun r4 =>
    f124_L2 x0.1 r3 r4.1 r4.2 out2 row row2 e c c2 w w2 hp3 x0s
  else
   (idx c2 x0.1).bind fun v5 =>
   (f47 v5.2.2.1).bind fun r6 =>
   (f48 r6).bind fun r7 =>
   f124_L2 x0.1 r6 r7.1 r7.2 out2 row row2 e c c2 w w2 hp3 x0s := (LL_eq T B lf 100146 1 _).trans (by kernel_rfl)
theorem f124_L3_eq (out : Nat) (t : Int) (t2 : Int) (t3 : List Int) (w : Int) (w2 : Int) (hp3 : List Os) : f124_L3 out t t2 t3 w w2 hp3 =
 bif (decide (t2 < t)) then
  (idx t3 t2).bind fun _ =>
  (t3[t2.toNat]?).bind fun v0 =>
  bif (decide (v0 > (-2 : Int))) then
   (hget hp3 out).bind fun v1 =>
   bif (okApp 16 2 v1.length 1) then
   let e2 : List Os := ((hkill hp3 out) ++ [some (v1 ++ ([(t2, (v0, ()))] : Ts))])
   f124_L3 ((hkill hp3 out).length + 1 : Nat) t (W (t2 + (1 : Int))) t3 w w2 e2
   else none
  else
   f124_L3 out t (W (t2 + (1 : Int))) t3 w w2 hp3
 else
  some ((out, (w, (w2, ()))), hp3) := (LL_eq T B lf 100146 3 _).trans (by kernel_rfl)
theorem f124_L2_eq (j : Int) (x : Ts) (low : Int) (is0 : Bool) (out : Nat) (row : List Os) (row2 : List Int) (e : Bool) (c : Int) (c2 : List Cl) (w : Int) (w2 : Int) (hp3 : List Os) (rest : List (Int × Unit)) : f124_L2 j x low is0 out row row2 e c c2 w w2 hp3 rest =
 bif is0 then
  (idx row low).bind fun _ =>
  (row[low.toNat]?).bind fun v0 =>
  bif (!(Option.isNone v0)) then
   (idx row low).bind fun _ =>
   (row[low.toNat]?).bind fun v1 =>
   let e2 : Int := (W (((lst v1).length : Int) - (1 : Int)))
   (idx (lst v1) e2).bind fun v3 =>
   (f49 c v3.2.1).bind fun r4 =>
   let e5 : Int := (W ((x.length : Int) - (1 : Int)))
   (idx x e5).bind fun v6 =>
   let e7 : Int := (W ((W (0 - v6.2.1)) * r4.1))
   (f51 c e7).bind fun r8 =>
   (f50 c x r8 (lst v1)).bind fun r9 =>
   (f48 r9.1).bind fun r10 =>
   f124_L2 j r9.1 r10.1 r10.2 out row row2 e c c2 (W (w + (1 : Int))) w2 hp3 rest
  else
   bif is0 then
    (idx row low).bind fun _ =>
    (row[low.toNat]?).bind fun v11 =>
    (snap1 [] (.nsl (.st yT)) [⟨.slice (.st yT), x⟩]).bind fun v12 =>
    (idx row2 low).bind fun _ =>
    (row2[low.toNat]?).bind fun v13 =>
    f124_L1 out out (row.set low.toNat v12) (row2.set low.toNat j) e c c2 w w2 hp3 rest
   else
    (idx row2 j).bind fun _ =>
    (row2[j.toNat]?).bind fun v14 =>
    bif (v14 == (-2 : Int)) then
     (idx row2 j).bind fun _ =>
     (row2[j.toNat]?).bind fun v15 =>
     f124_L1 out out row (row2.set j.toNat (-1 : Int)) e c c2 w w2 hp3 rest
    else
     f124_L1 out out row row2 e c c2 w w2 hp3 rest
 else
  bif is0 then
   (idx row low).bind fun _ =>
   (row[low.toNat]?).bind fun v16 =>
   (snap1 [] (.nsl (.st yT)) [⟨.slice (.st yT), x⟩]).bind fun v17 =>
   (idx row2 low).bind fun _ =>
   (row2[low.toNat]?).bind fun v18 =>
   f124_L1 out out (row.set low.toNat v17) (row2.set low.toNat j) e c c2 w w2 hp3 rest
  else
   (idx row2 j).bind fun _ =>
   (row2[j.toNat]?).bind fun v19 =>
   bif (v19 == (-2 : Int)) then
    (idx row2 j).bind fun _ =>
    (row2[j.toNat]?).bind fun v20 =>
    f124_L1 out out row (row2.set j.toNat (-1 : Int)) e c c2 w w2 hp3 rest
   else
    f124_L1 out out row row2 e c c2 w w2 hp3 rest := (LL_eq T B lf 100146 2 _).trans (by kernel_rfl)
end Go.Proofs.YtofjebmoebhiiaaGreatDoor.Ev

set_option maxRecDepth 100000
set_option exponentiation.threshold 2000
namespace Go.Proofs.YtofjebmoebhiiaaGreatDoor.Ev
open Go.Abs
theorem f32_eq (p : Int) (c : Ts) : f32 p c =
 (f30 p).bind fun r0 =>
 bif (!r0) then
  some (8 : Int)
 else
  f32_L0 p c c (c.length : Int) (0 : Int) := (evI_eq1 T B lf 69 (p, c)).trans (by kernel_rfl)
theorem f32_L0_eq (p : Int) (c : Ts) (t : Ts) (t2 : Int) (t3 : Int) : f32_L0 p c t t2 t3 =
 bif (decide (t3 < t2)) then
  (idx t t3).bind fun v0 =>
  bif (decide (v0.1 < (0 : Int))) then
   some (1 : Int)
  else
   bif (decide (v0.1 ≥ (1024 : Int))) then
    some (1 : Int)
   else
    bif (decide (v0.2.1 < (1 : Int))) then
     some (1 : Int)
    else
     bif (decide (v0.2.1 ≥ p)) then
      some (1 : Int)
     else
      bif (decide (t3 > (0 : Int))) then
       (idx c (W (t3 - (1 : Int)))).bind fun v1 =>
       bif (decide (v0.1 ≤ v1.1)) then
        some (6 : Int)
       else
        f32_L0 p c t t2 (W (t3 + (1 : Int)))
      else
       f32_L0 p c t t2 (W (t3 + (1 : Int)))
 else
  some (0 : Int) := (LL_eq T B lf 69 0 _).trans (by kernel_rfl)
theorem f48_eq (c : Ts) : f48 c =
 bif ((c.length : Int) == (0 : Int)) then
  some ((0 : Int), false)
 else
  let e0 : Int := (W ((c.length : Int) - (1 : Int)))
  (idx c e0).bind fun v1 =>
  some (v1.1, true) := (evI_eq1 T B lf 85 c).trans (by kernel_rfl)
theorem f50_eq (p : Int) (a : Ts) (k : Int) (b : Ts) : f50 p a k b =
 (f76 p ([a, b] : List Ts)).bind fun r0 =>
 bif (r0 != (0 : Int)) then
  some (([] : Ts), r0)
 else
  (f51 p k).bind fun r1 =>
  (f77 p a r1 b).bind fun r2 =>
  some (r2, (0 : Int)) := (evI_eq1 T B lf 87 (p, a, k, b)).trans (by kernel_rfl)
theorem f76_eq (p : Int) (l : List Ts) : f76 p l =
 f76_L0 p l (l.length : Int) (0 : Int) := (evI_eq1 T B lf 122 (p, l)).trans (by kernel_rfl)
theorem f76_L0_eq (p : Int) (t : List Ts) (t2 : Int) (t3 : Int) : f76_L0 p t t2 t3 =
 bif (decide (t3 < t2)) then
  (idx t t3).bind fun v0 =>
  (f32 p v0).bind fun r1 =>
  bif (r1 != (0 : Int)) then
   some r1
  else
   f76_L0 p t t2 (W (t3 + (1 : Int)))
 else
  some (0 : Int) := (LL_eq T B lf 122 0 _).trans (by kernel_rfl)
theorem f77_eq (p : Int) (a : Ts) (k : Int) (b : Ts) : f77 p a k b =
 (f101 a b).bind fun r0 =>
 (f111 r0.1 r0.2).bind fun r1 =>
 f77_L0 ([] : Ts) p k r1 := (evI_eq1 T B lf 123 (p, a, k, b)).trans (by kernel_rfl)
theorem f77_L0_eq (row : Ts) (p : Int) (k : Int) (rest : List (Int × Tm × Unit)) : f77_L0 row p k rest =
 match rest with
 | [] => some row
 | x0 :: x0s =>
  let e1 : Int := (W (x0.2.1.1 + (W (k * x0.2.1.2.1))))
  bif (!(p == 0)) then
  bif ((e1.tmod p) != (0 : Int)) then
   let e2 : Ts := ([(x0.1, ((e1.tmod p), ()))] : Ts)
   bif (okApp 16 2 row.length 1) then
   f77_L0 (row ++ e2) p k x0s
   else none
  else
   f77_L0 row p k x0s
  else none := (LL_eq T B lf 123 0 _).trans (by kernel_rfl)
theorem f101_eq (a : Ts) (b : Ts) : f101 a b =
 some (a, b) := (evI_eq1 T B lf 155 (a, b)).trans (by kernel_rfl)
theorem f111_eq (t : Ts) (t2 : Ts) : f111 t t2 =
 f111_L0 t t2 ([] : List (Int × Tm × Unit)) := (evI_eq1 T B lf 171 ((), t, t2)).trans (by kernel_rfl)
theorem f111_L0_eq (t : Ts) (t2 : Ts) (trace : List (Int × Tm × Unit)) : f111_L0 t t2 trace =
 bif (decide ((t.length : Int) > (0 : Int))) then
  bif ((t2.length : Int) == (0 : Int)) then
   (idx t (0 : Int)).bind fun v0 =>
   (idx t (0 : Int)).bind fun v1 =>
   bif (inCut t.length (1 : Int) (t.length : Int)) then
   let e2 : List (Int × Tm × Unit) := (trace ++ [(v0.1, ((v1.2.1, ((0 : Int), ())), ()))])
   f111_L0 (cut t (1 : Int) (t.length : Int)) t2 e2
   else none
  else
   bif (decide ((t.length : Int) > (0 : Int))) then
    (idx t (0 : Int)).bind fun v3 =>
    (idx t2 (0 : Int)).bind fun v4 =>
    bif (decide (v3.1 < v4.1)) then
     (idx t (0 : Int)).bind fun v5 =>
     (idx t (0 : Int)).bind fun v6 =>
     bif (inCut t.length (1 : Int) (t.length : Int)) then
     let e7 : List (Int × Tm × Unit) := (trace ++ [(v5.1, ((v6.2.1, ((0 : Int), ())), ()))])
     f111_L0 (cut t (1 : Int) (t.length : Int)) t2 e7
     else none
    else
     bif ((t.length : Int) == (0 : Int)) then
      (idx t2 (0 : Int)).bind fun v8 =>
      (idx t2 (0 : Int)).bind fun v9 =>
      bif (inCut t2.length (1 : Int) (t2.length : Int)) then
      let e10 : List (Int × Tm × Unit) := (trace ++ [(v8.1, (((0 : Int), (v9.2.1, ())), ()))])
      f111_L0 t (cut t2 (1 : Int) (t2.length : Int)) e10
      else none
     else
      (idx t2 (0 : Int)).bind fun v11 =>
      (idx t (0 : Int)).bind fun v12 =>
      bif (decide (v11.1 < v12.1)) then
       (idx t2 (0 : Int)).bind fun v13 =>
       (idx t2 (0 : Int)).bind fun v14 =>
       bif (inCut t2.length (1 : Int) (t2.length : Int)) then
       let e15 : List (Int × Tm × Unit) := (trace ++ [(v13.1, (((0 : Int), (v14.2.1, ())), ()))])
       f111_L0 t (cut t2 (1 : Int) (t2.length : Int)) e15
       else none
      else
       (idx t (0 : Int)).bind fun v16 =>
       (idx t (0 : Int)).bind fun v17 =>
       (idx t2 (0 : Int)).bind fun v18 =>
       bif (inCut t.length (1 : Int) (t.length : Int)) then
       bif (inCut t2.length (1 : Int) (t2.length : Int)) then
       let e19 : List (Int × Tm × Unit) := (trace ++ [(v16.1, ((v17.2.1, (v18.2.1, ())), ()))])
       f111_L0 (cut t (1 : Int) (t.length : Int)) (cut t2 (1 : Int) (t2.length : Int)) e19
       else none
       else none
   else
    bif ((t.length : Int) == (0 : Int)) then
     (idx t2 (0 : Int)).bind fun v20 =>
     (idx t2 (0 : Int)).bind fun v21 =>
     bif (inCut t2.length (1 : Int) (t2.length : Int)) then
     let e22 : List (Int × Tm × Unit) := (trace ++ [(v20.1, (((0 : Int), (v21.2.1, ())), ()))])
     f111_L0 t (cut t2 (1 : Int) (t2.length : Int)) e22
     else none
    else
     (idx t2 (0 : Int)).bind fun v23 =>
     (idx t (0 : Int)).bind fun v24 =>
     bif (decide (v23.1 < v24.1)) then
      (idx t2 (0 : Int)).bind fun v25 =>
      (idx t2 (0 : Int)).bind fun v26 =>
      bif (inCut t2.length (1 : Int) (t2.length : Int)) then
      let e27 : List (Int × Tm × Unit) := (trace ++ [(v25.1, (((0 : Int), (v26.2.1, ())), ()))])
      f111_L0 t (cut t2 (1 : Int) (t2.length : Int)) e27
      else none
     else
      (idx t (0 : Int)).bind fun v28 =>
      (idx t (0 : Int)).bind fun v29 =>
      (idx t2 (0 : Int)).bind fun v30 =>
      bif (inCut t.length (1 : Int) (t.length : Int)) then
      bif (inCut t2.length (1 : Int) (t2.length : Int)) then
      let e31 : List (Int × Tm × Unit) := (trace ++ [(v28.1, ((v29.2.1, (v30.2.1, ())), ()))])
      f111_L0 (cut t (1 : Int) (t.length : Int)) (cut t2 (1 : Int) (t2.length : Int)) e31
      else none
      else none
 else
  bif (decide ((t2.length : Int) > (0 : Int))) then
   bif ((t2.length : Int) == (0 : Int)) then
    (idx t (0 : Int)).bind fun v32 =>
    (idx t (0 : Int)).bind fun v33 =>
    bif (inCut t.length (1 : Int) (t.length : Int)) then
    let e34 : List (Int × Tm × Unit) := (trace ++ [(v32.1, ((v33.2.1, ((0 : Int), ())), ()))])
    f111_L0 (cut t (1 : Int) (t.length : Int)) t2 e34
    else none
   else
    bif (decide ((t.length : Int) > (0 : Int))) then
     (idx t (0 : Int)).bind fun v35 =>
     (idx t2 (0 : Int)).bind fun v36 =>
     bif (decide (v35.1 < v36.1)) then
      (idx t (0 : Int)).bind fun v37 =>
      (idx t (0 : Int)).bind fun v38 =>
      bif (inCut t.length (1 : Int) (t.length : Int)) then
      let e39 : List (Int × Tm × Unit) := (trace ++ [(v37.1, ((v38.2.1, ((0 : Int), ())), ()))])
      f111_L0 (cut t (1 : Int) (t.length : Int)) t2 e39
      else none
     else
      bif ((t.length : Int) == (0 : Int)) then
       (idx t2 (0 : Int)).bind fun v40 =>
       (idx t2 (0 : Int)).bind fun v41 =>
       bif (inCut t2.length (1 : Int) (t2.length : Int)) then
       let e42 : List (Int × Tm × Unit) := (trace ++ [(v40.1, (((0 : Int), (v41.2.1, ())), ()))])
       f111_L0 t (cut t2 (1 : Int) (t2.length : Int)) e42
       else none
      else
       (idx t2 (0 : Int)).bind fun v43 =>
       (idx t (0 : Int)).bind fun v44 =>
       bif (decide (v43.1 < v44.1)) then
        (idx t2 (0 : Int)).bind fun v45 =>
        (idx t2 (0 : Int)).bind fun v46 =>
        bif (inCut t2.length (1 : Int) (t2.length : Int)) then
        let e47 : List (Int × Tm × Unit) := (trace ++ [(v45.1, (((0 : Int), (v46.2.1, ())), ()))])
        f111_L0 t (cut t2 (1 : Int) (t2.length : Int)) e47
        else none
       else
        (idx t (0 : Int)).bind fun v48 =>
        (idx t (0 : Int)).bind fun v49 =>
        (idx t2 (0 : Int)).bind fun v50 =>
        bif (inCut t.length (1 : Int) (t.length : Int)) then
        bif (inCut t2.length (1 : Int) (t2.length : Int)) then
        let e51 : List (Int × Tm × Unit) := (trace ++ [(v48.1, ((v49.2.1, (v50.2.1, ())), ()))])
        f111_L0 (cut t (1 : Int) (t.length : Int)) (cut t2 (1 : Int) (t2.length : Int)) e51
        else none
        else none
    else
     bif ((t.length : Int) == (0 : Int)) then
      (idx t2 (0 : Int)).bind fun v52 =>
      (idx t2 (0 : Int)).bind fun v53 =>
      bif (inCut t2.length (1 : Int) (t2.length : Int)) then
      let e54 : List (Int × Tm × Unit) := (trace ++ [(v52.1, (((0 : Int), (v53.2.1, ())), ()))])
      f111_L0 t (cut t2 (1 : Int) (t2.length : Int)) e54
      else none
     else
      (idx t2 (0 : Int)).bind fun v55 =>
      (idx t (0 : Int)).bind fun v56 =>
      bif (decide (v55.1 < v56.1)) then
       (idx t2 (0 : Int)).bind fun v57 =>
       (idx t2 (0 : Int)).bind fun v58 =>
       bif (inCut t2.length (1 : Int) (t2.length : Int)) then
       let e59 : List (Int × Tm × Unit) := (trace ++ [(v57.1, (((0 : Int), (v58.2.1, ())), ()))])
       f111_L0 t (cut t2 (1 : Int) (t2.length : Int)) e59
       else none
      else
       (idx t (0 : Int)).bind fun v60 =>
       (idx t (0 : Int)).bind fun v61 =>
       (idx t2 (0 : Int)).bind fun v62 =>
       bif (inCut t.length (1 : Int) (t.length : Int)) then
       bif (inCut t2.length (1 : Int) (t2.length : Int)) then
       let e63 : List (Int × Tm × Unit) := (trace ++ [(v60.1, ((v61.2.1, (v62.2.1, ())), ()))])
       f111_L0 (cut t (1 : Int) (t.length : Int)) (cut t2 (1 : Int) (t2.length : Int)) e63
       else none
       else none
  else
   some trace := (LL_eq T B lf 171 0 _).trans (by kernel_rfl)
end Go.Proofs.YtofjebmoebhiiaaGreatDoor.Ev

set_option maxRecDepth 100000
set_option exponentiation.threshold 2000
namespace Go.Proofs.YtofjebmoebhiiaaGreatDoor.Ev
open Go.Abs
theorem f30_eq (p : Int) : f30 p =
 f30_L0 p (0 : Int) := (evI_eq1 T B lf 67 p).trans (by kernel_rfl)
theorem f30_L0_eq (p : Int) (t : Int) : f30_L0 p t =
 bif (decide (t < (16 : Int))) then
  bif (decide (t > (1 : Int))) then
   bif (!(t == 0)) then
   bif ((p.tmod t) == (0 : Int)) then
    bif (p != t) then
     some false
    else
     f30_L0 p (W (t + (1 : Int)))
   else
    f30_L0 p (W (t + (1 : Int)))
   else none
  else
   f30_L0 p (W (t + (1 : Int)))
 else
  bif (decide (p > (1 : Int))) then
   some (decide (p ≤ (251 : Int)))
  else
   some false := (LL_eq T B lf 67 0 _).trans (by kernel_rfl)
theorem f49_eq (p : Int) (a : Int) : f49 p a =
 (f73 p).bind fun r0 =>
 bif (r0.2 != (0 : Int)) then
  some ((0 : Int), r0.2)
 else
  (f74 r0.1 a).bind fun r1 =>
  bif (r1 == (0 : Int)) then
   some ((0 : Int), (9 : Int))
  else
   (f75 r0.1 a).bind fun r2 =>
   some (r2, (0 : Int)) := (evI_eq1 T B lf 86 (p, a)).trans (by kernel_rfl)
theorem f51_eq (p : Int) (a : Int) : f51 p a =
 (f73 p).bind fun r0 =>
 bif (r0.2 != (0 : Int)) then
  some (0 : Int)
 else
  (f74 r0.1 a).bind fun r1 =>
  some r1 := (evI_eq1 T B lf 88 (p, a)).trans (by kernel_rfl)
theorem f73_eq (p : Int) : f73 p =
 (f30 p).bind fun r0 =>
 bif (!r0) then
  some ((0 : Int), (8 : Int))
 else
  some (p, (0 : Int)) := (evI_eq1 T B lf 119 p).trans (by kernel_rfl)
theorem f74_eq (f : Int) (a : Int) : f74 f a =
 bif (!(f == 0)) then
 bif (!(f == 0)) then
 some ((W ((a.tmod f) + f)).tmod f)
 else none
 else none := (evI_eq1 T B lf 120 (f, a)).trans (by kernel_rfl)
theorem f75_eq (f : Int) (a : Int) : f75 f a =
 (f100 f a (W (f - (2 : Int)))).bind fun r0 =>
 some r0 := (evI_eq1 T B lf 121 (f, a)).trans (by kernel_rfl)
theorem f100_eq (f : Int) (a : Int) (n : Int) : f100 f a n =
 (f74 f a).bind fun r0 =>
 f100_L0 f n (1 : Int) r0 := (evI_eq1 T B lf 154 (f, a, n)).trans (by kernel_rfl)
theorem f100_L0_eq (f : Int) (n : Int) (out : Int) (base : Int) : f100_L0 f n out base =
 bif (decide (n > (0 : Int))) then
  bif ((n.tmod (2 : Int)) == (1 : Int)) then
   bif (!(f == 0)) then
   bif (!(f == 0)) then
   f100_L0 f (W (n.tdiv (2 : Int))) ((W (out * base)).tmod f) ((W (base * base)).tmod f)
   else none
   else none
  else
   bif (!(f == 0)) then
   f100_L0 f (W (n.tdiv (2 : Int))) out ((W (base * base)).tmod f)
   else none
 else
  some out := (LL_eq T B lf 154 0 _).trans (by kernel_rfl)
end Go.Proofs.YtofjebmoebhiiaaGreatDoor.Ev

set_option maxRecDepth 100000
set_option exponentiation.threshold 2000
namespace Go.Proofs.YtofjebmoebhiiaaGreatDoor.Ev
open Go.Abs
theorem f18_eq (a : ByteArray) : f18 a =
 (f38 a (bs [47])).bind fun r0 =>
 (f39 r0.1).bind fun r1 =>
 bif (!r1.2) then
  (f40 (1 : Int)).bind fun r2 =>
  some (((r1.1.1, (r1.1.2.1, ())), ((r2.1, (r2.2.1, ())), ())), r1.2)
 else
  bif (!r0.2.2) then
   (f40 (1 : Int)).bind fun r3 =>
   some (((r1.1.1, (r1.1.2.1, ())), ((r3.1, (r3.2.1, ())), ())), r1.2)
  else
   (f39 r0.2.1).bind fun r4 =>
   bif (!r4.2) then
    some (((false, (([] : List Int), ())), ((false, (([] : List Int), ())), ())), false)
   else
    (f41 (r1.1.1, (r1.1.2.1, ()))).bind fun r5 =>
    bif (r5 == (0 : Int)) then
     some (((false, (([] : List Int), ())), ((false, (([] : List Int), ())), ())), false)
    else
     (f40 (1 : Int)).bind fun r6 =>
     (f42 (r4.1.1, (r4.1.2.1, ())) (r6.1, (r6.2.1, ()))).bind fun r7 =>
     bif (decide (r7 ≤ (0 : Int))) then
      some (((false, (([] : List Int), ())), ((false, (([] : List Int), ())), ())), false)
     else
      (f43 (r1.1.1, (r1.1.2.1, ())) (r4.1.1, (r4.1.2.1, ()))).bind fun r8 =>
      (f40 (1 : Int)).bind fun r9 =>
      (f42 (r8.1, (r8.2.1, ())) (r9.1, (r9.2.1, ()))).bind fun r10 =>
      bif (r10 != (0 : Int)) then
       some (((false, (([] : List Int), ())), ((false, (([] : List Int), ())), ())), false)
      else
       some (((r1.1.1, (r1.1.2.1, ())), ((r4.1.1, (r4.1.2.1, ())), ())), true) := (evI_eq1 T B lf 42 a).trans (by kernel_rfl)
theorem f19_eq (a : (Bool × (List Int) × Unit) × (Bool × (List Int) × Unit) × Unit) : f19 a =
 (f44 (a.1.1, (a.1.2.1, ()))).bind fun r0 =>
 some ((r0.1, (r0.2.1, ())), ((a.2.1.1, (a.2.1.2.1, ())), ())) := (evI_eq1 T B lf 43 a).trans (by kernel_rfl)
theorem f20_eq (a : (Bool × (List Int) × Unit) × (Bool × (List Int) × Unit) × Unit) : f20 a =
 (f45 ((a.1.1, (a.1.2.1, ())), ((a.2.1.1, (a.2.1.2.1, ())), ()))).bind fun r0 =>
 (f40 (1 : Int)).bind fun r1 =>
 (f42 (r0.1, (r0.2.1, ())) (r1.1, (r1.2.1, ()))).bind fun r2 =>
 bif (r2 != (0 : Int)) then
  (f46 (a.1.1, (a.1.2.1, ()))).bind fun r3 =>
  bif (Nat.ble (r3.size + (bs [47]).size) 9223372036854775807) then
  (f46 (r0.1, (r0.2.1, ()))).bind fun r4 =>
  bif (Nat.ble ((r3 ++ (bs [47])).size + r4.size) 9223372036854775807) then
  some ((r3 ++ (bs [47])) ++ r4)
  else none
  else none
 else
  (f46 (a.1.1, (a.1.2.1, ()))).bind fun r5 =>
  some r5 := (evI_eq1 T B lf 44 a).trans (by kernel_rfl)
theorem f37_eq (a : (Bool × (List Int) × Unit) × (Bool × (List Int) × Unit) × Unit) (b : (Bool × (List Int) × Unit) × (Bool × (List Int) × Unit) × Unit) : f37 a b =
 (f45 ((b.1.1, (b.1.2.1, ())), ((b.2.1.1, (b.2.1.2.1, ())), ()))).bind fun r0 =>
 (f64 (a.1.1, (a.1.2.1, ())) (r0.1, (r0.2.1, ()))).bind fun r1 =>
 (f45 ((a.1.1, (a.1.2.1, ())), ((a.2.1.1, (a.2.1.2.1, ())), ()))).bind fun r2 =>
 (f64 (b.1.1, (b.1.2.1, ())) (r2.1, (r2.2.1, ()))).bind fun r3 =>
 (f42 (r1.1, (r1.2.1, ())) (r3.1, (r3.2.1, ()))).bind fun r4 =>
 some r4 := (evI_eq1 T B lf 74 (a, b)).trans (by kernel_rfl)
theorem f39_eq (a : ByteArray) : f39 a =
 (f66 a (bs [45])).bind fun r0 =>
 bif (r0.1.toList == ByteArray.empty.toList) then
  some ((false, (([] : List Int), ())), false)
 else
  (sidx r0.1 (0 : Int)).bind fun v1 =>
  bif (v1 == (48 : Int)) then
   bif (decide ((r0.1.size : Int) > (1 : Int))) then
    some ((false, (([] : List Int), ())), false)
   else
    bif r0.2 then
     some ((false, (([] : List Int), ())), false)
    else
     f39_L0 r0.1 r0.2 (r0.1.size : Int) ([] : List Int) false ([] : List Int)
  else
   f39_L0 r0.1 r0.2 (r0.1.size : Int) ([] : List Int) false ([] : List Int) := (evI_eq1 T B lf 76 a).trans (by kernel_rfl)
theorem f39_L0_eq (s : ByteArray) (neg : Bool) (end0 : Int) (d : List Int) (t : Bool) (t2 : List Int) : f39_L0 s neg end0 d t t2 =
 bif (decide (end0 > (0 : Int))) then
  let e0 : Int := (bif decide ((W (end0 - (9 : Int))) > (0 : Int)) then (W (end0 - (9 : Int))) else (0 : Int))
  bif (inCut s.size e0 end0) then
  bif (Nat.ble (s.extract e0.toNat end0.toNat).size 140737488355328) then
  let e1 : Int := ((bytesOf (s.extract e0.toNat end0.toNat)).length : Int)
  f39_L1 s neg end0 (0 : Int) (bytesOf (s.extract e0.toNat end0.toNat)) e1 (0 : Int) d t t2
  else none
  else none
 else
  (f67 neg d).bind fun r2 =>
  some ((r2.1, (r2.2.1, ())), true) := (LL_eq T B lf 76 0 _).trans (by kernel_rfl)
theorem f39_L1_eq (s : ByteArray) (neg : Bool) (end0 : Int) (x : Int) (t : List Int) (t2 : Int) (t3 : Int) (d : List Int) (t4 : Bool) (t5 : List Int) : f39_L1 s neg end0 x t t2 t3 d t4 t5 =
 bif (decide (t3 < t2)) then
  (idx t t3).bind fun v0 =>
  bif (decide (v0 < (48 : Int))) then
   some ((false, (([] : List Int), ())), false)
  else
   bif (decide (v0 > (57 : Int))) then
    some ((false, (([] : List Int), ())), false)
   else
    let e1 : Int := (IntKind.wrap .u32 (IntKind.wrap .u8 (v0 - (48 : Int))))
    let e2 : Int := (IntKind.wrap .u32 ((IntKind.wrap .u32 ((10 : Int) * x)) + e1))
    f39_L1 s neg end0 e2 t t2 (W (t3 + (1 : Int))) d t4 t5
 else
  bif (okApp 4 1 d.length 1) then
  f39_L0 s neg (W (end0 - (9 : Int))) (d ++ ([x] : List Int)) t4 t5
  else none := (LL_eq T B lf 76 1 _).trans (by kernel_rfl)
theorem f40_eq (n : Int) : f40 n =
 bif (decide (n < (0 : Int))) then
  f40_L0 (IntKind.wrap .u64 (0 - (IntKind.wrap .u64 n))) (decide (n < (0 : Int))) ([] : List Int) false ([] : List Int)
 else
  f40_L0 (IntKind.wrap .u64 n) (decide (n < (0 : Int))) ([] : List Int) false ([] : List Int) := (evI_eq1 T B lf 77 n).trans (by kernel_rfl)
theorem f40_L0_eq (u : Int) (neg : Bool) (d : List Int) (t : Bool) (t2 : List Int) : f40_L0 u neg d t t2 =
 bif (decide (u > (0 : Int))) then
  let e0 : List Int := ([(IntKind.wrap .u32 (u.tmod (1000000000 : Int)))] : List Int)
  bif (okApp 4 1 d.length 1) then
  f40_L0 (IntKind.wrap .u64 (u.tdiv (1000000000 : Int))) neg (d ++ e0) t t2
  else none
 else
  some (neg, (d, ())) := (LL_eq T B lf 77 0 _).trans (by kernel_rfl)
theorem f41_eq (a : Bool × (List Int) × Unit) : f41 a =
 bif ((a.2.1.length : Int) == (0 : Int)) then
  some (0 : Int)
 else
  bif a.1 then
   some (-1 : Int)
  else
   some (1 : Int) := (evI_eq1 T B lf 78 a).trans (by kernel_rfl)
theorem f42_eq (a : Bool × (List Int) × Unit) (b : Bool × (List Int) × Unit) : f42 a b =
 bif (!(a.1 == b.1)) then
  bif a.1 then
   some (-1 : Int)
  else
   some (1 : Int)
 else
  bif a.1 then
   (f68 b.2.1 a.2.1).bind fun r0 =>
   some r0
  else
   (f68 a.2.1 b.2.1).bind fun r1 =>
   some r1 := (evI_eq1 T B lf 79 (a, b)).trans (by kernel_rfl)
theorem f43_eq (a : Bool × (List Int) × Unit) (b : Bool × (List Int) × Unit) : f43 a b =
 f43_L0 a.2.1 b.2.1 false ([] : List Int) := (evI_eq1 T B lf 80 (a, b)).trans (by kernel_rfl)
theorem f43_L0_eq (x : List Int) (y : List Int) (t : Bool) (t2 : List Int) : f43_L0 x y t t2 =
 bif (decide ((y.length : Int) > (0 : Int))) then
  bif (decide ((x.length : Int) ≤ (2 : Int))) then
   bif (decide ((y.length : Int) ≤ (2 : Int))) then
    (f70 x).bind fun r0 =>
    (f70 y).bind fun r1 =>
    (f69 r0 r1).bind fun r2 =>
    (f40 r2).bind fun r3 =>
    some (r3.1, (r3.2.1, ()))
   else
    (f71 x y).bind fun r4 =>
    (f72 r4.2).bind fun r5 =>
    f43_L0 y r5 t t2
  else
   (f71 x y).bind fun r6 =>
   (f72 r6.2).bind fun r7 =>
   f43_L0 y r7 t t2
 else
  some (false, (x, ())) := (LL_eq T B lf 80 0 _).trans (by kernel_rfl)
theorem f44_eq (a : Bool × (List Int) × Unit) : f44 a =
 (f67 (!a.1) a.2.1).bind fun r0 =>
 some (r0.1, (r0.2.1, ())) := (evI_eq1 T B lf 81 a).trans (by kernel_rfl)
theorem f45_eq (a : (Bool × (List Int) × Unit) × (Bool × (List Int) × Unit) × Unit) : f45 a =
 (f41 (a.2.1.1, (a.2.1.2.1, ()))).bind fun r0 =>
 bif (r0 == (0 : Int)) then
  (f40 (1 : Int)).bind fun r1 =>
  some (r1.1, (r1.2.1, ()))
 else
  some (a.2.1.1, (a.2.1.2.1, ())) := (evI_eq1 T B lf 82 a).trans (by kernel_rfl)
theorem f46_eq (a : Bool × (List Int) × Unit) : f46 a =
 bif ((a.2.1.length : Int) == (0 : Int)) then
  some (bs [48])
 else
  let e0 : Int := (W ((9 : Int) * (a.2.1.length : Int)))
  bif (okMake 1 (0 : Int) (W (e0 + (1 : Int)))) then
  f46_L0 a.2.1 (a.2.1.length : Int) (0 : Int) ([] : List Int) a.1 a.2.1
  else none := (evI_eq1 T B lf 83 a).trans (by kernel_rfl)
theorem f46_L0_eq (t : List Int) (t2 : Int) (t3 : Int) (out : List Int) (a : Bool) (a2 : List Int) : f46_L0 t t2 t3 out a a2 =
 bif (decide (t3 < t2)) then
  (idx t t3).bind fun v0 =>
  f46_L1 v0 t t2 t3 (0 : Int) out a a2
 else
  f46_L2 out a a2 := (LL_eq T B lf 83 0 _).trans (by kernel_rfl)
theorem f46_L1_eq (x : Int) (t : List Int) (t2 : Int) (t3 : Int) (t4 : Int) (out : List Int) (a : Bool) (a2 : List Int) : f46_L1 x t t2 t3 t4 out a a2 =
 bif (decide (t4 < (9 : Int))) then
  let e0 : Int := (IntKind.wrap .u32 ((48 : Int) + (x.tmod (10 : Int))))
  bif (okApp 1 1 out.length 1) then
  f46_L1 (IntKind.wrap .u32 (x.tdiv (10 : Int))) t t2 t3 (W (t4 + (1 : Int))) (out ++ ([(IntKind.wrap .u8 e0)] : List Int)) a a2
  else none
 else
  f46_L0 t t2 (W (t3 + (1 : Int))) out a a2 := (LL_eq T B lf 83 1 _).trans (by kernel_rfl)
theorem f46_L2_eq (out : List Int) (a : Bool) (a2 : List Int) : f46_L2 out a a2 =
 let e0 : Int := (W ((out.length : Int) - (1 : Int)))
 (idx out e0).bind fun _ =>
 (out[e0.toNat]?).bind fun v1 =>
 bif (v1 == (48 : Int)) then
  let e2 : Int := (W ((out.length : Int) - (1 : Int)))
  bif (inCut out.length 0 e2) then
  f46_L2 (out.take e2.toNat) a a2
  else none
 else
  bif a then
   bif (okApp 1 1 out.length 1) then
   let e3 : Int := ((out ++ ([(45 : Int)] : List Int)).length : Int)
   f46_L3 (0 : Int) (W (e3 - (1 : Int))) (out ++ ([(45 : Int)] : List Int))
   else none
  else
   let e4 : Int := (W ((out.length : Int) - (1 : Int)))
   f46_L3 (0 : Int) e4 out := (LL_eq T B lf 83 2 _).trans (by kernel_rfl)
theorem f46_L3_eq (i : Int) (j : Int) (out : List Int) : f46_L3 i j out =
 bif (decide (i < j)) then
  (idx out j).bind fun _ =>
  (out[j.toNat]?).bind fun v0 =>
  (idx out i).bind fun _ =>
  (out[i.toNat]?).bind fun v1 =>
  (idx out i).bind fun _ =>
  (out[i.toNat]?).bind fun v2 =>
  (idx (out.set i.toNat v0) j).bind fun _ =>
  ((out.set i.toNat v0)[j.toNat]?).bind fun v3 =>
  f46_L3 (W (i + (1 : Int))) (W (j - (1 : Int))) ((out.set i.toNat v0).set j.toNat v1)
 else
  some (strOf out) := (LL_eq T B lf 83 3 _).trans (by kernel_rfl)
theorem f64_eq (a : Bool × (List Int) × Unit) (b : Bool × (List Int) × Unit) : f64 a b =
 let e0 : Int := (W ((a.2.1.length : Int) + (b.2.1.length : Int)))
 bif (okMake 4 e0 e0) then
 f64_L0 a.2.1 (a.2.1.length : Int) (0 : Int) (List.replicate e0.toNat (0 : Int)) a.1 a.2.1 b.1 b.2.1 false ([] : List Int)
 else none := (evI_eq1 T B lf 110 (a, b)).trans (by kernel_rfl)
theorem f64_L0_eq (t : List Int) (t2 : Int) (t3 : Int) (out : List Int) (a : Bool) (a2 : List Int) (b : Bool) (b2 : List Int) (t4 : Bool) (t5 : List Int) : f64_L0 t t2 t3 out a a2 b b2 t4 t5 =
 bif (decide (t3 < t2)) then
  (idx t t3).bind fun v0 =>
  f64_L1 t3 v0 (0 : Int) t t2 t3 b2 (b2.length : Int) (0 : Int) out a a2 b b2 t4 t5
 else
  (f67 (!(a == b)) out).bind fun r1 =>
  some (r1.1, (r1.2.1, ())) := (LL_eq T B lf 110 0 _).trans (by kernel_rfl)
theorem f64_L1_eq (i : Int) (x : Int) (carry : Int) (t : List Int) (t2 : Int) (t3 : Int) (t4 : List Int) (t5 : Int) (t6 : Int) (out : List Int) (a : Bool) (a2 : List Int) (b : Bool) (b2 : List Int) (t7 : Bool) (t8 : List Int) : f64_L1 i x carry t t2 t3 t4 t5 t6 out a a2 b b2 t7 t8 =
 bif (decide (t6 < t5)) then
  (idx t4 t6).bind fun v0 =>
  let e1 : Int := (IntKind.wrap .u64 ((IntKind.wrap .u64 x) * (IntKind.wrap .u64 v0)))
  (idx out (W (i + t6))).bind fun _ =>
  (out[(W (i + t6)).toNat]?).bind fun v2 =>
  let e3 : Int := (IntKind.wrap .u64 (e1 + (IntKind.wrap .u64 v2)))
  let e4 : Int := ((IntKind.wrap .u64 (carry + e3)).tmod (1000000000 : Int))
  (idx out (W (i + t6))).bind fun _ =>
  (out[(W (i + t6)).toNat]?).bind fun v5 =>
  let e6 : List Int := (out.set (W (i + t6)).toNat (IntKind.wrap .u32 e4))
  let e7 : Int := (IntKind.wrap .u64 ((IntKind.wrap .u64 (carry + e3)).tdiv (1000000000 : Int)))
  f64_L1 i x e7 t t2 t3 t4 t5 (W (t6 + (1 : Int))) e6 a a2 b b2 t7 t8
 else
  (idx out (W (i + (b2.length : Int)))).bind fun _ =>
  (out[(W (i + (b2.length : Int))).toNat]?).bind fun v8 =>
  let e9 : List Int := (out.set (W (i + (b2.length : Int))).toNat (IntKind.wrap .u32 carry))
  f64_L0 t t2 (W (t3 + (1 : Int))) e9 a a2 b b2 t7 t8 := (LL_eq T B lf 110 1 _).trans (by kernel_rfl)
theorem f67_eq (neg : Bool) (d : List Int) : f67 neg d =
 (f72 d).bind fun r0 =>
 bif neg then
  some ((decide ((r0.length : Int) > (0 : Int))), (r0, ()))
 else
  some (false, (r0, ())) := (evI_eq1 T B lf 113 (neg, d)).trans (by kernel_rfl)
theorem f68_eq (a : List Int) (b : List Int) : f68 a b =
 bif ((a.length : Int) != (b.length : Int)) then
  bif (decide ((a.length : Int) < (b.length : Int))) then
   some (-1 : Int)
  else
   some (1 : Int)
 else
  let e0 : Int := (W ((a.length : Int) - (1 : Int)))
  f68_L0 a b e0 := (evI_eq1 T B lf 114 (a, b)).trans (by kernel_rfl)
theorem f68_L0_eq (a : List Int) (b : List Int) (i : Int) : f68_L0 a b i =
 bif (decide (i ≥ (0 : Int))) then
  (idx a i).bind fun v0 =>
  (idx b i).bind fun v1 =>
  bif (v0 != v1) then
   (idx a i).bind fun v2 =>
   (idx b i).bind fun v3 =>
   bif (decide (v2 < v3)) then
    some (-1 : Int)
   else
    some (1 : Int)
  else
   f68_L0 a b (W (i - (1 : Int)))
 else
  some (0 : Int) := (LL_eq T B lf 114 0 _).trans (by kernel_rfl)
theorem f69_eq (x : Int) (y : Int) : f69 x y =
 f69_L0 x y := (evI_eq1 T B lf 115 (x, y)).trans (by kernel_rfl)
theorem f69_L0_eq (x : Int) (y : Int) : f69_L0 x y =
 bif (decide (y > (0 : Int))) then
  bif (!(y == 0)) then
  f69_L0 y (x.tmod y)
  else none
 else
  some x := (LL_eq T B lf 115 0 _).trans (by kernel_rfl)
theorem f70_eq (d : List Int) : f70 d =
 let e0 : Int := (W ((d.length : Int) - (1 : Int)))
 f70_L0 d (0 : Int) e0 := (evI_eq1 T B lf 116 d).trans (by kernel_rfl)
theorem f70_L0_eq (d : List Int) (n : Int) (i : Int) : f70_L0 d n i =
 bif (decide (i ≥ (0 : Int))) then
  (idx d i).bind fun v0 =>
  let e1 : Int := (W ((W (n * (1000000000 : Int))) + (W v0)))
  f70_L0 d e1 (W (i - (1 : Int)))
 else
  some n := (LL_eq T B lf 116 0 _).trans (by kernel_rfl)
theorem f71_eq (a : List Int) (b : List Int) : f71 a b =
 (f68 a b).bind fun r0 =>
 bif (decide (r0 < (0 : Int))) then
  some (([] : List Int), a)
 else
  bif ((b.length : Int) == (1 : Int)) then
   (idx b (0 : Int)).bind fun v1 =>
   (f98 a v1).bind fun r2 =>
   (f72 ([r2.2] : List Int)).bind fun r3 =>
   some (r2.1, r3)
  else
   (f99 a b).bind fun r4 =>
   some (r4.1, r4.2) := (evI_eq1 T B lf 117 (a, b)).trans (by kernel_rfl)
theorem f72_eq (d : List Int) : f72 d =
 f72_L0 d := (evI_eq1 T B lf 118 d).trans (by kernel_rfl)
theorem f72_L0_eq (d : List Int) : f72_L0 d =
 bif (decide ((d.length : Int) > (0 : Int))) then
  let e0 : Int := (W ((d.length : Int) - (1 : Int)))
  (idx d e0).bind fun v1 =>
  bif (v1 == (0 : Int)) then
   let e2 : Int := (W ((d.length : Int) - (1 : Int)))
   bif (inCut d.length (0 : Int) e2) then
   f72_L0 (cut d (0 : Int) e2)
   else none
  else
   some d
 else
  some d := (LL_eq T B lf 118 0 _).trans (by kernel_rfl)
theorem f95_eq (a : (Bool × (List Int) × Unit) × (Bool × (List Int) × Unit) × Unit) : f95 a =
 (f107 (a.1.1, (a.1.2.1, ()))).bind fun r0 =>
 bif r0 then
  some true
 else
  (f107 (a.2.1.1, (a.2.1.2.1, ()))).bind fun r1 =>
  some r1 := (evI_eq1 T B lf 149 a).trans (by kernel_rfl)
theorem f98_eq (a : List Int) (b : Int) : f98 a b =
 bif (okMake 4 (a.length : Int) (a.length : Int)) then
 let e0 : List Int := (List.replicate (a.length : Int).toNat (0 : Int))
 let e1 : Int := (W ((a.length : Int) - (1 : Int)))
 f98_L0 a b (0 : Int) e1 e0
 else none := (evI_eq1 T B lf 152 (a, b)).trans (by kernel_rfl)
theorem f98_L0_eq (a : List Int) (b : Int) (rest : Int) (i : Int) (out : List Int) : f98_L0 a b rest i out =
 bif (decide (i ≥ (0 : Int))) then
  (idx a i).bind fun v0 =>
  let e1 : Int := (IntKind.wrap .u64 ((IntKind.wrap .u64 (rest * (1000000000 : Int))) + (IntKind.wrap .u64 v0)))
  bif (!((IntKind.wrap .u64 b) == 0)) then
  let e2 : Int := (IntKind.wrap .u64 (e1.tdiv (IntKind.wrap .u64 b)))
  bif (!((IntKind.wrap .u64 b) == 0)) then
  (idx out i).bind fun _ =>
  (out[i.toNat]?).bind fun v3 =>
  f98_L0 a b (e1.tmod (IntKind.wrap .u64 b)) (W (i - (1 : Int))) (out.set i.toNat (IntKind.wrap .u32 e2))
  else none
  else none
 else
  some (out, (IntKind.wrap .u32 rest)) := (LL_eq T B lf 152 0 _).trans (by kernel_rfl)
theorem f99_eq (a : List Int) (b : List Int) : f99 a b =
 let e0 : Int := (W ((b.length : Int) - (1 : Int)))
 (idx b e0).bind fun v1 =>
 let e2 : Int := (IntKind.wrap .u64 ((IntKind.wrap .u64 v1) + (1 : Int)))
 bif (!(e2 == 0)) then
 let e3 : Int := (IntKind.wrap .u32 (IntKind.wrap .u64 ((1000000000 : Int).tdiv e2)))
 (f110 a e3).bind fun r4 =>
 (f110 b e3).bind fun r5 =>
 (f72 r5).bind fun r6 =>
 let e7 : Int := (W ((r4.length : Int) - (r6.length : Int)))
 bif (okMake 4 e7 e7) then
 let e8 : Int := (W ((r4.length : Int) - (r6.length : Int)))
 f99_L0 e3 r4 r6 (r6.length : Int) (W (e8 - (1 : Int))) (List.replicate e7.toNat (0 : Int))
 else none
 else none := (evI_eq1 T B lf 153 (a, b)).trans (by kernel_rfl)
theorem f99_L0_eq (k : Int) (u : List Int) (v : List Int) (n : Int) (j : Int) (q : List Int) : f99_L0 k u v n j q =
 bif (decide (j ≥ (0 : Int))) then
  (idx u (W (j + n))).bind fun v0 =>
  let e1 : Int := (IntKind.wrap .u64 ((IntKind.wrap .u64 v0) * (1000000000 : Int)))
  let e2 : Int := (W ((W (j + n)) - (1 : Int)))
  (idx u e2).bind fun v3 =>
  let e4 : Int := (IntKind.wrap .u64 (e1 + (IntKind.wrap .u64 v3)))
  (idx v (W (n - (1 : Int)))).bind fun v5 =>
  bif (!((IntKind.wrap .u64 v5) == 0)) then
  let e6 : Int := (IntKind.wrap .u64 (e4.tdiv (IntKind.wrap .u64 v5)))
  (idx v (W (n - (1 : Int)))).bind fun v7 =>
  bif (!((IntKind.wrap .u64 v7) == 0)) then
  f99_L1 k u v n j e6 (e4.tmod (IntKind.wrap .u64 v7)) q
  else none
  else none
 else
  bif (inCut u.length (0 : Int) n) then
  (f98 (cut u (0 : Int) n) k).bind fun r8 =>
  some (q, r8.1)
  else none := (LL_eq T B lf 153 0 _).trans (by kernel_rfl)
theorem f99_L1_eq (k : Int) (u : List Int) (v : List Int) (n : Int) (j : Int) (guess : Int) (rest : Int) (q : List Int) : f99_L1 k u v n j guess rest q =
 bif (decide (guess ≥ (1000000000 : Int))) then
  (idx v (W (n - (1 : Int)))).bind fun v0 =>
  let e1 : Int := (IntKind.wrap .u64 (rest + (IntKind.wrap .u64 v0)))
  bif (decide (e1 ≥ (1000000000 : Int))) then
   f99_L2 k u v n j (IntKind.wrap .u64 (guess - (1 : Int))) (0 : Int) n (0 : Int) q
  else
   f99_L1 k u v n j (IntKind.wrap .u64 (guess - (1 : Int))) e1 q
 else
  (idx v (W (n - (2 : Int)))).bind fun v2 =>
  let e3 : Int := (IntKind.wrap .u64 (guess * (IntKind.wrap .u64 v2)))
  let e4 : Int := (W ((W (j + n)) - (2 : Int)))
  (idx u e4).bind fun v5 =>
  let e6 : Int := (IntKind.wrap .u64 ((IntKind.wrap .u64 (rest * (1000000000 : Int))) + (IntKind.wrap .u64 v5)))
  bif (decide (e3 > e6)) then
   (idx v (W (n - (1 : Int)))).bind fun v7 =>
   let e8 : Int := (IntKind.wrap .u64 (rest + (IntKind.wrap .u64 v7)))
   bif (decide (e8 ≥ (1000000000 : Int))) then
    f99_L2 k u v n j (IntKind.wrap .u64 (guess - (1 : Int))) (0 : Int) n (0 : Int) q
   else
    f99_L1 k u v n j (IntKind.wrap .u64 (guess - (1 : Int))) e8 q
  else
   f99_L2 k u v n j guess (0 : Int) n (0 : Int) q := (LL_eq T B lf 153 1 _).trans (by kernel_rfl)
theorem f99_L2_eq (k : Int) (u : List Int) (v : List Int) (n : Int) (j : Int) (guess : Int) (borrow : Int) (t : Int) (t2 : Int) (q : List Int) : f99_L2 k u v n j guess borrow t t2 q =
 bif (decide (t2 < t)) then
  (idx u (W (t2 + j))).bind fun v0 =>
  let e1 : Int := (W ((W v0) - borrow))
  (idx v t2).bind fun v2 =>
  let e3 : Int := (W ((W guess) * (W v2)))
  let e4 : Int := (W (e1 - (e3.tmod (1000000000 : Int))))
  (idx v t2).bind fun v5 =>
  let e6 : Int := (W ((W guess) * (W v5)))
  bif (decide (e4 < (0 : Int))) then
   let e7 : Int := (W ((W (e6.tdiv (1000000000 : Int))) + (1 : Int)))
   bif (decide ((W (e4 + (1000000000 : Int))) < (0 : Int))) then
    let e8 : Int := (W ((W (e4 + (1000000000 : Int))) + (1000000000 : Int)))
    (idx u (W (t2 + j))).bind fun v9 =>
    none
   else
    let e10 : Int := (IntKind.wrap .u32 (W (e4 + (1000000000 : Int))))
    (idx u (W (t2 + j))).bind fun v11 =>
    none
  else
   bif (decide (e4 < (0 : Int))) then
    let e12 : Int := (W ((W (e6.tdiv (1000000000 : Int))) + (1 : Int)))
    let e13 : Int := (IntKind.wrap .u32 (W (e4 + (1000000000 : Int))))
    (idx u (W (t2 + j))).bind fun v14 =>
    none
   else
    (idx u (W (t2 + j))).bind fun v15 =>
    none
 else
  (idx u (W (j + n))).bind fun v16 =>
  let e17 : Int := (W ((W v16) - borrow))
  bif (decide (e17 < (0 : Int))) then
   f99_L3 k u v n j (IntKind.wrap .u64 (guess - (1 : Int))) e17 (0 : Int) n (0 : Int) q
  else
   (idx u (W (j + n))).bind fun v18 =>
   none  := (LL_eq T B lf 153 2 _).trans (by kernel_rfl)
theorem f99_L3_eq (k : Int) (u : List Int) (v : List Int) (n : Int) (j : Int) (guess : Int) (x : Int) (carry : Int) (t : Int) (t2 : Int) (q : List Int) : f99_L3 k u v n j guess x carry t t2 q =
 bif (decide (t2 < t)) then
  (idx u (W (t2 + j))).bind fun v0 =>
  (idx v t2).bind fun v1 =>
  let e2 : Int := (IntKind.wrap .u32 ((IntKind.wrap .u32 (v0 + v1)) + carry))
  (idx u (W (t2 + j))).bind fun v3 =>
  none
 else
  let e4 : Int := (W (x + (W carry)))
  (idx u (W (j + n))).bind fun v5 =>
  none  := (LL_eq T B lf 153 3 _).trans (by kernel_rfl)
theorem f107_eq (a : Bool × (List Int) × Unit) : f107 a =
 (f115 (a.1, (a.2.1, ()))).bind fun r0 =>
 some (decide (r0 > (1000 : Int))) := (evI_eq1 T B lf 164 a).trans (by kernel_rfl)
theorem f110_eq (a : List Int) (k : Int) : f110 a k =
 let e0 : Int := (W ((a.length : Int) + (1 : Int)))
 bif (okMake 4 (0 : Int) e0) then
 f110_L0 k (0 : Int) a (a.length : Int) (0 : Int) ([] : List Int)
 else none := (evI_eq1 T B lf 170 (a, k)).trans (by kernel_rfl)
theorem f110_L0_eq (k : Int) (carry : Int) (t : List Int) (t2 : Int) (t3 : Int) (out : List Int) : f110_L0 k carry t t2 t3 out =
 bif (decide (t3 < t2)) then
  (idx t t3).bind fun v0 =>
  let e1 : Int := (IntKind.wrap .u64 ((IntKind.wrap .u64 v0) * (IntKind.wrap .u64 k)))
  let e2 : Int := ((IntKind.wrap .u64 (carry + e1)).tmod (1000000000 : Int))
  bif (okApp 4 1 out.length 1) then
  let e3 : Int := (IntKind.wrap .u64 ((IntKind.wrap .u64 (carry + e1)).tdiv (1000000000 : Int)))
  f110_L0 k e3 t t2 (W (t3 + (1 : Int))) (out ++ ([(IntKind.wrap .u32 e2)] : List Int))
  else none
 else
  bif (okApp 4 1 out.length 1) then
  let e4 : List Int := (out ++ ([(IntKind.wrap .u32 carry)] : List Int))
  some e4
  else none := (LL_eq T B lf 170 0 _).trans (by kernel_rfl)
theorem f115_eq (a : Bool × (List Int) × Unit) : f115 a =
 bif ((a.2.1.length : Int) == (0 : Int)) then
  some (0 : Int)
 else
  let e0 : Int := (W ((a.2.1.length : Int) - (1 : Int)))
  let e1 : Int := (W ((a.2.1.length : Int) - (1 : Int)))
  (idx a.2.1 e1).bind fun v2 =>
  f115_L0 (W ((9 : Int) * e0)) v2 := (evI_eq1 T B lf 176 a).trans (by kernel_rfl)
theorem f115_L0_eq (n : Int) (x : Int) : f115_L0 n x =
 bif (decide (x > (0 : Int))) then
  f115_L0 (W (n + (1 : Int))) (IntKind.wrap .u32 (x.tdiv (10 : Int)))
 else
  some n := (LL_eq T B lf 176 0 _).trans (by kernel_rfl)
end Go.Proofs.YtofjebmoebhiiaaGreatDoor.Ev

set_option maxRecDepth 100000
set_option exponentiation.threshold 2000
namespace Go.Proofs.YtofjebmoebhiiaaGreatDoor.Ev
open Go.Abs
theorem f31_eq (a : ByteArray) : f31 a =
 (f63 a).bind fun r0 =>
 some r0.2 := (evI_eq1 T B lf 68 a).trans (by kernel_rfl)
theorem f63_eq (a : ByteArray) : f63 a =
 (f18 a).bind fun r0 =>
 bif r0.2 then
  (f95 ((r0.1.1.1, (r0.1.1.2.1, ())), ((r0.1.2.1.1, (r0.1.2.1.2.1, ())), ()))).bind fun r1 =>
  some (((r0.1.1.1, (r0.1.1.2.1, ())), ((r0.1.2.1.1, (r0.1.2.1.2.1, ())), ())), (!r1))
 else
  some (((r0.1.1.1, (r0.1.1.2.1, ())), ((r0.1.2.1.1, (r0.1.2.1.2.1, ())), ())), false) := (evI_eq1 T B lf 108 a).trans (by kernel_rfl)
end Go.Proofs.YtofjebmoebhiiaaGreatDoor.Ev

set_option maxRecDepth 100000
set_option exponentiation.threshold 2000
namespace Go.Proofs.YtofjebmoebhiiaaGreatDoor.Ev
open Go.Abs
theorem f21_eq (x : Nat) (hp3 : List Os) : f21 x hp3 =
 (hget hp3 x).bind fun v0 =>
 (f53 (IntKind.wrap .u64 (v0.length : Int))).bind fun r1 =>
 (f52 x (0 : Int) (v0.length : Int) r1 hp3).bind fun r2 =>
 some ((), r2.2) := (evI_eq1 T B lf 50 ((x, ()), hp3)).trans (by kernel_rfl)
theorem f52_eq (data : Nat) (a : Int) (b : Int) (limit : Int) (hp3 : List Os) : f52 data a b limit hp3 =
 f52_L0 data a b limit true true hp3 := (evI_eq1 T B lf 90 ((data, a, b, limit, ()), hp3)).trans (by kernel_rfl)
theorem f52_L0_eq (data : Nat) (a : Int) (b : Int) (limit : Int) (wasBalanced : Bool) (wasPartitioned : Bool) (hp3 : List Os) : f52_L0 data a b limit wasBalanced wasPartitioned hp3 =
 bif (decide ((W (b - a)) ≤ (12 : Int))) then
  (f78 data a b hp3).bind fun r0 =>
  some ((), r0.2)
 else
  bif (limit == (0 : Int)) then
   (f79 data a b hp3).bind fun r1 =>
   some ((), r1.2)
  else
   bif (!wasBalanced) then
    (f80 data a b hp3).bind fun r2 =>
    (f81 data a b r2.2).bind fun r3 =>
    bif (r3.1.2 == (2 : Int)) then
     (f82 data a b r3.2).bind fun r4 =>
     let e5 : Int := (W ((W (b - (1 : Int))) - (W (r3.1.1 - a))))
     bif wasBalanced then
      bif wasPartitioned then
       (f83 data a b r4.2).bind fun r6 =>
       bif r6.1 then
        some ((), r6.2)
       else
        bif (decide (a > (0 : Int))) then
         (hget r6.2 data).bind fun v7 =>
         (idx v7 (W (a - (1 : Int)))).bind fun _ =>
         (hget r6.2 data).bind fun v8 =>
         (v8[(W (a - (1 : Int))).toNat]?).bind fun v9 =>
         (hget r6.2 data).bind fun v10 =>
         (idx v10 e5).bind fun _ =>
         (hget r6.2 data).bind fun v11 =>
         (v11[e5.toNat]?).bind fun v12 =>
         (f22 (v9.1, (v9.2.1, ())) (v12.1, (v12.2.1, ()))).bind fun r13 =>
         bif (!(decide (r13 < (0 : Int)))) then
          (f84 data a b e5 r6.2).bind fun r14 =>
          f52_L0 data r14.1 b (W (limit - (1 : Int))) wasBalanced wasPartitioned r14.2
         else
          (f85 data a b e5 r6.2).bind fun r15 =>
          let e16 : Int := (W ((W (b - a)).tdiv (8 : Int)))
          bif (decide ((W (r15.1.1 - a)) < (W (b - r15.1.1)))) then
           (f52 data a r15.1.1 (W (limit - (1 : Int))) r15.2).bind fun r17 =>
           f52_L0 data (W (r15.1.1 + (1 : Int))) b (W (limit - (1 : Int))) (decide ((W (r15.1.1 - a)) ≥ e16)) r15.1.2 r17.2
          else
           (f52 data (W (r15.1.1 + (1 : Int))) b (W (limit - (1 : Int))) r15.2).bind fun r18 =>
           f52_L0 data a r15.1.1 (W (limit - (1 : Int))) (decide ((W (b - r15.1.1)) ≥ e16)) r15.1.2 r18.2
        else
         (f85 data a b e5 r6.2).bind fun r19 =>
         let e20 : Int := (W ((W (b - a)).tdiv (8 : Int)))
         bif (decide ((W (r19.1.1 - a)) < (W (b - r19.1.1)))) then
          (f52 data a r19.1.1 (W (limit - (1 : Int))) r19.2).bind fun r21 =>
          f52_L0 data (W (r19.1.1 + (1 : Int))) b (W (limit - (1 : Int))) (decide ((W (r19.1.1 - a)) ≥ e20)) r19.1.2 r21.2
         else
          (f52 data (W (r19.1.1 + (1 : Int))) b (W (limit - (1 : Int))) r19.2).bind fun r22 =>
          f52_L0 data a r19.1.1 (W (limit - (1 : Int))) (decide ((W (b - r19.1.1)) ≥ e20)) r19.1.2 r22.2
      else
       bif (decide (a > (0 : Int))) then
        (hget r4.2 data).bind fun v23 =>
        (idx v23 (W (a - (1 : Int)))).bind fun _ =>
        (hget r4.2 data).bind fun v24 =>
        (v24[(W (a - (1 : Int))).toNat]?).bind fun v25 =>
        (hget r4.2 data).bind fun v26 =>
        (idx v26 e5).bind fun _ =>
        (hget r4.2 data).bind fun v27 =>
        (v27[e5.toNat]?).bind fun v28 =>
        (f22 (v25.1, (v25.2.1, ())) (v28.1, (v28.2.1, ()))).bind fun r29 =>
        bif (!(decide (r29 < (0 : Int)))) then
         (f84 data a b e5 r4.2).bind fun r30 =>
         f52_L0 data r30.1 b (W (limit - (1 : Int))) wasBalanced wasPartitioned r30.2
        else
         (f85 data a b e5 r4.2).bind fun r31 =>
         let e32 : Int := (W ((W (b - a)).tdiv (8 : Int)))
         bif (decide ((W (r31.1.1 - a)) < (W (b - r31.1.1)))) then
          (f52 data a r31.1.1 (W (limit - (1 : Int))) r31.2).bind fun r33 =>
          f52_L0 data (W (r31.1.1 + (1 : Int))) b (W (limit - (1 : Int))) (decide ((W (r31.1.1 - a)) ≥ e32)) r31.1.2 r33.2
         else
          (f52 data (W (r31.1.1 + (1 : Int))) b (W (limit - (1 : Int))) r31.2).bind fun r34 =>
          f52_L0 data a r31.1.1 (W (limit - (1 : Int))) (decide ((W (b - r31.1.1)) ≥ e32)) r31.1.2 r34.2
       else
        (f85 data a b e5 r4.2).bind fun r35 =>
        let e36 : Int := (W ((W (b - a)).tdiv (8 : Int)))
        bif (decide ((W (r35.1.1 - a)) < (W (b - r35.1.1)))) then
         (f52 data a r35.1.1 (W (limit - (1 : Int))) r35.2).bind fun r37 =>
         f52_L0 data (W (r35.1.1 + (1 : Int))) b (W (limit - (1 : Int))) (decide ((W (r35.1.1 - a)) ≥ e36)) r35.1.2 r37.2
        else
         (f52 data (W (r35.1.1 + (1 : Int))) b (W (limit - (1 : Int))) r35.2).bind fun r38 =>
         f52_L0 data a r35.1.1 (W (limit - (1 : Int))) (decide ((W (b - r35.1.1)) ≥ e36)) r35.1.2 r38.2
     else
      bif (decide (a > (0 : Int))) then
       (hget r4.2 data).bind fun v39 =>
       (idx v39 (W (a - (1 : Int)))).bind fun _ =>
       (hget r4.2 data).bind fun v40 =>
       (v40[(W (a - (1 : Int))).toNat]?).bind fun v41 =>
       (hget r4.2 data).bind fun v42 =>
       (idx v42 e5).bind fun _ =>
       (hget r4.2 data).bind fun v43 =>
       (v43[e5.toNat]?).bind fun v44 =>
       (f22 (v41.1, (v41.2.1, ())) (v44.1, (v44.2.1, ()))).bind fun r45 =>
       bif (!(decide (r45 < (0 : Int)))) then
        (f84 data a b e5 r4.2).bind fun r46 =>
        f52_L0 data r46.1 b (W (limit - (1 : Int))) wasBalanced wasPartitioned r46.2
       else
        (f85 data a b e5 r4.2).bind fun r47 =>
        let e48 : Int := (W ((W (b - a)).tdiv (8 : Int)))
        bif (decide ((W (r47.1.1 - a)) < (W (b - r47.1.1)))) then
         (f52 data a r47.1.1 (W (limit - (1 : Int))) r47.2).bind fun r49 =>
         f52_L0 data (W (r47.1.1 + (1 : Int))) b (W (limit - (1 : Int))) (decide ((W (r47.1.1 - a)) ≥ e48)) r47.1.2 r49.2
        else
         (f52 data (W (r47.1.1 + (1 : Int))) b (W (limit - (1 : Int))) r47.2).bind fun r50 =>
         f52_L0 data a r47.1.1 (W (limit - (1 : Int))) (decide ((W (b - r47.1.1)) ≥ e48)) r47.1.2 r50.2
      else
       (f85 data a b e5 r4.2).bind fun r51 =>
       let e52 : Int := (W ((W (b - a)).tdiv (8 : Int)))
       bif (decide ((W (r51.1.1 - a)) < (W (b - r51.1.1)))) then
        (f52 data a r51.1.1 (W (limit - (1 : Int))) r51.2).bind fun r53 =>
        f52_L0 data (W (r51.1.1 + (1 : Int))) b (W (limit - (1 : Int))) (decide ((W (r51.1.1 - a)) ≥ e52)) r51.1.2 r53.2
       else
        (f52 data (W (r51.1.1 + (1 : Int))) b (W (limit - (1 : Int))) r51.2).bind fun r54 =>
        f52_L0 data a r51.1.1 (W (limit - (1 : Int))) (decide ((W (b - r51.1.1)) ≥ e52)) r51.1.2 r54.2
    else
     bif wasBalanced then
      bif wasPartitioned then
       bif (r3.1.2 == (1 : Int)) then
        (f83 data a b r3.2).bind fun r55 =>
        bif r55.1 then
         some ((), r55.2)
        else
         bif (decide (a > (0 : Int))) then
          (hget r55.2 data).bind fun v56 =>
          (idx v56 (W (a - (1 : Int)))).bind fun _ =>
          (hget r55.2 data).bind fun v57 =>
          (v57[(W (a - (1 : Int))).toNat]?).bind fun v58 =>
          (hget r55.2 data).bind fun v59 =>
          (idx v59 r3.1.1).bind fun _ =>
          (hget r55.2 data).bind fun v60 =>
          (v60[r3.1.1.toNat]?).bind fun v61 =>
          (f22 (v58.1, (v58.2.1, ())) (v61.1, (v61.2.1, ()))).bind fun r62 =>
          bif (!(decide (r62 < (0 : Int)))) then
           (f84 data a b r3.1.1 r55.2).bind fun r63 =>
           f52_L0 data r63.1 b (W (limit - (1 : Int))) wasBalanced wasPartitioned r63.2
          else
           (f85 data a b r3.1.1 r55.2).bind fun r64 =>
           let e65 : Int := (W ((W (b - a)).tdiv (8 : Int)))
           bif (decide ((W (r64.1.1 - a)) < (W (b - r64.1.1)))) then
            (f52 data a r64.1.1 (W (limit - (1 : Int))) r64.2).bind fun r66 =>
            f52_L0 data (W (r64.1.1 + (1 : Int))) b (W (limit - (1 : Int))) (decide ((W (r64.1.1 - a)) ≥ e65)) r64.1.2 r66.2
           else
            (f52 data (W (r64.1.1 + (1 : Int))) b (W (limit - (1 : Int))) r64.2).bind fun r67 =>
            f52_L0 data a r64.1.1 (W (limit - (1 : Int))) (decide ((W (b - r64.1.1)) ≥ e65)) r64.1.2 r67.2
         else
          (f85 data a b r3.1.1 r55.2).bind fun r68 =>
          let e69 : Int := (W ((W (b - a)).tdiv (8 : Int)))
          bif (decide ((W (r68.1.1 - a)) < (W (b - r68.1.1)))) then
           (f52 data a r68.1.1 (W (limit - (1 : Int))) r68.2).bind fun r70 =>
           f52_L0 data (W (r68.1.1 + (1 : Int))) b (W (limit - (1 : Int))) (decide ((W (r68.1.1 - a)) ≥ e69)) r68.1.2 r70.2
          else
           (f52 data (W (r68.1.1 + (1 : Int))) b (W (limit - (1 : Int))) r68.2).bind fun r71 =>
           f52_L0 data a r68.1.1 (W (limit - (1 : Int))) (decide ((W (b - r68.1.1)) ≥ e69)) r68.1.2 r71.2
       else
        bif (decide (a > (0 : Int))) then
         (hget r3.2 data).bind fun v72 =>
         (idx v72 (W (a - (1 : Int)))).bind fun _ =>
         (hget r3.2 data).bind fun v73 =>
         (v73[(W (a - (1 : Int))).toNat]?).bind fun v74 =>
         (hget r3.2 data).bind fun v75 =>
         (idx v75 r3.1.1).bind fun _ =>
         (hget r3.2 data).bind fun v76 =>
         (v76[r3.1.1.toNat]?).bind fun v77 =>
         (f22 (v74.1, (v74.2.1, ())) (v77.1, (v77.2.1, ()))).bind fun r78 =>
         bif (!(decide (r78 < (0 : Int)))) then
          (f84 data a b r3.1.1 r3.2).bind fun r79 =>
          f52_L0 data r79.1 b (W (limit - (1 : Int))) wasBalanced wasPartitioned r79.2
         else
          (f85 data a b r3.1.1 r3.2).bind fun r80 =>
          let e81 : Int := (W ((W (b - a)).tdiv (8 : Int)))
          bif (decide ((W (r80.1.1 - a)) < (W (b - r80.1.1)))) then
           (f52 data a r80.1.1 (W (limit - (1 : Int))) r80.2).bind fun r82 =>
           f52_L0 data (W (r80.1.1 + (1 : Int))) b (W (limit - (1 : Int))) (decide ((W (r80.1.1 - a)) ≥ e81)) r80.1.2 r82.2
          else
           (f52 data (W (r80.1.1 + (1 : Int))) b (W (limit - (1 : Int))) r80.2).bind fun r83 =>
           f52_L0 data a r80.1.1 (W (limit - (1 : Int))) (decide ((W (b - r80.1.1)) ≥ e81)) r80.1.2 r83.2
        else
         (f85 data a b r3.1.1 r3.2).bind fun r84 =>
         let e85 : Int := (W ((W (b - a)).tdiv (8 : Int)))
         bif (decide ((W (r84.1.1 - a)) < (W (b - r84.1.1)))) then
          (f52 data a r84.1.1 (W (limit - (1 : Int))) r84.2).bind fun r86 =>
          f52_L0 data (W (r84.1.1 + (1 : Int))) b (W (limit - (1 : Int))) (decide ((W (r84.1.1 - a)) ≥ e85)) r84.1.2 r86.2
         else
          (f52 data (W (r84.1.1 + (1 : Int))) b (W (limit - (1 : Int))) r84.2).bind fun r87 =>
          f52_L0 data a r84.1.1 (W (limit - (1 : Int))) (decide ((W (b - r84.1.1)) ≥ e85)) r84.1.2 r87.2
      else
       bif (decide (a > (0 : Int))) then
        (hget r3.2 data).bind fun v88 =>
        (idx v88 (W (a - (1 : Int)))).bind fun _ =>
        (hget r3.2 data).bind fun v89 =>
        (v89[(W (a - (1 : Int))).toNat]?).bind fun v90 =>
        (hget r3.2 data).bind fun v91 =>
        (idx v91 r3.1.1).bind fun _ =>
        (hget r3.2 data).bind fun v92 =>
        (v92[r3.1.1.toNat]?).bind fun v93 =>
        (f22 (v90.1, (v90.2.1, ())) (v93.1, (v93.2.1, ()))).bind fun r94 =>
        bif (!(decide (r94 < (0 : Int)))) then
         (f84 data a b r3.1.1 r3.2).bind fun r95 =>
         f52_L0 data r95.1 b (W (limit - (1 : Int))) wasBalanced wasPartitioned r95.2
        else
         (f85 data a b r3.1.1 r3.2).bind fun r96 =>
         let e97 : Int := (W ((W (b - a)).tdiv (8 : Int)))
         bif (decide ((W (r96.1.1 - a)) < (W (b - r96.1.1)))) then
          (f52 data a r96.1.1 (W (limit - (1 : Int))) r96.2).bind fun r98 =>
          f52_L0 data (W (r96.1.1 + (1 : Int))) b (W (limit - (1 : Int))) (decide ((W (r96.1.1 - a)) ≥ e97)) r96.1.2 r98.2
         else
          (f52 data (W (r96.1.1 + (1 : Int))) b (W (limit - (1 : Int))) r96.2).bind fun r99 =>
          f52_L0 data a r96.1.1 (W (limit - (1 : Int))) (decide ((W (b - r96.1.1)) ≥ e97)) r96.1.2 r99.2
       else
        (f85 data a b r3.1.1 r3.2).bind fun r100 =>
        let e101 : Int := (W ((W (b - a)).tdiv (8 : Int)))
        bif (decide ((W (r100.1.1 - a)) < (W (b - r100.1.1)))) then
         (f52 data a r100.1.1 (W (limit - (1 : Int))) r100.2).bind fun r102 =>
         f52_L0 data (W (r100.1.1 + (1 : Int))) b (W (limit - (1 : Int))) (decide ((W (r100.1.1 - a)) ≥ e101)) r100.1.2 r102.2
        else
         (f52 data (W (r100.1.1 + (1 : Int))) b (W (limit - (1 : Int))) r100.2).bind fun r103 =>
         f52_L0 data a r100.1.1 (W (limit - (1 : Int))) (decide ((W (b - r100.1.1)) ≥ e101)) r100.1.2 r103.2
     else
      bif (decide (a > (0 : Int))) then
       (hget r3.2 data).bind fun v104 =>
       (idx v104 (W (a - (1 : Int)))).bind fun _ =>
       (hget r3.2 data).bind fun v105 =>
       (v105[(W (a - (1 : Int))).toNat]?).bind fun v106 =>
       (hget r3.2 data).bind fun v107 =>
       (idx v107 r3.1.1).bind fun _ =>
       (hget r3.2 data).bind fun v108 =>
       (v108[r3.1.1.toNat]?).bind fun v109 =>
       (f22 (v106.1, (v106.2.1, ())) (v109.1, (v109.2.1, ()))).bind fun r110 =>
       bif (!(decide (r110 < (0 : Int)))) then
        (f84 data a b r3.1.1 r3.2).bind fun r111 =>
        f52_L0 data r111.1 b (W (limit - (1 : Int))) wasBalanced wasPartitioned r111.2
       else
        (f85 data a b r3.1.1 r3.2).bind fun r112 =>
        let e113 : Int := (W ((W (b - a)).tdiv (8 : Int)))
        bif (decide ((W (r112.1.1 - a)) < (W (b - r112.1.1)))) then
         (f52 data a r112.1.1 (W (limit - (1 : Int))) r112.2).bind fun r114 =>
         f52_L0 data (W (r112.1.1 + (1 : Int))) b (W (limit - (1 : Int))) (decide ((W (r112.1.1 - a)) ≥ e113)) r112.1.2 r114.2
        else
         (f52 data (W (r112.1.1 + (1 : Int))) b (W (limit - (1 : Int))) r112.2).bind fun r115 =>
         f52_L0 data a r112.1.1 (W (limit - (1 : Int))) (decide ((W (b - r112.1.1)) ≥ e113)) r112.1.2 r115.2
      else
       (f85 data a b r3.1.1 r3.2).bind fun r116 =>
       let e117 : Int := (W ((W (b - a)).tdiv (8 : Int)))
       bif (decide ((W (r116.1.1 - a)) < (W (b - r116.1.1)))) then
        (f52 data a r116.1.1 (W (limit - (1 : Int))) r116.2).bind fun r118 =>
        f52_L0 data (W (r116.1.1 + (1 : Int))) b (W (limit - (1 : Int))) (decide ((W (r116.1.1 - a)) ≥ e117)) r116.1.2 r118.2
       else
        (f52 data (W (r116.1.1 + (1 : Int))) b (W (limit - (1 : Int))) r116.2).bind fun r119 =>
        f52_L0 data a r116.1.1 (W (limit - (1 : Int))) (decide ((W (b - r116.1.1)) ≥ e117)) r116.1.2 r119.2
   else
    (f81 data a b hp3).bind fun r120 =>
    bif (r120.1.2 == (2 : Int)) then
     (f82 data a b r120.2).bind fun r121 =>
     let e122 : Int := (W ((W (b - (1 : Int))) - (W (r120.1.1 - a))))
     bif wasBalanced then
      bif wasPartitioned then
       (f83 data a b r121.2).bind fun r123 =>
       bif r123.1 then
        some ((), r123.2)
       else
        bif (decide (a > (0 : Int))) then
         (hget r123.2 data).bind fun v124 =>
         (idx v124 (W (a - (1 : Int)))).bind fun _ =>
         (hget r123.2 data).bind fun v125 =>
         (v125[(W (a - (1 : Int))).toNat]?).bind fun v126 =>
         (hget r123.2 data).bind fun v127 =>
         (idx v127 e122).bind fun _ =>
         (hget r123.2 data).bind fun v128 =>
         (v128[e122.toNat]?).bind fun v129 =>
         (f22 (v126.1, (v126.2.1, ())) (v129.1, (v129.2.1, ()))).bind fun r130 =>
         bif (!(decide (r130 < (0 : Int)))) then
          (f84 data a b e122 r123.2).bind fun r131 =>
          f52_L0 data r131.1 b limit wasBalanced wasPartitioned r131.2
         else
          (f85 data a b e122 r123.2).bind fun r132 =>
          let e133 : Int := (W ((W (b - a)).tdiv (8 : Int)))
          bif (decide ((W (r132.1.1 - a)) < (W (b - r132.1.1)))) then
           (f52 data a r132.1.1 limit r132.2).bind fun r134 =>
           f52_L0 data (W (r132.1.1 + (1 : Int))) b limit (decide ((W (r132.1.1 - a)) ≥ e133)) r132.1.2 r134.2
          else
           (f52 data (W (r132.1.1 + (1 : Int))) b limit r132.2).bind fun r135 =>
           f52_L0 data a r132.1.1 limit (decide ((W (b - r132.1.1)) ≥ e133)) r132.1.2 r135.2
        else
         (f85 data a b e122 r123.2).bind fun r136 =>
         let e137 : Int := (W ((W (b - a)).tdiv (8 : Int)))
         bif (decide ((W (r136.1.1 - a)) < (W (b - r136.1.1)))) then
          (f52 data a r136.1.1 limit r136.2).bind fun r138 =>
          f52_L0 data (W (r136.1.1 + (1 : Int))) b limit (decide ((W (r136.1.1 - a)) ≥ e137)) r136.1.2 r138.2
         else
          (f52 data (W (r136.1.1 + (1 : Int))) b limit r136.2).bind fun r139 =>
          f52_L0 data a r136.1.1 limit (decide ((W (b - r136.1.1)) ≥ e137)) r136.1.2 r139.2
      else
       bif (decide (a > (0 : Int))) then
        (hget r121.2 data).bind fun v140 =>
        (idx v140 (W (a - (1 : Int)))).bind fun _ =>
        (hget r121.2 data).bind fun v141 =>
        (v141[(W (a - (1 : Int))).toNat]?).bind fun v142 =>
        (hget r121.2 data).bind fun v143 =>
        (idx v143 e122).bind fun _ =>
        (hget r121.2 data).bind fun v144 =>
        (v144[e122.toNat]?).bind fun v145 =>
        (f22 (v142.1, (v142.2.1, ())) (v145.1, (v145.2.1, ()))).bind fun r146 =>
        bif (!(decide (r146 < (0 : Int)))) then
         (f84 data a b e122 r121.2).bind fun r147 =>
         f52_L0 data r147.1 b limit wasBalanced wasPartitioned r147.2
        else
         (f85 data a b e122 r121.2).bind fun r148 =>
         let e149 : Int := (W ((W (b - a)).tdiv (8 : Int)))
         bif (decide ((W (r148.1.1 - a)) < (W (b - r148.1.1)))) then
          (f52 data a r148.1.1 limit r148.2).bind fun r150 =>
          f52_L0 data (W (r148.1.1 + (1 : Int))) b limit (decide ((W (r148.1.1 - a)) ≥ e149)) r148.1.2 r150.2
         else
          (f52 data (W (r148.1.1 + (1 : Int))) b limit r148.2).bind fun r151 =>
          f52_L0 data a r148.1.1 limit (decide ((W (b - r148.1.1)) ≥ e149)) r148.1.2 r151.2
       else
        (f85 data a b e122 r121.2).bind fun r152 =>
        let e153 : Int := (W ((W (b - a)).tdiv (8 : Int)))
        bif (decide ((W (r152.1.1 - a)) < (W (b - r152.1.1)))) then
         (f52 data a r152.1.1 limit r152.2).bind fun r154 =>
         f52_L0 data (W (r152.1.1 + (1 : Int))) b limit (decide ((W (r152.1.1 - a)) ≥ e153)) r152.1.2 r154.2
        else
         (f52 data (W (r152.1.1 + (1 : Int))) b limit r152.2).bind fun r155 =>
         f52_L0 data a r152.1.1 limit (decide ((W (b - r152.1.1)) ≥ e153)) r152.1.2 r155.2
     else
      bif (decide (a > (0 : Int))) then
       (hget r121.2 data).bind fun v156 =>
       (idx v156 (W (a - (1 : Int)))).bind fun _ =>
       (hget r121.2 data).bind fun v157 =>
       (v157[(W (a - (1 : Int))).toNat]?).bind fun v158 =>
       (hget r121.2 data).bind fun v159 =>
       (idx v159 e122).bind fun _ =>
       (hget r121.2 data).bind fun v160 =>
       (v160[e122.toNat]?).bind fun v161 =>
       (f22 (v158.1, (v158.2.1, ())) (v161.1, (v161.2.1, ()))).bind fun r162 =>
       bif (!(decide (r162 < (0 : Int)))) then
        (f84 data a b e122 r121.2).bind fun r163 =>
        f52_L0 data r163.1 b limit wasBalanced wasPartitioned r163.2
       else
        (f85 data a b e122 r121.2).bind fun r164 =>
        let e165 : Int := (W ((W (b - a)).tdiv (8 : Int)))
        bif (decide ((W (r164.1.1 - a)) < (W (b - r164.1.1)))) then
         (f52 data a r164.1.1 limit r164.2).bind fun r166 =>
         f52_L0 data (W (r164.1.1 + (1 : Int))) b limit (decide ((W (r164.1.1 - a)) ≥ e165)) r164.1.2 r166.2
        else
         (f52 data (W (r164.1.1 + (1 : Int))) b limit r164.2).bind fun r167 =>
         f52_L0 data a r164.1.1 limit (decide ((W (b - r164.1.1)) ≥ e165)) r164.1.2 r167.2
      else
       (f85 data a b e122 r121.2).bind fun r168 =>
       let e169 : Int := (W ((W (b - a)).tdiv (8 : Int)))
       bif (decide ((W (r168.1.1 - a)) < (W (b - r168.1.1)))) then
        (f52 data a r168.1.1 limit r168.2).bind fun r170 =>
        f52_L0 data (W (r168.1.1 + (1 : Int))) b limit (decide ((W (r168.1.1 - a)) ≥ e169)) r168.1.2 r170.2
       else
        (f52 data (W (r168.1.1 + (1 : Int))) b limit r168.2).bind fun r171 =>
        f52_L0 data a r168.1.1 limit (decide ((W (b - r168.1.1)) ≥ e169)) r168.1.2 r171.2
    else
     bif wasBalanced then
      bif wasPartitioned then
       bif (r120.1.2 == (1 : Int)) then
        (f83 data a b r120.2).bind fun r172 =>
        bif r172.1 then
         some ((), r172.2)
        else
         bif (decide (a > (0 : Int))) then
          (hget r172.2 data).bind fun v173 =>
          (idx v173 (W (a - (1 : Int)))).bind fun _ =>
          (hget r172.2 data).bind fun v174 =>
          (v174[(W (a - (1 : Int))).toNat]?).bind fun v175 =>
          (hget r172.2 data).bind fun v176 =>
          (idx v176 r120.1.1).bind fun _ =>
          (hget r172.2 data).bind fun v177 =>
          (v177[r120.1.1.toNat]?).bind fun v178 =>
          (f22 (v175.1, (v175.2.1, ())) (v178.1, (v178.2.1, ()))).bind fun r179 =>
          bif (!(decide (r179 < (0 : Int)))) then
           (f84 data a b r120.1.1 r172.2).bind fun r180 =>
           f52_L0 data r180.1 b limit wasBalanced wasPartitioned r180.2
          else
           (f85 data a b r120.1.1 r172.2).bind fun r181 =>
           let e182 : Int := (W ((W (b - a)).tdiv (8 : Int)))
           bif (decide ((W (r181.1.1 - a)) < (W (b - r181.1.1)))) then
            (f52 data a r181.1.1 limit r181.2).bind fun r183 =>
            f52_L0 data (W (r181.1.1 + (1 : Int))) b limit (decide ((W (r181.1.1 - a)) ≥ e182)) r181.1.2 r183.2
           else
            (f52 data (W (r181.1.1 + (1 : Int))) b limit r181.2).bind fun r184 =>
            f52_L0 data a r181.1.1 limit (decide ((W (b - r181.1.1)) ≥ e182)) r181.1.2 r184.2
         else
          (f85 data a b r120.1.1 r172.2).bind fun r185 =>
          let e186 : Int := (W ((W (b - a)).tdiv (8 : Int)))
          bif (decide ((W (r185.1.1 - a)) < (W (b - r185.1.1)))) then
           (f52 data a r185.1.1 limit r185.2).bind fun r187 =>
           f52_L0 data (W (r185.1.1 + (1 : Int))) b limit (decide ((W (r185.1.1 - a)) ≥ e186)) r185.1.2 r187.2
          else
           (f52 data (W (r185.1.1 + (1 : Int))) b limit r185.2).bind fun r188 =>
           f52_L0 data a r185.1.1 limit (decide ((W (b - r185.1.1)) ≥ e186)) r185.1.2 r188.2
       else
        bif (decide (a > (0 : Int))) then
         (hget r120.2 data).bind fun v189 =>
         (idx v189 (W (a - (1 : Int)))).bind fun _ =>
         (hget r120.2 data).bind fun v190 =>
         (v190[(W (a - (1 : Int))).toNat]?).bind fun v191 =>
         (hget r120.2 data).bind fun v192 =>
         (idx v192 r120.1.1).bind fun _ =>
         (hget r120.2 data).bind fun v193 =>
         (v193[r120.1.1.toNat]?).bind fun v194 =>
         (f22 (v191.1, (v191.2.1, ())) (v194.1, (v194.2.1, ()))).bind fun r195 =>
         bif (!(decide (r195 < (0 : Int)))) then
          (f84 data a b r120.1.1 r120.2).bind fun r196 =>
          f52_L0 data r196.1 b limit wasBalanced wasPartitioned r196.2
         else
          (f85 data a b r120.1.1 r120.2).bind fun r197 =>
          let e198 : Int := (W ((W (b - a)).tdiv (8 : Int)))
          bif (decide ((W (r197.1.1 - a)) < (W (b - r197.1.1)))) then
           (f52 data a r197.1.1 limit r197.2).bind fun r199 =>
           f52_L0 data (W (r197.1.1 + (1 : Int))) b limit (decide ((W (r197.1.1 - a)) ≥ e198)) r197.1.2 r199.2
          else
           (f52 data (W (r197.1.1 + (1 : Int))) b limit r197.2).bind fun r200 =>
           f52_L0 data a r197.1.1 limit (decide ((W (b - r197.1.1)) ≥ e198)) r197.1.2 r200.2
        else
         (f85 data a b r120.1.1 r120.2).bind fun r201 =>
         let e202 : Int := (W ((W (b - a)).tdiv (8 : Int)))
         bif (decide ((W (r201.1.1 - a)) < (W (b - r201.1.1)))) then
          (f52 data a r201.1.1 limit r201.2).bind fun r203 =>
          f52_L0 data (W (r201.1.1 + (1 : Int))) b limit (decide ((W (r201.1.1 - a)) ≥ e202)) r201.1.2 r203.2
         else
          (f52 data (W (r201.1.1 + (1 : Int))) b limit r201.2).bind fun r204 =>
          f52_L0 data a r201.1.1 limit (decide ((W (b - r201.1.1)) ≥ e202)) r201.1.2 r204.2
      else
       bif (decide (a > (0 : Int))) then
        (hget r120.2 data).bind fun v205 =>
        (idx v205 (W (a - (1 : Int)))).bind fun _ =>
        (hget r120.2 data).bind fun v206 =>
        (v206[(W (a - (1 : Int))).toNat]?).bind fun v207 =>
        (hget r120.2 data).bind fun v208 =>
        (idx v208 r120.1.1).bind fun _ =>
        (hget r120.2 data).bind fun v209 =>
        (v209[r120.1.1.toNat]?).bind fun v210 =>
        (f22 (v207.1, (v207.2.1, ())) (v210.1, (v210.2.1, ()))).bind fun r211 =>
        bif (!(decide (r211 < (0 : Int)))) then
         (f84 data a b r120.1.1 r120.2).bind fun r212 =>
         f52_L0 data r212.1 b limit wasBalanced wasPartitioned r212.2
        else
         (f85 data a b r120.1.1 r120.2).bind fun r213 =>
         let e214 : Int := (W ((W (b - a)).tdiv (8 : Int)))
         bif (decide ((W (r213.1.1 - a)) < (W (b - r213.1.1)))) then
          (f52 data a r213.1.1 limit r213.2).bind fun r215 =>
          f52_L0 data (W (r213.1.1 + (1 : Int))) b limit (decide ((W (r213.1.1 - a)) ≥ e214)) r213.1.2 r215.2
         else
          (f52 data (W (r213.1.1 + (1 : Int))) b limit r213.2).bind fun r216 =>
          f52_L0 data a r213.1.1 limit (decide ((W (b - r213.1.1)) ≥ e214)) r213.1.2 r216.2
       else
        (f85 data a b r120.1.1 r120.2).bind fun r217 =>
        let e218 : Int := (W ((W (b - a)).tdiv (8 : Int)))
        bif (decide ((W (r217.1.1 - a)) < (W (b - r217.1.1)))) then
         (f52 data a r217.1.1 limit r217.2).bind fun r219 =>
         f52_L0 data (W (r217.1.1 + (1 : Int))) b limit (decide ((W (r217.1.1 - a)) ≥ e218)) r217.1.2 r219.2
        else
         (f52 data (W (r217.1.1 + (1 : Int))) b limit r217.2).bind fun r220 =>
         f52_L0 data a r217.1.1 limit (decide ((W (b - r217.1.1)) ≥ e218)) r217.1.2 r220.2
     else
      bif (decide (a > (0 : Int))) then
       (hget r120.2 data).bind fun v221 =>
       (idx v221 (W (a - (1 : Int)))).bind fun _ =>
       (hget r120.2 data).bind fun v222 =>
       (v222[(W (a - (1 : Int))).toNat]?).bind fun v223 =>
       (hget r120.2 data).bind fun v224 =>
       (idx v224 r120.1.1).bind fun _ =>
       (hget r120.2 data).bind fun v225 =>
       (v225[r120.1.1.toNat]?).bind fun v226 =>
       (f22 (v223.1, (v223.2.1, ())) (v226.1, (v226.2.1, ()))).bind fun r227 =>
       bif (!(decide (r227 < (0 : Int)))) then
        (f84 data a b r120.1.1 r120.2).bind fun r228 =>
        f52_L0 data r228.1 b limit wasBalanced wasPartitioned r228.2
       else
        (f85 data a b r120.1.1 r120.2).bind fun r229 =>
        let e230 : Int := (W ((W (b - a)).tdiv (8 : Int)))
        bif (decide ((W (r229.1.1 - a)) < (W (b - r229.1.1)))) then
         (f52 data a r229.1.1 limit r229.2).bind fun r231 =>
         f52_L0 data (W (r229.1.1 + (1 : Int))) b limit (decide ((W (r229.1.1 - a)) ≥ e230)) r229.1.2 r231.2
        else
         (f52 data (W (r229.1.1 + (1 : Int))) b limit r229.2).bind fun r232 =>
         f52_L0 data a r229.1.1 limit (decide ((W (b - r229.1.1)) ≥ e230)) r229.1.2 r232.2
      else
       (f85 data a b r120.1.1 r120.2).bind fun r233 =>
       let e234 : Int := (W ((W (b - a)).tdiv (8 : Int)))
       bif (decide ((W (r233.1.1 - a)) < (W (b - r233.1.1)))) then
        (f52 data a r233.1.1 limit r233.2).bind fun r235 =>
        f52_L0 data (W (r233.1.1 + (1 : Int))) b limit (decide ((W (r233.1.1 - a)) ≥ e234)) r233.1.2 r235.2
       else
        (f52 data (W (r233.1.1 + (1 : Int))) b limit r233.2).bind fun r236 =>
        f52_L0 data a r233.1.1 limit (decide ((W (b - r233.1.1)) ≥ e234)) r233.1.2 r236.2 := (LL_eq T B lf 90 0 _).trans (by kernel_rfl)
theorem f78_eq (data : Nat) (a : Int) (b : Int) (hp3 : List Os) : f78 data a b hp3 =
 f78_L0 data a b (W (a + (1 : Int))) hp3 := (evI_eq1 T B lf 124 ((data, a, b, ()), hp3)).trans (by kernel_rfl)
theorem f78_L0_eq (data : Nat) (a : Int) (b : Int) (i : Int) (hp3 : List Os) : f78_L0 data a b i hp3 =
 bif (decide (i < b)) then
  f78_L1 data a b i i hp3
 else
  some ((), hp3) := (LL_eq T B lf 124 0 _).trans (by kernel_rfl)
theorem f78_L1_eq (data : Nat) (a : Int) (b : Int) (i : Int) (j : Int) (hp3 : List Os) : f78_L1 data a b i j hp3 =
 bif (decide (j > a)) then
  (hget hp3 data).bind fun v0 =>
  (idx v0 j).bind fun _ =>
  (hget hp3 data).bind fun v1 =>
  (v1[j.toNat]?).bind fun v2 =>
  (hget hp3 data).bind fun v3 =>
  (idx v3 (W (j - (1 : Int)))).bind fun _ =>
  (hget hp3 data).bind fun v4 =>
  (v4[(W (j - (1 : Int))).toNat]?).bind fun v5 =>
  (f22 (v2.1, (v2.2.1, ())) (v5.1, (v5.2.1, ()))).bind fun r6 =>
  bif (decide (r6 < (0 : Int))) then
   (hget hp3 data).bind fun v7 =>
   (idx v7 (W (j - (1 : Int)))).bind fun _ =>
   (hget hp3 data).bind fun v8 =>
   (v8[(W (j - (1 : Int))).toNat]?).bind fun v9 =>
   (hget hp3 data).bind fun v10 =>
   (idx v10 j).bind fun _ =>
   (hget hp3 data).bind fun v11 =>
   (v11[j.toNat]?).bind fun v12 =>
   (hget hp3 data).bind fun v13 =>
   (idx v13 j).bind fun _ =>
   (hget hp3 data).bind fun v14 =>
   (v14[j.toNat]?).bind fun v15 =>
   let e16 : List Os := (hset hp3 data (v14.set j.toNat (v9.1, (v9.2.1, ()))))
   (hget e16 data).bind fun v17 =>
   (idx v17 (W (j - (1 : Int)))).bind fun _ =>
   (hget e16 data).bind fun v18 =>
   (v18[(W (j - (1 : Int))).toNat]?).bind fun v19 =>
   let e20 : List Os := (hset e16 data (v18.set (W (j - (1 : Int))).toNat (v12.1, (v12.2.1, ()))))
   f78_L1 data a b i (W (j - (1 : Int))) e20
  else
   f78_L0 data a b (W (i + (1 : Int))) hp3
 else
  f78_L0 data a b (W (i + (1 : Int))) hp3 := (LL_eq T B lf 124 1 _).trans (by kernel_rfl)
theorem f79_eq (data : Nat) (a : Int) (b : Int) (hp3 : List Os) : f79 data a b hp3 =
 let e0 : Int := (W ((W (b - a)) - (1 : Int)))
 f79_L0 data a (0 : Int) (W (b - a)) (W (e0.tdiv (2 : Int))) hp3 := (evI_eq1 T B lf 125 ((data, a, b, ()), hp3)).trans (by kernel_rfl)
theorem f79_L0_eq (data : Nat) (first : Int) (lo : Int) (hi : Int) (i : Int) (hp3 : List Os) : f79_L0 data first lo hi i hp3 =
 bif (decide (i ≥ (0 : Int))) then
  (f102 data i hi first hp3).bind fun r0 =>
  f79_L0 data first lo hi (W (i - (1 : Int))) r0.2
 else
  f79_L1 data first lo (W (hi - (1 : Int))) hp3 := (LL_eq T B lf 125 0 _).trans (by kernel_rfl)
theorem f79_L1_eq (data : Nat) (first : Int) (lo : Int) (i : Int) (hp3 : List Os) : f79_L1 data first lo i hp3 =
 bif (decide (i ≥ (0 : Int))) then
  (hget hp3 data).bind fun v0 =>
  (idx v0 (W (first + i))).bind fun _ =>
  (hget hp3 data).bind fun v1 =>
  (v1[(W (first + i)).toNat]?).bind fun v2 =>
  (hget hp3 data).bind fun v3 =>
  (idx v3 first).bind fun _ =>
  (hget hp3 data).bind fun v4 =>
  (v4[first.toNat]?).bind fun v5 =>
  (hget hp3 data).bind fun v6 =>
  (idx v6 first).bind fun _ =>
  (hget hp3 data).bind fun v7 =>
  (v7[first.toNat]?).bind fun v8 =>
  let e9 : List Os := (hset hp3 data (v7.set first.toNat (v2.1, (v2.2.1, ()))))
  (hget e9 data).bind fun v10 =>
  (idx v10 (W (first + i))).bind fun _ =>
  (hget e9 data).bind fun v11 =>
  (v11[(W (first + i)).toNat]?).bind fun v12 =>
  let e13 : List Os := (hset e9 data (v11.set (W (first + i)).toNat (v5.1, (v5.2.1, ()))))
  (f102 data lo i first e13).bind fun r14 =>
  f79_L1 data first lo (W (i - (1 : Int))) r14.2
 else
  some ((), hp3) := (LL_eq T B lf 125 1 _).trans (by kernel_rfl)
theorem f80_eq (data : Nat) (a : Int) (b : Int) (hp3 : List Os) : f80 data a b hp3 =
 bif (decide ((W (b - a)) ≥ (8 : Int))) then
  (f103 (W (b - a))).bind fun r0 =>
  let e1 : Int := (W ((W (b - a)).tdiv (4 : Int)))
  let e2 : Int := (W (a + (W (e1 * (2 : Int)))))
  f80_L0 data a (W (b - a)) r0 (W (e2 - (1 : Int))) (IntKind.wrap .u64 (W (b - a))) hp3
 else
  some ((), hp3) := (evI_eq1 T B lf 126 ((data, a, b, ()), hp3)).trans (by kernel_rfl)
theorem f80_L0_eq (data : Nat) (a : Int) (length : Int) (modulus : Int) (idx0 : Int) (random : Int) (hp3 : List Os) : f80_L0 data a length modulus idx0 random hp3 =
 let e0 : Int := (W ((W (length.tdiv (4 : Int))) * (2 : Int)))
 let e1 : Int := (W ((W (a + e0)) + (1 : Int)))
 bif (decide (idx0 ≤ e1)) then none  else
 some ((), hp3) := (LL_eq T B lf 126 0 _).trans (by kernel_rfl)
theorem f81_eq (data : Nat) (a : Int) (b : Int) (hp3 : List Os) : f81 data a b hp3 =
 let e0 : Int := (W ((W (b - a)).tdiv (4 : Int)))
 let e1 : Int := (W (a + (W (e0 * (1 : Int)))))
 let e2 : Int := (W ((W (b - a)).tdiv (4 : Int)))
 let e3 : Int := (W (a + (W (e2 * (2 : Int)))))
 let e4 : Int := (W ((W (b - a)).tdiv (4 : Int)))
 let e5 : Int := (W (a + (W (e4 * (3 : Int)))))
 bif (decide ((W (b - a)) ≥ (8 : Int))) then
  bif (decide ((W (b - a)) ≥ (50 : Int))) then
  none
  else none
 else
  some ((e3, (1 : Int)), hp3) := (evI_eq1 T B lf 127 ((data, a, b, ()), hp3)).trans (by kernel_rfl)
theorem f82_eq (data : Nat) (a : Int) (b : Int) (hp3 : List Os) : f82 data a b hp3 =
 f82_L0 data a (W (b - (1 : Int))) hp3 := (evI_eq1 T B lf 128 ((data, a, b, ()), hp3)).trans (by kernel_rfl)
theorem f82_L0_eq (data : Nat) (i : Int) (j : Int) (hp3 : List Os) : f82_L0 data i j hp3 =
 bif (decide (i < j)) then
  (hget hp3 data).bind fun v0 =>
  (idx v0 j).bind fun _ =>
  (hget hp3 data).bind fun v1 =>
  (v1[j.toNat]?).bind fun v2 =>
  (hget hp3 data).bind fun v3 =>
  (idx v3 i).bind fun _ =>
  (hget hp3 data).bind fun v4 =>
  (v4[i.toNat]?).bind fun v5 =>
  (hget hp3 data).bind fun v6 =>
  (idx v6 i).bind fun _ =>
  (hget hp3 data).bind fun v7 =>
  (v7[i.toNat]?).bind fun v8 =>
  let e9 : List Os := (hset hp3 data (v7.set i.toNat (v2.1, (v2.2.1, ()))))
  (hget e9 data).bind fun v10 =>
  (idx v10 j).bind fun _ =>
  (hget e9 data).bind fun v11 =>
  (v11[j.toNat]?).bind fun v12 =>
  let e13 : List Os := (hset e9 data (v11.set j.toNat (v5.1, (v5.2.1, ()))))
  f82_L0 data (W (i + (1 : Int))) (W (j - (1 : Int))) e13
 else
  some ((), hp3) := (LL_eq T B lf 128 0 _).trans (by kernel_rfl)
theorem f83_eq (data : Nat) (a : Int) (b : Int) (hp3 : List Os) : f83 data a b hp3 =
 f83_L0 data a b (W (a + (1 : Int))) (0 : Int) hp3 := (evI_eq1 T B lf 129 ((data, a, b, ()), hp3)).trans (by kernel_rfl)
theorem f83_L0_eq (data : Nat) (a : Int) (b : Int) (i : Int) (j : Int) (hp3 : List Os) : f83_L0 data a b i j hp3 =
 bif (decide (j < (5 : Int))) then
  f83_L1 data a b i j hp3
 else
  some (false, hp3) := (LL_eq T B lf 129 0 _).trans (by kernel_rfl)
theorem f83_L1_eq (data : Nat) (a : Int) (b : Int) (i : Int) (j : Int) (hp3 : List Os) : f83_L1 data a b i j hp3 =
 bif (decide (i < b)) then
  (hget hp3 data).bind fun v0 =>
  (idx v0 i).bind fun _ =>
  (hget hp3 data).bind fun v1 =>
  (v1[i.toNat]?).bind fun v2 =>
  (hget hp3 data).bind fun v3 =>
  (idx v3 (W (i - (1 : Int)))).bind fun _ =>
  (hget hp3 data).bind fun v4 =>
  (v4[(W (i - (1 : Int))).toNat]?).bind fun v5 =>
  (f22 (v2.1, (v2.2.1, ())) (v5.1, (v5.2.1, ()))).bind fun r6 =>
  bif (!(decide (r6 < (0 : Int)))) then
   f83_L1 data a b (W (i + (1 : Int))) j hp3
  else
   bif (i == b) then
    some (true, hp3)
   else
    bif (decide ((W (b - a)) < (50 : Int))) then
     some (false, hp3)
    else
     (hget hp3 data).bind fun v7 =>
     (idx v7 (W (i - (1 : Int)))).bind fun _ =>
     (hget hp3 data).bind fun v8 =>
     (v8[(W (i - (1 : Int))).toNat]?).bind fun v9 =>
     (hget hp3 data).bind fun v10 =>
     (idx v10 i).bind fun _ =>
     (hget hp3 data).bind fun v11 =>
     (v11[i.toNat]?).bind fun v12 =>
     (hget hp3 data).bind fun v13 =>
     (idx v13 i).bind fun _ =>
     (hget hp3 data).bind fun v14 =>
     (v14[i.toNat]?).bind fun v15 =>
     let e16 : List Os := (hset hp3 data (v14.set i.toNat (v9.1, (v9.2.1, ()))))
     (hget e16 data).bind fun v17 =>
     (idx v17 (W (i - (1 : Int)))).bind fun _ =>
     (hget e16 data).bind fun v18 =>
     (v18[(W (i - (1 : Int))).toNat]?).bind fun v19 =>
     let e20 : List Os := (hset e16 data (v18.set (W (i - (1 : Int))).toNat (v12.1, (v12.2.1, ()))))
     bif (decide ((W (i - a)) ≥ (2 : Int))) then
      f83_L2 data a b i j (W (i - (1 : Int))) e20
     else
      bif (decide ((W (b - i)) ≥ (2 : Int))) then
       f83_L3 data a b i j (W (i + (1 : Int))) e20
      else
       f83_L0 data a b i (W (j + (1 : Int))) e20
 else
  bif (i == b) then
   some (true, hp3)
  else
   bif (decide ((W (b - a)) < (50 : Int))) then
    some (false, hp3)
   else
    (hget hp3 data).bind fun v21 =>
    (idx v21 (W (i - (1 : Int)))).bind fun _ =>
    (hget hp3 data).bind fun v22 =>
    (v22[(W (i - (1 : Int))).toNat]?).bind fun v23 =>
    (hget hp3 data).bind fun v24 =>
    (idx v24 i).bind fun _ =>
    (hget hp3 data).bind fun v25 =>
    (v25[i.toNat]?).bind fun v26 =>
    (hget hp3 data).bind fun v27 =>
    (idx v27 i).bind fun _ =>
    (hget hp3 data).bind fun v28 =>
    (v28[i.toNat]?).bind fun v29 =>
    let e30 : List Os := (hset hp3 data (v28.set i.toNat (v23.1, (v23.2.1, ()))))
    (hget e30 data).bind fun v31 =>
    (idx v31 (W (i - (1 : Int)))).bind fun _ =>
    (hget e30 data).bind fun v32 =>
    (v32[(W (i - (1 : Int))).toNat]?).bind fun v33 =>
    let e34 : List Os := (hset e30 data (v32.set (W (i - (1 : Int))).toNat (v26.1, (v26.2.1, ()))))
    bif (decide ((W (i - a)) ≥ (2 : Int))) then
     f83_L2 data a b i j (W (i - (1 : Int))) e34
    else
     bif (decide ((W (b - i)) ≥ (2 : Int))) then
      f83_L3 data a b i j (W (i + (1 : Int))) e34
     else
      f83_L0 data a b i (W (j + (1 : Int))) e34 := (LL_eq T B lf 129 1 _).trans (by kernel_rfl)
theorem f83_L2_eq (data : Nat) (a : Int) (b : Int) (i : Int) (j : Int) (j2 : Int) (hp3 : List Os) : f83_L2 data a b i j j2 hp3 =
 bif (decide (j2 ≥ (1 : Int))) then
  (hget hp3 data).bind fun v0 =>
  (idx v0 j2).bind fun _ =>
  (hget hp3 data).bind fun v1 =>
  (v1[j2.toNat]?).bind fun v2 =>
  (hget hp3 data).bind fun v3 =>
  (idx v3 (W (j2 - (1 : Int)))).bind fun _ =>
  (hget hp3 data).bind fun v4 =>
  (v4[(W (j2 - (1 : Int))).toNat]?).bind fun v5 =>
  (f22 (v2.1, (v2.2.1, ())) (v5.1, (v5.2.1, ()))).bind fun r6 =>
  bif (!(decide (r6 < (0 : Int)))) then
   bif (decide ((W (b - i)) ≥ (2 : Int))) then
    f83_L3 data a b i j (W (i + (1 : Int))) hp3
   else
    f83_L0 data a b i (W (j + (1 : Int))) hp3
  else
   (hget hp3 data).bind fun v7 =>
   (idx v7 (W (j2 - (1 : Int)))).bind fun _ =>
   (hget hp3 data).bind fun v8 =>
   (v8[(W (j2 - (1 : Int))).toNat]?).bind fun v9 =>
   (hget hp3 data).bind fun v10 =>
   (idx v10 j2).bind fun _ =>
   (hget hp3 data).bind fun v11 =>
   (v11[j2.toNat]?).bind fun v12 =>
   (hget hp3 data).bind fun v13 =>
   (idx v13 j2).bind fun _ =>
   (hget hp3 data).bind fun v14 =>
   (v14[j2.toNat]?).bind fun v15 =>
   let e16 : List Os := (hset hp3 data (v14.set j2.toNat (v9.1, (v9.2.1, ()))))
   (hget e16 data).bind fun v17 =>
   (idx v17 (W (j2 - (1 : Int)))).bind fun _ =>
   (hget e16 data).bind fun v18 =>
   (v18[(W (j2 - (1 : Int))).toNat]?).bind fun v19 =>
   let e20 : List Os := (hset e16 data (v18.set (W (j2 - (1 : Int))).toNat (v12.1, (v12.2.1, ()))))
   f83_L2 data a b i j (W (j2 - (1 : Int))) e20
 else
  bif (decide ((W (b - i)) ≥ (2 : Int))) then
   f83_L3 data a b i j (W (i + (1 : Int))) hp3
  else
   f83_L0 data a b i (W (j + (1 : Int))) hp3 := (LL_eq T B lf 129 2 _).trans (by kernel_rfl)
theorem f83_L3_eq (data : Nat) (a : Int) (b : Int) (i : Int) (j : Int) (j2 : Int) (hp3 : List Os) : f83_L3 data a b i j j2 hp3 =
 bif (decide (j2 < b)) then
  (hget hp3 data).bind fun v0 =>
  (idx v0 j2).bind fun _ =>
  (hget hp3 data).bind fun v1 =>
  (v1[j2.toNat]?).bind fun v2 =>
  (hget hp3 data).bind fun v3 =>
  (idx v3 (W (j2 - (1 : Int)))).bind fun _ =>
  (hget hp3 data).bind fun v4 =>
  (v4[(W (j2 - (1 : Int))).toNat]?).bind fun v5 =>
  (f22 (v2.1, (v2.2.1, ())) (v5.1, (v5.2.1, ()))).bind fun r6 =>
  bif (!(decide (r6 < (0 : Int)))) then
   f83_L0 data a b i (W (j + (1 : Int))) hp3
  else
   (hget hp3 data).bind fun v7 =>
   (idx v7 (W (j2 - (1 : Int)))).bind fun _ =>
   (hget hp3 data).bind fun v8 =>
   (v8[(W (j2 - (1 : Int))).toNat]?).bind fun v9 =>
   (hget hp3 data).bind fun v10 =>
   (idx v10 j2).bind fun _ =>
   (hget hp3 data).bind fun v11 =>
   (v11[j2.toNat]?).bind fun v12 =>
   (hget hp3 data).bind fun v13 =>
   (idx v13 j2).bind fun _ =>
   (hget hp3 data).bind fun v14 =>
   (v14[j2.toNat]?).bind fun v15 =>
   let e16 : List Os := (hset hp3 data (v14.set j2.toNat (v9.1, (v9.2.1, ()))))
   (hget e16 data).bind fun v17 =>
   (idx v17 (W (j2 - (1 : Int)))).bind fun _ =>
   (hget e16 data).bind fun v18 =>
   (v18[(W (j2 - (1 : Int))).toNat]?).bind fun v19 =>
   let e20 : List Os := (hset e16 data (v18.set (W (j2 - (1 : Int))).toNat (v12.1, (v12.2.1, ()))))
   f83_L3 data a b i j (W (j2 + (1 : Int))) e20
 else
  f83_L0 data a b i (W (j + (1 : Int))) hp3 := (LL_eq T B lf 129 3 _).trans (by kernel_rfl)
theorem f84_eq (data : Nat) (a : Int) (b : Int) (pivot : Int) (hp3 : List Os) : f84 data a b pivot hp3 =
 (hget hp3 data).bind fun v0 =>
 (idx v0 pivot).bind fun _ =>
 (hget hp3 data).bind fun v1 =>
 (v1[pivot.toNat]?).bind fun v2 =>
 (hget hp3 data).bind fun v3 =>
 (idx v3 a).bind fun _ =>
 (hget hp3 data).bind fun v4 =>
 (v4[a.toNat]?).bind fun v5 =>
 (hget hp3 data).bind fun v6 =>
 (idx v6 a).bind fun _ =>
 (hget hp3 data).bind fun v7 =>
 (v7[a.toNat]?).bind fun v8 =>
 let e9 : List Os := (hset hp3 data (v7.set a.toNat (v2.1, (v2.2.1, ()))))
 (hget e9 data).bind fun v10 =>
 (idx v10 pivot).bind fun _ =>
 (hget e9 data).bind fun v11 =>
 (v11[pivot.toNat]?).bind fun v12 =>
 let e13 : List Os := (hset e9 data (v11.set pivot.toNat (v5.1, (v5.2.1, ()))))
 f84_L0 data a (W (a + (1 : Int))) (W (b - (1 : Int))) e13 := (evI_eq1 T B lf 130 ((data, a, b, pivot, ()), hp3)).trans (by kernel_rfl)
theorem f84_L0_eq (data : Nat) (a : Int) (i : Int) (j : Int) (hp3 : List Os) : f84_L0 data a i j hp3 =
 f84_L1 data a i j hp3 := (LL_eq T B lf 130 0 _).trans (by kernel_rfl)
theorem f84_L1_eq (data : Nat) (a : Int) (i : Int) (j : Int) (hp3 : List Os) : f84_L1 data a i j hp3 =
 bif (decide (i ≤ j)) then
  (hget hp3 data).bind fun v0 =>
  (idx v0 a).bind fun _ =>
  (hget hp3 data).bind fun v1 =>
  (v1[a.toNat]?).bind fun v2 =>
  (hget hp3 data).bind fun v3 =>
  (idx v3 i).bind fun _ =>
  (hget hp3 data).bind fun v4 =>
  (v4[i.toNat]?).bind fun v5 =>
  (f22 (v2.1, (v2.2.1, ())) (v5.1, (v5.2.1, ()))).bind fun r6 =>
  bif (!(decide (r6 < (0 : Int)))) then
   f84_L1 data a (W (i + (1 : Int))) j hp3
  else
   f84_L2 data a i j hp3
 else
  f84_L2 data a i j hp3 := (LL_eq T B lf 130 1 _).trans (by kernel_rfl)
theorem f84_L2_eq (data : Nat) (a : Int) (i : Int) (j : Int) (hp3 : List Os) : f84_L2 data a i j hp3 =
 bif (decide (i ≤ j)) then
  (hget hp3 data).bind fun v0 =>
  (idx v0 a).bind fun _ =>
  (hget hp3 data).bind fun v1 =>
  (v1[a.toNat]?).bind fun v2 =>
  (hget hp3 data).bind fun v3 =>
  (idx v3 j).bind fun _ =>
  (hget hp3 data).bind fun v4 =>
  (v4[j.toNat]?).bind fun v5 =>
  (f22 (v2.1, (v2.2.1, ())) (v5.1, (v5.2.1, ()))).bind fun r6 =>
  bif (decide (r6 < (0 : Int))) then
   f84_L2 data a i (W (j - (1 : Int))) hp3
  else
   bif (decide (i > j)) then
    some (i, hp3)
   else
    (hget hp3 data).bind fun v7 =>
    (idx v7 j).bind fun _ =>
    (hget hp3 data).bind fun v8 =>
    (v8[j.toNat]?).bind fun v9 =>
    (hget hp3 data).bind fun v10 =>
    (idx v10 i).bind fun _ =>
    (hget hp3 data).bind fun v11 =>
    (v11[i.toNat]?).bind fun v12 =>
    (hget hp3 data).bind fun v13 =>
    (idx v13 i).bind fun _ =>
    (hget hp3 data).bind fun v14 =>
    (v14[i.toNat]?).bind fun v15 =>
    let e16 : List Os := (hset hp3 data (v14.set i.toNat (v9.1, (v9.2.1, ()))))
    (hget e16 data).bind fun v17 =>
    (idx v17 j).bind fun _ =>
    (hget e16 data).bind fun v18 =>
    (v18[j.toNat]?).bind fun v19 =>
    let e20 : List Os := (hset e16 data (v18.set j.toNat (v12.1, (v12.2.1, ()))))
    f84_L0 data a (W (i + (1 : Int))) (W (j - (1 : Int))) e20
 else
  bif (decide (i > j)) then
   some (i, hp3)
  else
   (hget hp3 data).bind fun v21 =>
   (idx v21 j).bind fun _ =>
   (hget hp3 data).bind fun v22 =>
   (v22[j.toNat]?).bind fun v23 =>
   (hget hp3 data).bind fun v24 =>
   (idx v24 i).bind fun _ =>
   (hget hp3 data).bind fun v25 =>
   (v25[i.toNat]?).bind fun v26 =>
   (hget hp3 data).bind fun v27 =>
   (idx v27 i).bind fun _ =>
   (hget hp3 data).bind fun v28 =>
   (v28[i.toNat]?).bind fun v29 =>
   let e30 : List Os := (hset hp3 data (v28.set i.toNat (v23.1, (v23.2.1, ()))))
   (hget e30 data).bind fun v31 =>
   (idx v31 j).bind fun _ =>
   (hget e30 data).bind fun v32 =>
   (v32[j.toNat]?).bind fun v33 =>
   let e34 : List Os := (hset e30 data (v32.set j.toNat (v26.1, (v26.2.1, ()))))
   f84_L0 data a (W (i + (1 : Int))) (W (j - (1 : Int))) e34 := (LL_eq T B lf 130 2 _).trans (by kernel_rfl)
theorem f85_eq (data : Nat) (a : Int) (b : Int) (pivot : Int) (hp3 : List Os) : f85 data a b pivot hp3 =
 (hget hp3 data).bind fun v0 =>
 (idx v0 pivot).bind fun _ =>
 (hget hp3 data).bind fun v1 =>
 (v1[pivot.toNat]?).bind fun v2 =>
 (hget hp3 data).bind fun v3 =>
 (idx v3 a).bind fun _ =>
 (hget hp3 data).bind fun v4 =>
 (v4[a.toNat]?).bind fun v5 =>
 (hget hp3 data).bind fun v6 =>
 (idx v6 a).bind fun _ =>
 (hget hp3 data).bind fun v7 =>
 (v7[a.toNat]?).bind fun v8 =>
 let e9 : List Os := (hset hp3 data (v7.set a.toNat (v2.1, (v2.2.1, ()))))
 (hget e9 data).bind fun v10 =>
 (idx v10 pivot).bind fun _ =>
 (hget e9 data).bind fun v11 =>
 (v11[pivot.toNat]?).bind fun v12 =>
 let e13 : List Os := (hset e9 data (v11.set pivot.toNat (v5.1, (v5.2.1, ()))))
 f85_L0 data a (W (a + (1 : Int))) (W (b - (1 : Int))) e13 := (evI_eq1 T B lf 131 ((data, a, b, pivot, ()), hp3)).trans (by kernel_rfl)
theorem f85_L0_eq (data : Nat) (a : Int) (i : Int) (j : Int) (hp3 : List Os) : f85_L0 data a i j hp3 =
 bif (decide (i ≤ j)) then
  (hget hp3 data).bind fun v0 =>
  (idx v0 i).bind fun _ =>
  (hget hp3 data).bind fun v1 =>
  (v1[i.toNat]?).bind fun v2 =>
  (hget hp3 data).bind fun v3 =>
  (idx v3 a).bind fun _ =>
  (hget hp3 data).bind fun v4 =>
  (v4[a.toNat]?).bind fun v5 =>
  (f22 (v2.1, (v2.2.1, ())) (v5.1, (v5.2.1, ()))).bind fun r6 =>
  bif (decide (r6 < (0 : Int))) then
   f85_L0 data a (W (i + (1 : Int))) j hp3
  else
   f85_L1 data a i j hp3
 else
  f85_L1 data a i j hp3 := (LL_eq T B lf 131 0 _).trans (by kernel_rfl)
theorem f85_L1_eq (data : Nat) (a : Int) (i : Int) (j : Int) (hp3 : List Os) : f85_L1 data a i j hp3 =
 bif (decide (i ≤ j)) then
  (hget hp3 data).bind fun v0 =>
  (idx v0 j).bind fun _ =>
  (hget hp3 data).bind fun v1 =>
  (v1[j.toNat]?).bind fun v2 =>
  (hget hp3 data).bind fun v3 =>
  (idx v3 a).bind fun _ =>
  (hget hp3 data).bind fun v4 =>
  (v4[a.toNat]?).bind fun v5 =>
  (f22 (v2.1, (v2.2.1, ())) (v5.1, (v5.2.1, ()))).bind fun r6 =>
  bif (!(decide (r6 < (0 : Int)))) then
   f85_L1 data a i (W (j - (1 : Int))) hp3
  else
   bif (decide (i > j)) then
    (hget hp3 data).bind fun v7 =>
    (idx v7 a).bind fun _ =>
    (hget hp3 data).bind fun v8 =>
    (v8[a.toNat]?).bind fun v9 =>
    (hget hp3 data).bind fun v10 =>
    (idx v10 j).bind fun _ =>
    (hget hp3 data).bind fun v11 =>
    (v11[j.toNat]?).bind fun v12 =>
    (hget hp3 data).bind fun v13 =>
    (idx v13 j).bind fun _ =>
    (hget hp3 data).bind fun v14 =>
    (v14[j.toNat]?).bind fun v15 =>
    let e16 : List Os := (hset hp3 data (v14.set j.toNat (v9.1, (v9.2.1, ()))))
    (hget e16 data).bind fun v17 =>
    (idx v17 a).bind fun _ =>
    (hget e16 data).bind fun v18 =>
    (v18[a.toNat]?).bind fun v19 =>
    let e20 : List Os := (hset e16 data (v18.set a.toNat (v12.1, (v12.2.1, ()))))
    some ((j, true), e20)
   else
    (hget hp3 data).bind fun v21 =>
    (idx v21 j).bind fun _ =>
    (hget hp3 data).bind fun v22 =>
    (v22[j.toNat]?).bind fun v23 =>
    (hget hp3 data).bind fun v24 =>
    (idx v24 i).bind fun _ =>
    (hget hp3 data).bind fun v25 =>
    (v25[i.toNat]?).bind fun v26 =>
    (hget hp3 data).bind fun v27 =>
    (idx v27 i).bind fun _ =>
    (hget hp3 data).bind fun v28 =>
    (v28[i.toNat]?).bind fun v29 =>
    let e30 : List Os := (hset hp3 data (v28.set i.toNat (v23.1, (v23.2.1, ()))))
    (hget e30 data).bind fun v31 =>
    (idx v31 j).bind fun _ =>
    (hget e30 data).bind fun v32 =>
    (v32[j.toNat]?).bind fun v33 =>
    let e34 : List Os := (hset e30 data (v32.set j.toNat (v26.1, (v26.2.1, ()))))
    f85_L2 data a (W (i + (1 : Int))) (W (j - (1 : Int))) e34
 else
  bif (decide (i > j)) then
   (hget hp3 data).bind fun v35 =>
   (idx v35 a).bind fun _ =>
   (hget hp3 data).bind fun v36 =>
   (v36[a.toNat]?).bind fun v37 =>
   (hget hp3 data).bind fun v38 =>
   (idx v38 j).bind fun _ =>
   (hget hp3 data).bind fun v39 =>
   (v39[j.toNat]?).bind fun v40 =>
   (hget hp3 data).bind fun v41 =>
   (idx v41 j).bind fun _ =>
   (hget hp3 data).bind fun v42 =>
   (v42[j.toNat]?).bind fun v43 =>
   let e44 : List Os := (hset hp3 data (v42.set j.toNat (v37.1, (v37.2.1, ()))))
   (hget e44 data).bind fun v45 =>
   (idx v45 a).bind fun _ =>
   (hget e44 data).bind fun v46 =>
   (v46[a.toNat]?).bind fun v47 =>
   let e48 : List Os := (hset e44 data (v46.set a.toNat (v40.1, (v40.2.1, ()))))
   some ((j, true), e48)
  else
   (hget hp3 data).bind fun v49 =>
   (idx v49 j).bind fun _ =>
   (hget hp3 data).bind fun v50 =>
   (v50[j.toNat]?).bind fun v51 =>
   (hget hp3 data).bind fun v52 =>
   (idx v52 i).bind fun _ =>
   (hget hp3 data).bind fun v53 =>
   (v53[i.toNat]?).bind fun v54 =>
   (hget hp3 data).bind fun v55 =>
   (idx v55 i).bind fun _ =>
   (hget hp3 data).bind fun v56 =>
   (v56[i.toNat]?).bind fun v57 =>
   let e58 : List Os := (hset hp3 data (v56.set i.toNat (v51.1, (v51.2.1, ()))))
   (hget e58 data).bind fun v59 =>
   (idx v59 j).bind fun _ =>
   (hget e58 data).bind fun v60 =>
   (v60[j.toNat]?).bind fun v61 =>
   let e62 : List Os := (hset e58 data (v60.set j.toNat (v54.1, (v54.2.1, ()))))
   f85_L2 data a (W (i + (1 : Int))) (W (j - (1 : Int))) e62 := (LL_eq T B lf 131 1 _).trans (by kernel_rfl)
theorem f85_L2_eq (data : Nat) (a : Int) (i : Int) (j : Int) (hp3 : List Os) : f85_L2 data a i j hp3 =
 f85_L3 data a i j hp3 := (LL_eq T B lf 131 2 _).trans (by kernel_rfl)
theorem f85_L3_eq (data : Nat) (a : Int) (i : Int) (j : Int) (hp3 : List Os) : f85_L3 data a i j hp3 =
 bif (decide (i ≤ j)) then
  (hget hp3 data).bind fun v0 =>
  (idx v0 i).bind fun _ =>
  (hget hp3 data).bind fun v1 =>
  (v1[i.toNat]?).bind fun v2 =>
  (hget hp3 data).bind fun v3 =>
  (idx v3 a).bind fun _ =>
  (hget hp3 data).bind fun v4 =>
  (v4[a.toNat]?).bind fun v5 =>
  (f22 (v2.1, (v2.2.1, ())) (v5.1, (v5.2.1, ()))).bind fun r6 =>
  bif (decide (r6 < (0 : Int))) then
   f85_L3 data a (W (i + (1 : Int))) j hp3
  else
   f85_L4 data a i j hp3
 else
  f85_L4 data a i j hp3 := (LL_eq T B lf 131 3 _).trans (by kernel_rfl)
theorem f85_L4_eq (data : Nat) (a : Int) (i : Int) (j : Int) (hp3 : List Os) : f85_L4 data a i j hp3 =
 bif (decide (i ≤ j)) then
  (hget hp3 data).bind fun v0 =>
  (idx v0 j).bind fun _ =>
  (hget hp3 data).bind fun v1 =>
  (v1[j.toNat]?).bind fun v2 =>
  (hget hp3 data).bind fun v3 =>
  (idx v3 a).bind fun _ =>
  (hget hp3 data).bind fun v4 =>
  (v4[a.toNat]?).bind fun v5 =>
  (f22 (v2.1, (v2.2.1, ())) (v5.1, (v5.2.1, ()))).bind fun r6 =>
  bif (!(decide (r6 < (0 : Int)))) then
   f85_L4 data a i (W (j - (1 : Int))) hp3
  else
   bif (decide (i > j)) then
    (hget hp3 data).bind fun v7 =>
    (idx v7 a).bind fun _ =>
    (hget hp3 data).bind fun v8 =>
    (v8[a.toNat]?).bind fun v9 =>
    (hget hp3 data).bind fun v10 =>
    (idx v10 j).bind fun _ =>
    (hget hp3 data).bind fun v11 =>
    (v11[j.toNat]?).bind fun v12 =>
    (hget hp3 data).bind fun v13 =>
    (idx v13 j).bind fun _ =>
    (hget hp3 data).bind fun v14 =>
    (v14[j.toNat]?).bind fun v15 =>
    let e16 : List Os := (hset hp3 data (v14.set j.toNat (v9.1, (v9.2.1, ()))))
    (hget e16 data).bind fun v17 =>
    (idx v17 a).bind fun _ =>
    (hget e16 data).bind fun v18 =>
    (v18[a.toNat]?).bind fun v19 =>
    let e20 : List Os := (hset e16 data (v18.set a.toNat (v12.1, (v12.2.1, ()))))
    some ((j, false), e20)
   else
    (hget hp3 data).bind fun v21 =>
    (idx v21 j).bind fun _ =>
    (hget hp3 data).bind fun v22 =>
    (v22[j.toNat]?).bind fun v23 =>
    (hget hp3 data).bind fun v24 =>
    (idx v24 i).bind fun _ =>
    (hget hp3 data).bind fun v25 =>
    (v25[i.toNat]?).bind fun v26 =>
    (hget hp3 data).bind fun v27 =>
    (idx v27 i).bind fun _ =>
    (hget hp3 data).bind fun v28 =>
    (v28[i.toNat]?).bind fun v29 =>
    let e30 : List Os := (hset hp3 data (v28.set i.toNat (v23.1, (v23.2.1, ()))))
    (hget e30 data).bind fun v31 =>
    (idx v31 j).bind fun _ =>
    (hget e30 data).bind fun v32 =>
    (v32[j.toNat]?).bind fun v33 =>
    let e34 : List Os := (hset e30 data (v32.set j.toNat (v26.1, (v26.2.1, ()))))
    f85_L2 data a (W (i + (1 : Int))) (W (j - (1 : Int))) e34
 else
  bif (decide (i > j)) then
   (hget hp3 data).bind fun v35 =>
   (idx v35 a).bind fun _ =>
   (hget hp3 data).bind fun v36 =>
   (v36[a.toNat]?).bind fun v37 =>
   (hget hp3 data).bind fun v38 =>
   (idx v38 j).bind fun _ =>
   (hget hp3 data).bind fun v39 =>
   (v39[j.toNat]?).bind fun v40 =>
   (hget hp3 data).bind fun v41 =>
   (idx v41 j).bind fun _ =>
   (hget hp3 data).bind fun v42 =>
   (v42[j.toNat]?).bind fun v43 =>
   let e44 : List Os := (hset hp3 data (v42.set j.toNat (v37.1, (v37.2.1, ()))))
   (hget e44 data).bind fun v45 =>
   (idx v45 a).bind fun _ =>
   (hget e44 data).bind fun v46 =>
   (v46[a.toNat]?).bind fun v47 =>
   let e48 : List Os := (hset e44 data (v46.set a.toNat (v40.1, (v40.2.1, ()))))
   some ((j, false), e48)
  else
   (hget hp3 data).bind fun v49 =>
   (idx v49 j).bind fun _ =>
   (hget hp3 data).bind fun v50 =>
   (v50[j.toNat]?).bind fun v51 =>
   (hget hp3 data).bind fun v52 =>
   (idx v52 i).bind fun _ =>
   (hget hp3 data).bind fun v53 =>
   (v53[i.toNat]?).bind fun v54 =>
   (hget hp3 data).bind fun v55 =>
   (idx v55 i).bind fun _ =>
   (hget hp3 data).bind fun v56 =>
   (v56[i.toNat]?).bind fun v57 =>
   let e58 : List Os := (hset hp3 data (v56.set i.toNat (v51.1, (v51.2.1, ()))))
   (hget e58 data).bind fun v59 =>
   (idx v59 j).bind fun _ =>
   (hget e58 data).bind fun v60 =>
   (v60[j.toNat]?).bind fun v61 =>
   let e62 : List Os := (hset e58 data (v60.set j.toNat (v54.1, (v54.2.1, ()))))
   f85_L2 data a (W (i + (1 : Int))) (W (j - (1 : Int))) e62 := (LL_eq T B lf 131 4 _).trans (by kernel_rfl)
theorem f102_eq (data : Nat) (lo : Int) (hi : Int) (first : Int) (hp3 : List Os) : f102 data lo hi first hp3 =
 f102_L0 data hi first lo hp3 := (evI_eq1 T B lf 156 ((data, lo, hi, first, ()), hp3)).trans (by kernel_rfl)
theorem f102_L0_eq (data : Nat) (hi : Int) (first : Int) (root : Int) (hp3 : List Os) : f102_L0 data hi first root hp3 =
 let e0 : Int := (W ((W ((2 : Int) * root)) + (1 : Int)))
 bif (decide (e0 ≥ hi)) then
  some ((), hp3)
 else
  bif (decide ((W (e0 + (1 : Int))) < hi)) then
   (hget hp3 data).bind fun v1 =>
   (idx v1 (W (first + e0))).bind fun _ =>
   (hget hp3 data).bind fun v2 =>
   (v2[(W (first + e0)).toNat]?).bind fun v3 =>
   let e4 : Int := (W ((W (first + e0)) + (1 : Int)))
   (hget hp3 data).bind fun v5 =>
   (idx v5 e4).bind fun _ =>
   (hget hp3 data).bind fun v6 =>
   (v6[e4.toNat]?).bind fun v7 =>
   (f22 (v3.1, (v3.2.1, ())) (v7.1, (v7.2.1, ()))).bind fun r8 =>
   bif (decide (r8 < (0 : Int))) then
    (hget hp3 data).bind fun v9 =>
    (idx v9 (W (first + root))).bind fun _ =>
    (hget hp3 data).bind fun v10 =>
    (v10[(W (first + root)).toNat]?).bind fun v11 =>
    let e12 : Int := (W (first + (W (e0 + (1 : Int)))))
    (hget hp3 data).bind fun v13 =>
    (idx v13 e12).bind fun _ =>
    (hget hp3 data).bind fun v14 =>
    (v14[e12.toNat]?).bind fun v15 =>
    (f22 (v11.1, (v11.2.1, ())) (v15.1, (v15.2.1, ()))).bind fun r16 =>
    bif (!(decide (r16 < (0 : Int)))) then
     some ((), hp3)
    else
     let e17 : Int := (W (first + (W (e0 + (1 : Int)))))
     let e18 : Int := (W (first + (W (e0 + (1 : Int)))))
     (hget hp3 data).bind fun v19 =>
     (idx v19 e18).bind fun _ =>
     (hget hp3 data).bind fun v20 =>
     (v20[e18.toNat]?).bind fun v21 =>
     (hget hp3 data).bind fun v22 =>
     (idx v22 (W (first + root))).bind fun _ =>
     (hget hp3 data).bind fun v23 =>
     (v23[(W (first + root)).toNat]?).bind fun v24 =>
     (hget hp3 data).bind fun v25 =>
     (idx v25 (W (first + root))).bind fun _ =>
     (hget hp3 data).bind fun v26 =>
     (v26[(W (first + root)).toNat]?).bind fun v27 =>
     let e28 : List Os := (hset hp3 data (v26.set (W (first + root)).toNat (v21.1, (v21.2.1, ()))))
     (hget e28 data).bind fun v29 =>
     (idx v29 e17).bind fun _ =>
     (hget e28 data).bind fun v30 =>
     (v30[e17.toNat]?).bind fun v31 =>
     let e32 : List Os := (hset e28 data (v30.set e17.toNat (v24.1, (v24.2.1, ()))))
     f102_L0 data hi first (W (e0 + (1 : Int))) e32
   else
    (hget hp3 data).bind fun v33 =>
    (idx v33 (W (first + root))).bind fun _ =>
    (hget hp3 data).bind fun v34 =>
    (v34[(W (first + root)).toNat]?).bind fun v35 =>
    (hget hp3 data).bind fun v36 =>
    (idx v36 (W (first + e0))).bind fun _ =>
    (hget hp3 data).bind fun v37 =>
    (v37[(W (first + e0)).toNat]?).bind fun v38 =>
    (f22 (v35.1, (v35.2.1, ())) (v38.1, (v38.2.1, ()))).bind fun r39 =>
    bif (!(decide (r39 < (0 : Int)))) then
     some ((), hp3)
    else
     (hget hp3 data).bind fun v40 =>
     (idx v40 (W (first + e0))).bind fun _ =>
     (hget hp3 data).bind fun v41 =>
     (v41[(W (first + e0)).toNat]?).bind fun v42 =>
     (hget hp3 data).bind fun v43 =>
     (idx v43 (W (first + root))).bind fun _ =>
     (hget hp3 data).bind fun v44 =>
     (v44[(W (first + root)).toNat]?).bind fun v45 =>
     (hget hp3 data).bind fun v46 =>
     (idx v46 (W (first + root))).bind fun _ =>
     (hget hp3 data).bind fun v47 =>
     (v47[(W (first + root)).toNat]?).bind fun v48 =>
     let e49 : List Os := (hset hp3 data (v47.set (W (first + root)).toNat (v42.1, (v42.2.1, ()))))
     (hget e49 data).bind fun v50 =>
     (idx v50 (W (first + e0))).bind fun _ =>
     (hget e49 data).bind fun v51 =>
     (v51[(W (first + e0)).toNat]?).bind fun v52 =>
     let e53 : List Os := (hset e49 data (v51.set (W (first + e0)).toNat (v45.1, (v45.2.1, ()))))
     f102_L0 data hi first e0 e53
  else
   (hget hp3 data).bind fun v54 =>
   (idx v54 (W (first + root))).bind fun _ =>
   (hget hp3 data).bind fun v55 =>
   (v55[(W (first + root)).toNat]?).bind fun v56 =>
   (hget hp3 data).bind fun v57 =>
   (idx v57 (W (first + e0))).bind fun _ =>
   (hget hp3 data).bind fun v58 =>
   (v58[(W (first + e0)).toNat]?).bind fun v59 =>
   (f22 (v56.1, (v56.2.1, ())) (v59.1, (v59.2.1, ()))).bind fun r60 =>
   bif (!(decide (r60 < (0 : Int)))) then
    some ((), hp3)
   else
    (hget hp3 data).bind fun v61 =>
    (idx v61 (W (first + e0))).bind fun _ =>
    (hget hp3 data).bind fun v62 =>
    (v62[(W (first + e0)).toNat]?).bind fun v63 =>
    (hget hp3 data).bind fun v64 =>
    (idx v64 (W (first + root))).bind fun _ =>
    (hget hp3 data).bind fun v65 =>
    (v65[(W (first + root)).toNat]?).bind fun v66 =>
    (hget hp3 data).bind fun v67 =>
    (idx v67 (W (first + root))).bind fun _ =>
    (hget hp3 data).bind fun v68 =>
    (v68[(W (first + root)).toNat]?).bind fun v69 =>
    let e70 : List Os := (hset hp3 data (v68.set (W (first + root)).toNat (v63.1, (v63.2.1, ()))))
    (hget e70 data).bind fun v71 =>
    (idx v71 (W (first + e0))).bind fun _ =>
    (hget e70 data).bind fun v72 =>
    (v72[(W (first + e0)).toNat]?).bind fun v73 =>
    let e74 : List Os := (hset e70 data (v72.set (W (first + e0)).toNat (v66.1, (v66.2.1, ()))))
    f102_L0 data hi first e0 e74 := (LL_eq T B lf 156 0 _).trans (by kernel_rfl)
theorem f103_eq (length : Int) : f103 length =
 (f53 (IntKind.wrap .u64 length)).bind fun r0 =>
 bif (decide (0 ≤ r0)) then
 some (shl .u64 (1 : Int) r0)
 else none := (evI_eq1 T B lf 157 length).trans (by kernel_rfl)
theorem f126_eq (s : Ts) (f : Int) : f126 s f =
 (f128 s f).bind fun r0 =>
 some (decide (r0 ≥ (0 : Int))) := (evI_eq1 T B lf 100070 (s, f)).trans (by kernel_rfl)
theorem f127_eq (s : Ts) (f : (Int × Cs × Unit) × Int × ByteArray × Ts × Unit) : f127 s f =
 (f129 s ((f.1.1, (f.1.2.1, ())), (f.2.1, (f.2.2.1, (f.2.2.2.1, ()))))).bind fun r0 =>
 some (decide (r0 ≥ (0 : Int))) := (evI_eq1 T B lf 100071 (s, f)).trans (by kernel_rfl)
theorem f128_eq (s : Ts) (f : Int) : f128 s f =
 f128_L0 s f (s.length : Int) (0 : Int) := (evI_eq1 T B lf 100109 (s, f)).trans (by kernel_rfl)
theorem f128_L0_eq (s : Ts) (f : Int) (t : Int) (t2 : Int) : f128_L0 s f t t2 =
 bif (decide (t2 < t)) then
  (idx s t2).bind fun v0 =>
  (f33 (v0.1, (v0.2.1, ())) f).bind fun r1 =>
  bif r1 then
   some t2
  else
   f128_L0 s f t (W (t2 + (1 : Int)))
 else
  some (-1 : Int) := (LL_eq T B lf 100109 0 _).trans (by kernel_rfl)
theorem f129_eq (s : Ts) (f : (Int × Cs × Unit) × Int × ByteArray × Ts × Unit) : f129 s f =
 f129_L0 s f.1.1 f.1.2.1 f.2.1 f.2.2.1 f.2.2.2.1 (s.length : Int) (0 : Int) := (evI_eq1 T B lf 100110 (s, f)).trans (by kernel_rfl)
theorem f129_L0_eq (s : Ts) (f : Int) (f2 : List Cl) (f3 : Int) (f4 : ByteArray) (f5 : Ts) (t : Int) (t2 : Int) : f129_L0 s f f2 f3 f4 f5 t t2 =
 bif (decide (t2 < t)) then
  (idx s t2).bind fun v0 =>
  (f34 (v0.1, (v0.2.1, ())) (f, (f2, ())) (f3, (f4, (f5, ())))).bind fun r1 =>
  bif r1 then
   some t2
  else
   f129_L0 s f f2 f3 f4 f5 t (W (t2 + (1 : Int)))
 else
  some (-1 : Int) := (LL_eq T B lf 100110 0 _).trans (by kernel_rfl)
end Go.Proofs.YtofjebmoebhiiaaGreatDoor.Ev

set_option maxRecDepth 100000
set_option exponentiation.threshold 2000
namespace Go.Proofs.YtofjebmoebhiiaaGreatDoor.Ev
open Go.Abs
theorem f38_eq (s : ByteArray) (sep : ByteArray) : f38 s sep =
 (f65 s sep).bind fun r0 =>
 some (r0.1, r0.2.1, r0.2.2) := (evI_eq1 T B lf 75 (s, sep)).trans (by kernel_rfl)
theorem f66_eq (s : ByteArray) (prefix0 : ByteArray) : f66 s prefix0 =
 (f97 s prefix0).bind fun r0 =>
 some (r0.1, r0.2) := (evI_eq1 T B lf 112 (s, prefix0)).trans (by kernel_rfl)
end Go.Proofs.YtofjebmoebhiiaaGreatDoor.Ev

set_option maxRecDepth 100000
set_option exponentiation.threshold 2000
namespace Go.Proofs.YtofjebmoebhiiaaGreatDoor.Ev
open Go.Abs
theorem f65_eq (s : ByteArray) (sep : ByteArray) : f65 s sep =
 (f96 s sep).bind fun r0 =>
 bif (decide (r0 ≥ (0 : Int))) then
  bif (inCut s.size (0 : Int) r0) then
  bif (inCut s.size (W (r0 + (sep.size : Int))) (s.size : Int)) then
  let e1 : ByteArray := (s.extract (W (r0 + (sep.size : Int))).toNat (s.size : Int).toNat)
  some ((s.extract (0 : Int).toNat r0.toNat), e1, true)
  else none
  else none
 else
  some (s, ByteArray.empty, false) := (evI_eq1 T B lf 111 (s, sep)).trans (by kernel_rfl)
theorem f96_eq (s : ByteArray) (substr : ByteArray) : f96 s substr =
 bif ((substr.size : Int) == (0 : Int)) then
  some (0 : Int)
 else
  bif (substr.toList == s.toList) then
   some (0 : Int)
  else
   bif ((substr.size : Int) == (1 : Int)) then
    (sidx substr (0 : Int)).bind fun v0 =>
    (f108 s v0).bind fun r1 =>
    some r1
   else
    bif (decide ((substr.size : Int) ≥ (s.size : Int))) then
    some (-1 : Int)
    else none  := (evI_eq1 T B lf 150 (s, substr)).trans (by kernel_rfl)
theorem f97_eq (s : ByteArray) (prefix0 : ByteArray) : f97 s prefix0 =
 (f109 s prefix0).bind fun r0 =>
 bif (!r0) then
  some (s, false)
 else
  bif (inCut s.size (prefix0.size : Int) (s.size : Int)) then
  let e1 : ByteArray := (s.extract (prefix0.size : Int).toNat (s.size : Int).toNat)
  some (e1, true)
  else none := (evI_eq1 T B lf 151 (s, prefix0)).trans (by kernel_rfl)
theorem f109_eq (s : ByteArray) (prefix0 : ByteArray) : f109 s prefix0 =
 bif (decide ((s.size : Int) ≥ (prefix0.size : Int))) then
  bif (inCut s.size (0 : Int) (prefix0.size : Int)) then
  let e0 : ByteArray := (s.extract (0 : Int).toNat (prefix0.size : Int).toNat)
  some (e0.toList == prefix0.toList)
  else none
 else
  some false := (evI_eq1 T B lf 169 (s, prefix0)).trans (by kernel_rfl)
end Go.Proofs.YtofjebmoebhiiaaGreatDoor.Ev

set_option maxRecDepth 100000
set_option exponentiation.threshold 2000
namespace Go.Proofs.YtofjebmoebhiiaaGreatDoor.Ev
open Go.Abs
theorem toruslaw22_ClearExamples_eq : toruslaw22_ClearExamples =
 f0.bind fun r0 =>
 bif (!r0) then
  some false
 else
  (f7 ((5 : Int), (([] : List Cl), ()))).bind fun r1 =>
  (f8 ((5 : Int), (([] : List Cl), ()))).bind fun r2 =>
  (f1 ((5 : Int), (([] : List Cl), ()))).bind fun r3 =>
  f9.bind fun r4 =>
  (f4 ((9 : Int), (r4.2.1, ()))).bind fun r5 =>
  (f7 ((9 : Int), (r4.2.1, ()))).bind fun r6 =>
  (f8 ((9 : Int), (r4.2.1, ()))).bind fun r7 =>
  (f1 ((9 : Int), (r4.2.1, ()))).bind fun r8 =>
  bif (r1.2.2 == (0 : Int)) then
   (f5 r1.1 (r1.2.1.1, (r1.2.1.2.1, ()))).bind fun r9 =>
   bif r9 then
    bif (r2.2.2 == (0 : Int)) then
     (f5 r2.1 (r2.2.1.1, (r2.2.1.2.1, ()))).bind fun r10 =>
     bif r10 then
      bif (r3.2 == (0 : Int)) then
       bif (r3.1.1 == (5 : Int)) then
        bif ((r3.1.2.1.length : Int) == (0 : Int)) then
         bif (r5.2.2 == (8 : Int)) then
          bif (r6.2.2 == (8 : Int)) then
           bif (r7.2.2 == (8 : Int)) then
            some (r8.2 == (8 : Int))
           else
            some false
          else
           some false
         else
          some false
        else
         some false
       else
        some false
      else
       some false
     else
      some false
    else
     some false
   else
    some false
  else
   some false := (evI_eq1 T B lf 7 ()).trans (by kernel_rfl)
theorem f0_eq : f0 =
 let e0 : Ts := ([((0 : Int), ((-1 : Int), ())), ((1 : Int), ((3 : Int), ())), ((2 : Int), ((4 : Int), ())), ((5 : Int), ((6 : Int), ()))] : Ts)
 f9.bind fun r1 =>
 (f4 (r1.1, (r1.2.1, ()))).bind fun r2 =>
 f9.bind fun r3 =>
 (f7 (r3.1, (r3.2.1, ()))).bind fun r4 =>
 f9.bind fun r5 =>
 (f8 (r5.1, (r5.2.1, ()))).bind fun r6 =>
 f9.bind fun r7 =>
 (f1 (r7.1, (r7.2.1, ()))).bind fun r8 =>
 bif (r2.2.2 == (0 : Int)) then
  bif (r4.2.2 == (0 : Int)) then
   bif (r6.2.2 == (0 : Int)) then
    bif (r8.2 == (0 : Int)) then
     (f6 r2.1 e0).bind fun r9 =>
     bif r9 then
      (f6 r4.1 e0).bind fun r10 =>
      bif r10 then
       (f6 r6.1 e0).bind fun r11 =>
       bif r11 then
        bif (denEq yT (r2.2.1.1, (r2.2.1.2.1, ())) ((2 : Int), ((0 : Int), ()))) then
         bif (denEq yT (r4.2.1.1, (r4.2.1.2.1, ())) ((0 : Int), ((3 : Int), ()))) then
          bif (denEq yT (r6.2.1.1, (r6.2.1.2.1, ())) ((2 : Int), ((3 : Int), ()))) then
           bif ((r8.1.2.1.length : Int) == (7 : Int)) then
            (idx r8.1.2.1 (0 : Int)).bind fun v12 =>
            bif (v12.1 == (2 : Int)) then
             (idx r8.1.2.1 (1 : Int)).bind fun v13 =>
             bif (v13.2.1.toList == (bs [45, 50]).toList) then
              (idx r8.1.2.1 (1 : Int)).bind fun v14 =>
              (f11 ([(0 : Int), (2 : Int)] : List Int)).bind fun r15 =>
              (f10 v14.2.2.1 r15).bind fun r16 =>
              bif r16 then
               (idx r8.1.2.1 (4 : Int)).bind fun v17 =>
               bif (v17.1 == (4 : Int)) then
                (idx r8.1.2.1 (4 : Int)).bind fun v18 =>
                bif (v18.2.1.toList == (bs [45, 49, 47, 50]).toList) then
                 (idx r8.1.2.1 (4 : Int)).bind fun v19 =>
                 let e20 : List Int := ([(1 : Int), (1 : Int), (2 : Int), (1 : Int)] : List Int)
                 (f11 e20).bind fun r21 =>
                 (f10 v19.2.2.1 r21).bind fun r22 =>
                 some r22
                else
                 some false
               else
                some false
              else
               some false
             else
              some false
            else
             some false
           else
            some false
          else
           some false
         else
          some false
        else
         some false
       else
        some false
      else
       some false
     else
      some false
    else
     some false
   else
    some false
  else
   some false
 else
  some false := (evI_eq1 T B lf 13 ()).trans (by kernel_rfl)
theorem f5_eq (l : Ts) (w : Int × Int × Unit) : f5 l w =
 bif ((l.length : Int) == (0 : Int)) then
  some (denEq yT (w.1, (w.2.1, ())) ((0 : Int), ((0 : Int), ())))
 else
  some false := (evI_eq1 T B lf 21 (l, w)).trans (by kernel_rfl)
theorem f9_eq : f9 =
 let e0 : List ((List Int) × ByteArray × Unit) := ([(([(0 : Int)] : List Int), ((bs [48]), ())), (([(1 : Int)] : List Int), ((bs [48]), ())), (([(2 : Int)] : List Int), ((bs [49, 47, 50]), ())), (([(0 : Int), (1 : Int)] : List Int), ((bs [49]), ())), (([(1 : Int), (2 : Int)] : List Int), ((bs [49]), ())), (([(0 : Int), (2 : Int)] : List Int), ((bs [50]), ())), (([(0 : Int), (1 : Int), (2 : Int)] : List Int), ((bs [51]), ()))] : List ((List Int) × ByteArray × Unit))
 (f12 e0 (3 : Int)).bind fun r1 =>
 some (r1.1.1, (r1.1.2.1, ())) := (evI_eq1 T B lf 28 ()).trans (by kernel_rfl)
theorem f11_eq (l : List Int) : f11 l =
 f11_L0 l (0 : Int) ([] : Ts) := (evI_eq1 T B lf 31 l).trans (by kernel_rfl)
theorem f11_L0_eq (l : List Int) (i : Int) (out : Ts) : f11_L0 l i out =
 bif (decide ((W (i + (1 : Int))) < (l.length : Int))) then
  (idx l i).bind fun v0 =>
  (idx l (W (i + (1 : Int)))).bind fun v1 =>
  bif (okApp 16 2 out.length 1) then
  let e2 : Ts := (out ++ ([(v0, (v1, ()))] : Ts))
  f11_L0 l (W (i + (2 : Int))) e2
  else none
 else
  some out := (LL_eq T B lf 31 0 _).trans (by kernel_rfl)
end Go.Proofs.YtofjebmoebhiiaaGreatDoor.Ev

set_option maxRecDepth 100000
set_option exponentiation.threshold 2000
namespace Go.Proofs.YtofjebmoebhiiaaGreatDoor.Ev
open Go.Abs
theorem f29_eq (a : ByteArray) : f29 a =
 (f61 a).bind fun r0 =>
 (f62 (!r0.1) r0.2).bind fun r1 =>
 some r1 := (evI_eq1 T B lf 66 a).trans (by kernel_rfl)
theorem f59_eq (a : ByteArray) (b : ByteArray) : f59 a b =
 (f61 a).bind fun r0 =>
 (f61 b).bind fun r1 =>
 bif (!(r0.1 == r1.1)) then
  bif r0.1 then
   some (-1 : Int)
  else
   some (1 : Int)
 else
  bif r0.1 then
   (f92 r1.2 r0.2).bind fun r2 =>
   some r2
  else
   (f92 r0.2 r1.2).bind fun r3 =>
   some r3 := (evI_eq1 T B lf 104 (a, b)).trans (by kernel_rfl)
theorem f60_eq (a : ByteArray) (b : ByteArray) : f60 a b =
 (f93 a).bind fun r0 =>
 (f93 b).bind fun r1 =>
 bif r0.2 then
  bif r1.2 then
   (f87 (W (r0.1 * r1.1))).bind fun r2 =>
   some r2
  else
   (f61 a).bind fun r3 =>
   (f61 b).bind fun r4 =>
   let e5 : Int := (W ((r3.2.length : Int) + (r4.2.length : Int)))
   bif (okMake 8 (W (e5 + (1 : Int))) (W (e5 + (1 : Int)))) then
   let e6 : List Int := (List.replicate (W (e5 + (1 : Int))).toNat (0 : Int))
   f60_L0 r3.1 r3.2 r4.1 r4.2 (0 : Int) e6
   else none
 else
  (f61 a).bind fun r7 =>
  (f61 b).bind fun r8 =>
  let e9 : Int := (W ((r7.2.length : Int) + (r8.2.length : Int)))
  bif (okMake 8 (W (e9 + (1 : Int))) (W (e9 + (1 : Int)))) then
  let e10 : List Int := (List.replicate (W (e9 + (1 : Int))).toNat (0 : Int))
  f60_L0 r7.1 r7.2 r8.1 r8.2 (0 : Int) e10
  else none := (evI_eq1 T B lf 105 (a, b)).trans (by kernel_rfl)
theorem f60_L0_eq (p : Bool) (x : List Int) (q : Bool) (y : List Int) (i : Int) (out : List Int) : f60_L0 p x q y i out =
 bif (decide (i < (x.length : Int))) then
  f60_L1 p x q y i (0 : Int) out
 else
  f60_L2 p q (0 : Int) out := (LL_eq T B lf 105 0 _).trans (by kernel_rfl)
theorem f60_L1_eq (p : Bool) (x : List Int) (q : Bool) (y : List Int) (i : Int) (k : Int) (out : List Int) : f60_L1 p x q y i k out =
 bif (decide (k < (y.length : Int))) then
  (idx out (W (i + k))).bind fun _ =>
  (out[(W (i + k)).toNat]?).bind fun v0 =>
  (idx x i).bind fun v1 =>
  (idx y k).bind fun v2 =>
  let e3 : Int := (W (v0 + (W (v1 * v2))))
  (idx out (W (i + k))).bind fun _ =>
  (out[(W (i + k)).toNat]?).bind fun v4 =>
  f60_L1 p x q y i (W (k + (1 : Int))) (out.set (W (i + k)).toNat e3)
 else
  f60_L0 p x q y (W (i + (1 : Int))) out := (LL_eq T B lf 105 1 _).trans (by kernel_rfl)
theorem f60_L2_eq (p : Bool) (q : Bool) (i : Int) (out : List Int) : f60_L2 p q i out =
 bif (decide ((W (i + (1 : Int))) < (out.length : Int))) then
  (idx out (W (i + (1 : Int)))).bind fun _ =>
  (out[(W (i + (1 : Int))).toNat]?).bind fun v0 =>
  (idx out i).bind fun _ =>
  (out[i.toNat]?).bind fun v1 =>
  let e2 : Int := (W (v0 + (W (v1.tdiv (10 : Int)))))
  (idx out (W (i + (1 : Int)))).bind fun _ =>
  (out[(W (i + (1 : Int))).toNat]?).bind fun v3 =>
  let e4 : List Int := (out.set (W (i + (1 : Int))).toNat e2)
  (idx e4 i).bind fun _ =>
  (e4[i.toNat]?).bind fun v5 =>
  (idx e4 i).bind fun _ =>
  (e4[i.toNat]?).bind fun v6 =>
  f60_L2 p q (W (i + (1 : Int))) (e4.set i.toNat (v5.tmod (10 : Int)))
 else
  (f62 (!(p == q)) out).bind fun r7 =>
  some r7 := (LL_eq T B lf 105 2 _).trans (by kernel_rfl)
theorem f61_eq (a : ByteArray) : f61 a =
 bif (decide ((a.size : Int) > (0 : Int))) then
  (sidx a (0 : Int)).bind fun v0 =>
  f61_L0 a (v0 == (45 : Int)) (W ((a.size : Int) - (1 : Int))) ([] : List Int)
 else
  f61_L0 a false (W ((a.size : Int) - (1 : Int))) ([] : List Int) := (evI_eq1 T B lf 106 a).trans (by kernel_rfl)
theorem f61_L0_eq (a : ByteArray) (minus : Bool) (i : Int) (d : List Int) : f61_L0 a minus i d =
 bif (decide (i ≥ (0 : Int))) then
  (sidx a i).bind fun v0 =>
  bif (v0 != (45 : Int)) then
   (sidx a i).bind fun v1 =>
   let e2 : Int := (W ((W v1) - (48 : Int)))
   bif (okApp 8 1 d.length 1) then
   f61_L0 a minus (W (i - (1 : Int))) (d ++ ([e2] : List Int))
   else none
  else
   f61_L0 a minus (W (i - (1 : Int))) d
 else
  (f94 d).bind fun r3 =>
  some (minus, r3) := (LL_eq T B lf 106 0 _).trans (by kernel_rfl)
theorem f62_eq (minus : Bool) (d : List Int) : f62 minus d =
 (f94 d).bind fun r0 =>
 bif ((r0.length : Int) == (0 : Int)) then
  some (bs [48])
 else
  bif minus then
   bif (okApp 1 1 0 1) then
   let e1 : Int := (W ((r0.length : Int) - (1 : Int)))
   f62_L0 r0 e1 (([] : List Int) ++ ([(45 : Int)] : List Int))
   else none
  else
   let e2 : Int := (W ((r0.length : Int) - (1 : Int)))
   f62_L0 r0 e2 ([] : List Int) := (evI_eq1 T B lf 107 (minus, d)).trans (by kernel_rfl)
theorem f62_L0_eq (d : List Int) (i : Int) (out : List Int) : f62_L0 d i out =
 bif (decide (i ≥ (0 : Int))) then
  (idx d i).bind fun v0 =>
  let e1 : Int := (IntKind.wrap .u8 (W ((48 : Int) + v0)))
  bif (okApp 1 1 out.length 1) then
  f62_L0 d (W (i - (1 : Int))) (out ++ ([e1] : List Int))
  else none
 else
  some (strOf out) := (LL_eq T B lf 107 0 _).trans (by kernel_rfl)
theorem f87_eq (n : Int) : f87 n =
 bif (decide (n < (0 : Int))) then
  let e0 : List Int := ([(W (0 - (n.tmod (10 : Int))))] : List Int)
  bif (okApp 8 1 0 1) then
  let e1 : Int := (W (0 - (W (n.tdiv (10 : Int)))))
  f87_L0 e1 (([] : List Int) ++ e0)
  else none
 else
  f87_L1 n ([] : List Int) := (evI_eq1 T B lf 139 n).trans (by kernel_rfl)
theorem f87_L0_eq (q : Int) (d : List Int) : f87_L0 q d =
 bif (decide (q > (0 : Int))) then
  bif (okApp 8 1 d.length 1) then
  f87_L0 (W (q.tdiv (10 : Int))) (d ++ ([(q.tmod (10 : Int))] : List Int))
  else none
 else
  (f62 true d).bind fun r0 =>
  some r0 := (LL_eq T B lf 139 0 _).trans (by kernel_rfl)
theorem f87_L1_eq (n : Int) (d : List Int) : f87_L1 n d =
 bif (decide (n > (0 : Int))) then
  bif (okApp 8 1 d.length 1) then
  f87_L1 (W (n.tdiv (10 : Int))) (d ++ ([(n.tmod (10 : Int))] : List Int))
  else none
 else
  (f62 false d).bind fun r0 =>
  some r0 := (LL_eq T B lf 139 1 _).trans (by kernel_rfl)
theorem f89_eq (a : ByteArray) : f89 a =
 (f105 a).bind fun r0 =>
 some (decide (r0 > (1000 : Int))) := (evI_eq1 T B lf 143 a).trans (by kernel_rfl)
theorem f90_eq (a : ByteArray) : f90 a =
 bif (decide ((a.size : Int) > (0 : Int))) then
  (sidx a (0 : Int)).bind fun v0 =>
  bif (v0 == (45 : Int)) then
   bif (inCut a.size (1 : Int) (a.size : Int)) then
   let e1 : Int := ((a.extract (1 : Int).toNat (a.size : Int).toNat).size : Int)
   bif (decide (e1 > (0 : Int))) then
    (sidx (a.extract (1 : Int).toNat (a.size : Int).toNat) (0 : Int)).bind fun v2 =>
    bif (v2 == (48 : Int)) then
     some false
    else
     let e3 : Int := ((a.extract (1 : Int).toNat (a.size : Int).toNat).size : Int)
     bif (e3 == (0 : Int)) then
      some false
     else
      (sidx (a.extract (1 : Int).toNat (a.size : Int).toNat) (0 : Int)).bind fun v4 =>
      bif (v4 == (48 : Int)) then
       let e5 : Int := ((a.extract (1 : Int).toNat (a.size : Int).toNat).size : Int)
       bif (decide (e5 > (1 : Int))) then
        some false
       else
        f90_L0 (a.extract (1 : Int).toNat (a.size : Int).toNat) (0 : Int)
      else
       f90_L0 (a.extract (1 : Int).toNat (a.size : Int).toNat) (0 : Int)
   else
    let e6 : Int := ((a.extract (1 : Int).toNat (a.size : Int).toNat).size : Int)
    bif (e6 == (0 : Int)) then
     some false
    else
     (sidx (a.extract (1 : Int).toNat (a.size : Int).toNat) (0 : Int)).bind fun v7 =>
     bif (v7 == (48 : Int)) then
      let e8 : Int := ((a.extract (1 : Int).toNat (a.size : Int).toNat).size : Int)
      bif (decide (e8 > (1 : Int))) then
       some false
      else
       f90_L0 (a.extract (1 : Int).toNat (a.size : Int).toNat) (0 : Int)
     else
      f90_L0 (a.extract (1 : Int).toNat (a.size : Int).toNat) (0 : Int)
   else none
  else
   bif ((a.size : Int) == (0 : Int)) then
    some false
   else
    (sidx a (0 : Int)).bind fun v9 =>
    bif (v9 == (48 : Int)) then
     bif (decide ((a.size : Int) > (1 : Int))) then
      some false
     else
      f90_L0 a (0 : Int)
    else
     f90_L0 a (0 : Int)
 else
  bif ((a.size : Int) == (0 : Int)) then
   some false
  else
   (sidx a (0 : Int)).bind fun v10 =>
   bif (v10 == (48 : Int)) then
    bif (decide ((a.size : Int) > (1 : Int))) then
     some false
    else
     f90_L0 a (0 : Int)
   else
    f90_L0 a (0 : Int) := (evI_eq1 T B lf 144 a).trans (by kernel_rfl)
theorem f90_L0_eq (s : ByteArray) (i : Int) : f90_L0 s i =
 bif (decide (i < (s.size : Int))) then
  (sidx s i).bind fun v0 =>
  bif (decide (v0 < (48 : Int))) then
   some false
  else
   (sidx s i).bind fun v1 =>
   bif (decide (v1 > (57 : Int))) then
    some false
   else
    f90_L0 s (W (i + (1 : Int)))
 else
  some true := (LL_eq T B lf 144 0 _).trans (by kernel_rfl)
theorem f91_eq (a : ByteArray) (b : ByteArray) : f91 a b =
 (f106 a).bind fun r0 =>
 (f106 b).bind fun r1 =>
 f91_L0 r0 r1 := (evI_eq1 T B lf 145 (a, b)).trans (by kernel_rfl)
theorem f91_L0_eq (x : ByteArray) (y : ByteArray) : f91_L0 x y =
 bif (!(y.toList == (bs [48]).toList)) then
  (f104 x y).bind fun r0 =>
  f91_L0 y r0.2
 else
  some x := (LL_eq T B lf 145 0 _).trans (by kernel_rfl)
theorem f92_eq (a : List Int) (b : List Int) : f92 a b =
 bif ((a.length : Int) != (b.length : Int)) then
  bif (decide ((a.length : Int) < (b.length : Int))) then
   some (-1 : Int)
  else
   some (1 : Int)
 else
  let e0 : Int := (W ((a.length : Int) - (1 : Int)))
  f92_L0 a b e0 := (evI_eq1 T B lf 146 (a, b)).trans (by kernel_rfl)
theorem f92_L0_eq (a : List Int) (b : List Int) (i : Int) : f92_L0 a b i =
 bif (decide (i ≥ (0 : Int))) then
  (idx a i).bind fun v0 =>
  (idx b i).bind fun v1 =>
  bif (decide (v0 < v1)) then
   some (-1 : Int)
  else
   (idx a i).bind fun v2 =>
   (idx b i).bind fun v3 =>
   bif (decide (v2 > v3)) then
    some (1 : Int)
   else
    f92_L0 a b (W (i - (1 : Int)))
 else
  some (0 : Int) := (LL_eq T B lf 146 0 _).trans (by kernel_rfl)
theorem f93_eq (a : ByteArray) : f93 a =
 (f105 a).bind fun r0 =>
 bif (decide (r0 > (9 : Int))) then
  some ((0 : Int), false)
 else
  f93_L0 a (0 : Int) (0 : Int) := (evI_eq1 T B lf 147 a).trans (by kernel_rfl)
theorem f93_L0_eq (a : ByteArray) (n : Int) (i : Int) : f93_L0 a n i =
 bif (decide (i < (a.size : Int))) then
  (sidx a i).bind fun v0 =>
  bif (v0 != (45 : Int)) then
   (sidx a i).bind fun v1 =>
   let e2 : Int := (W ((W ((10 : Int) * n)) + (W v1)))
   f93_L0 a (W (e2 - (48 : Int))) (W (i + (1 : Int)))
  else
   f93_L0 a n (W (i + (1 : Int)))
 else
  bif (decide ((a.size : Int) > (0 : Int))) then
   (sidx a (0 : Int)).bind fun v3 =>
   bif (v3 == (45 : Int)) then
    some ((W (0 - n)), true)
   else
    some (n, true)
  else
   some (n, true) := (LL_eq T B lf 147 0 _).trans (by kernel_rfl)
theorem f94_eq (d : List Int) : f94 d =
 f94_L0 d := (evI_eq1 T B lf 148 d).trans (by kernel_rfl)
theorem f94_L0_eq (d : List Int) : f94_L0 d =
 bif (decide ((d.length : Int) > (0 : Int))) then
  let e0 : Int := (W ((d.length : Int) - (1 : Int)))
  (idx d e0).bind fun v1 =>
  bif (v1 == (0 : Int)) then
   let e2 : Int := (W ((d.length : Int) - (1 : Int)))
   bif (inCut d.length (0 : Int) e2) then
   f94_L0 (cut d (0 : Int) e2)
   else none
  else
   some d
 else
  some d := (LL_eq T B lf 148 0 _).trans (by kernel_rfl)
theorem f104_eq (a : ByteArray) (b : ByteArray) : f104 a b =
 (f93 a).bind fun r0 =>
 (f93 b).bind fun r1 =>
 bif r0.2 then
  bif r1.2 then
   bif (!(r1.1 == 0)) then
   bif (!(r1.1 == 0)) then
   bif ((r0.1.tmod r1.1) != (0 : Int)) then
    bif (!((decide ((r0.1.tmod r1.1) < (0 : Int))) == (decide (r1.1 < (0 : Int))))) then
     let e2 : Int := (W ((W (r0.1.tdiv r1.1)) - (1 : Int)))
     (f87 e2).bind fun r3 =>
     (f87 (W ((r0.1.tmod r1.1) + r1.1))).bind fun r4 =>
     some (r3, r4)
    else
     (f87 (W (r0.1.tdiv r1.1))).bind fun r5 =>
     (f87 (r0.1.tmod r1.1)).bind fun r6 =>
     some (r5, r6)
   else
    (f87 (W (r0.1.tdiv r1.1))).bind fun r7 =>
    (f87 (r0.1.tmod r1.1)).bind fun r8 =>
    some (r7, r8)
   else none
   else none
  else
   (f61 a).bind fun r9 =>
   (f61 b).bind fun r10 =>
   let e11 : Int := (W ((r10.2.length : Int) - (1 : Int)))
   let e12 : Int := (bif decide (e11 > (0 : Int)) then e11 else (0 : Int))
   let e13 : Int := (bif decide ((W ((r9.2.length : Int) - e12)) > (0 : Int)) then (W ((r9.2.length : Int) - e12)) else (0 : Int))
   bif (inCut r9.2.length e13 (r9.2.length : Int)) then
   bif (okApp 8 1 0 (cut r9.2 e13 (r9.2.length : Int)).length) then
   let e14 : List Int := (([] : List Int) ++ (cut r9.2 e13 (r9.2.length : Int)))
   (f94 e14).bind fun r15 =>
   f104_L0 b r9.1 r9.2 r10.1 r10.2 r15 (W (e13 - (1 : Int))) ([] : List Int)
   else none
   else none
 else
  (f61 a).bind fun r16 =>
  (f61 b).bind fun r17 =>
  let e18 : Int := (W ((r17.2.length : Int) - (1 : Int)))
  let e19 : Int := (bif decide (e18 > (0 : Int)) then e18 else (0 : Int))
  let e20 : Int := (bif decide ((W ((r16.2.length : Int) - e19)) > (0 : Int)) then (W ((r16.2.length : Int) - e19)) else (0 : Int))
  bif (inCut r16.2.length e20 (r16.2.length : Int)) then
  bif (okApp 8 1 0 (cut r16.2 e20 (r16.2.length : Int)).length) then
  let e21 : List Int := (([] : List Int) ++ (cut r16.2 e20 (r16.2.length : Int)))
  (f94 e21).bind fun r22 =>
  f104_L0 b r16.1 r16.2 r17.1 r17.2 r22 (W (e20 - (1 : Int))) ([] : List Int)
  else none
  else none := (evI_eq1 T B lf 161 (a, b)).trans (by kernel_rfl)
theorem f104_L0_eq (b : ByteArray) (p : Bool) (x : List Int) (s : Bool) (y : List Int) (r : List Int) (i : Int) (q : List Int) : f104_L0 b p x s y r i q =
 bif (decide (i ≥ (0 : Int))) then
  (idx x i).bind fun v0 =>
  bif (okApp 8 1 1 r.length) then
  (f94 (([v0] : List Int) ++ r)).bind fun r1 =>
  f104_L1 b p x s y r1 i (0 : Int) q
  else none
 else
  f104_L2 b p s r (0 : Int) q := (LL_eq T B lf 161 0 _).trans (by kernel_rfl)
theorem f104_L1_eq (b : ByteArray) (p : Bool) (x : List Int) (s : Bool) (y : List Int) (r : List Int) (i : Int) (k : Int) (q : List Int) : f104_L1 b p x s y r i k q =
 (f92 r y).bind fun r0 =>
 bif (decide (r0 ≥ (0 : Int))) then
  (f112 r y).bind fun r1 =>
  f104_L1 b p x s y r1 i (W (k + (1 : Int))) q
 else
  bif (okApp 8 1 q.length 1) then
  f104_L0 b p x s y r (W (i - (1 : Int))) (q ++ ([k] : List Int))
  else none := (LL_eq T B lf 161 1 _).trans (by kernel_rfl)
theorem f104_L2_eq (b : ByteArray) (p : Bool) (s : Bool) (r : List Int) (i : Int) (q : List Int) : f104_L2 b p s r i q =
 let e0 : Int := (W ((q.length : Int).tdiv (2 : Int)))
 bif (decide (i < e0)) then
  let e1 : Int := (W ((q.length : Int) - (1 : Int)))
  let e2 : Int := (W ((q.length : Int) - (1 : Int)))
  (idx q (W (e2 - i))).bind fun _ =>
  (q[(W (e2 - i)).toNat]?).bind fun v3 =>
  (idx q i).bind fun _ =>
  (q[i.toNat]?).bind fun v4 =>
  (idx q i).bind fun _ =>
  (q[i.toNat]?).bind fun v5 =>
  (idx (q.set i.toNat v3) (W (e1 - i))).bind fun _ =>
  ((q.set i.toNat v3)[(W (e1 - i)).toNat]?).bind fun v6 =>
  let e7 : List Int := ((q.set i.toNat v3).set (W (e1 - i)).toNat v4)
  f104_L2 b p s r (W (i + (1 : Int))) e7
 else
  (f62 (!(p == s)) q).bind fun r8 =>
  (f62 p r).bind fun r9 =>
  bif (!(r9.toList == (bs [48]).toList)) then
   bif (!(p == s)) then
    (f113 r8 (bs [49])).bind fun r10 =>
    (f114 r9 b).bind fun r11 =>
    some (r10, r11)
   else
    some (r8, r9)
  else
   some (r8, r9) := (LL_eq T B lf 161 2 _).trans (by kernel_rfl)
theorem f105_eq (a : ByteArray) : f105 a =
 bif (decide ((a.size : Int) > (0 : Int))) then
  (sidx a (0 : Int)).bind fun v0 =>
  bif (v0 == (45 : Int)) then
   some (W ((a.size : Int) - (1 : Int)))
  else
   some (a.size : Int)
 else
  some (a.size : Int) := (evI_eq1 T B lf 162 a).trans (by kernel_rfl)
theorem f106_eq (a : ByteArray) : f106 a =
 (f61 a).bind fun r0 =>
 (f62 false r0.2).bind fun r1 =>
 some r1 := (evI_eq1 T B lf 163 a).trans (by kernel_rfl)
theorem f112_eq (a : List Int) (b : List Int) : f112 a b =
 f112_L0 a b (0 : Int) (0 : Int) ([] : List Int) := (evI_eq1 T B lf 173 (a, b)).trans (by kernel_rfl)
theorem f112_L0_eq (a : List Int) (b : List Int) (borrow : Int) (i : Int) (out : List Int) : f112_L0 a b borrow i out =
 bif (decide (i < (a.length : Int))) then
  (idx a i).bind fun v0 =>
  bif (decide (i < (b.length : Int))) then
   (idx b i).bind fun v1 =>
   let e2 : Int := (W ((W (v0 - borrow)) - v1))
   bif (decide (e2 < (0 : Int))) then
    let e3 : List Int := ([(W (e2 + (10 : Int)))] : List Int)
    bif (okApp 8 1 out.length 1) then
    f112_L0 a b (1 : Int) (W (i + (1 : Int))) (out ++ e3)
    else none
   else
    bif (okApp 8 1 out.length 1) then
    f112_L0 a b (0 : Int) (W (i + (1 : Int))) (out ++ ([e2] : List Int))
    else none
  else
   bif (decide ((W (v0 - borrow)) < (0 : Int))) then
    let e4 : Int := (W ((W (v0 - borrow)) + (10 : Int)))
    bif (okApp 8 1 out.length 1) then
    f112_L0 a b (1 : Int) (W (i + (1 : Int))) (out ++ ([e4] : List Int))
    else none
   else
    bif (okApp 8 1 out.length 1) then
    let e5 : List Int := (out ++ ([(W (v0 - borrow))] : List Int))
    f112_L0 a b (0 : Int) (W (i + (1 : Int))) e5
    else none
 else
  (f94 out).bind fun r6 =>
  some r6 := (LL_eq T B lf 173 0 _).trans (by kernel_rfl)
theorem f113_eq (a : ByteArray) (b : ByteArray) : f113 a b =
 (f29 b).bind fun r0 =>
 (f114 a r0).bind fun r1 =>
 some r1 := (evI_eq1 T B lf 174 (a, b)).trans (by kernel_rfl)
theorem f114_eq (a : ByteArray) (b : ByteArray) : f114 a b =
 (f93 a).bind fun r0 =>
 (f93 b).bind fun r1 =>
 bif r0.2 then
  bif r1.2 then
   (f87 (W (r0.1 + r1.1))).bind fun r2 =>
   some r2
  else
   (f61 a).bind fun r3 =>
   (f61 b).bind fun r4 =>
   bif (r3.1 == r4.1) then
    (f116 r3.2 r4.2).bind fun r5 =>
    (f62 r3.1 r5).bind fun r6 =>
    some r6
   else
    (f92 r3.2 r4.2).bind fun r7 =>
    bif (decide (r7 < (0 : Int))) then
     (f112 r4.2 r3.2).bind fun r8 =>
     (f62 r4.1 r8).bind fun r9 =>
     some r9
    else
     (f112 r3.2 r4.2).bind fun r10 =>
     (f62 r3.1 r10).bind fun r11 =>
     some r11
 else
  (f61 a).bind fun r12 =>
  (f61 b).bind fun r13 =>
  bif (r12.1 == r13.1) then
   (f116 r12.2 r13.2).bind fun r14 =>
   (f62 r12.1 r14).bind fun r15 =>
   some r15
  else
   (f92 r12.2 r13.2).bind fun r16 =>
   bif (decide (r16 < (0 : Int))) then
    (f112 r13.2 r12.2).bind fun r17 =>
    (f62 r13.1 r17).bind fun r18 =>
    some r18
   else
    (f112 r12.2 r13.2).bind fun r19 =>
    (f62 r12.1 r19).bind fun r20 =>
    some r20 := (evI_eq1 T B lf 175 (a, b)).trans (by kernel_rfl)
theorem f116_eq (a : List Int) (b : List Int) : f116 a b =
 f116_L0 a b (0 : Int) (0 : Int) ([] : List Int) := (evI_eq1 T B lf 179 (a, b)).trans (by kernel_rfl)
theorem f116_L0_eq (a : List Int) (b : List Int) (carry : Int) (i : Int) (out : List Int) : f116_L0 a b carry i out =
 bif (decide (i < (a.length : Int))) then
  bif (decide (i < (a.length : Int))) then
   (idx a i).bind fun v0 =>
   bif (decide (i < (b.length : Int))) then
    (idx b i).bind fun v1 =>
    let e2 : Int := (W ((W (carry + v0)) + v1))
    bif (okApp 8 1 out.length 1) then
    f116_L0 a b (W (e2.tdiv (10 : Int))) (W (i + (1 : Int))) (out ++ ([(e2.tmod (10 : Int))] : List Int))
    else none
   else
    let e3 : Int := ((W (carry + v0)).tmod (10 : Int))
    bif (okApp 8 1 out.length 1) then
    let e4 : Int := (W ((W (carry + v0)).tdiv (10 : Int)))
    f116_L0 a b e4 (W (i + (1 : Int))) (out ++ ([e3] : List Int))
    else none
  else
   bif (decide (i < (b.length : Int))) then
    (idx b i).bind fun v5 =>
    let e6 : Int := ((W (carry + v5)).tmod (10 : Int))
    bif (okApp 8 1 out.length 1) then
    let e7 : Int := (W ((W (carry + v5)).tdiv (10 : Int)))
    f116_L0 a b e7 (W (i + (1 : Int))) (out ++ ([e6] : List Int))
    else none
   else
    bif (okApp 8 1 out.length 1) then
    f116_L0 a b (W (carry.tdiv (10 : Int))) (W (i + (1 : Int))) (out ++ ([(carry.tmod (10 : Int))] : List Int))
    else none
 else
  bif (decide (i < (b.length : Int))) then
   bif (decide (i < (a.length : Int))) then
    (idx a i).bind fun v8 =>
    bif (decide (i < (b.length : Int))) then
     (idx b i).bind fun v9 =>
     let e10 : Int := (W ((W (carry + v8)) + v9))
     bif (okApp 8 1 out.length 1) then
     f116_L0 a b (W (e10.tdiv (10 : Int))) (W (i + (1 : Int))) (out ++ ([(e10.tmod (10 : Int))] : List Int))
     else none
    else
     let e11 : Int := ((W (carry + v8)).tmod (10 : Int))
     bif (okApp 8 1 out.length 1) then
     let e12 : Int := (W ((W (carry + v8)).tdiv (10 : Int)))
     f116_L0 a b e12 (W (i + (1 : Int))) (out ++ ([e11] : List Int))
     else none
   else
    bif (decide (i < (b.length : Int))) then
     (idx b i).bind fun v13 =>
     let e14 : Int := ((W (carry + v13)).tmod (10 : Int))
     bif (okApp 8 1 out.length 1) then
     let e15 : Int := (W ((W (carry + v13)).tdiv (10 : Int)))
     f116_L0 a b e15 (W (i + (1 : Int))) (out ++ ([e14] : List Int))
     else none
    else
     bif (okApp 8 1 out.length 1) then
     f116_L0 a b (W (carry.tdiv (10 : Int))) (W (i + (1 : Int))) (out ++ ([(carry.tmod (10 : Int))] : List Int))
     else none
  else
   bif (decide (carry > (0 : Int))) then
    bif (decide (i < (a.length : Int))) then
     (idx a i).bind fun v16 =>
     bif (decide (i < (b.length : Int))) then
      (idx b i).bind fun v17 =>
      let e18 : Int := (W ((W (carry + v16)) + v17))
      bif (okApp 8 1 out.length 1) then
      f116_L0 a b (W (e18.tdiv (10 : Int))) (W (i + (1 : Int))) (out ++ ([(e18.tmod (10 : Int))] : List Int))
      else none
     else
      let e19 : Int := ((W (carry + v16)).tmod (10 : Int))
      bif (okApp 8 1 out.length 1) then
      let e20 : Int := (W ((W (carry + v16)).tdiv (10 : Int)))
      f116_L0 a b e20 (W (i + (1 : Int))) (out ++ ([e19] : List Int))
      else none
    else
     bif (decide (i < (b.length : Int))) then
      (idx b i).bind fun v21 =>
      let e22 : Int := ((W (carry + v21)).tmod (10 : Int))
      bif (okApp 8 1 out.length 1) then
      let e23 : Int := (W ((W (carry + v21)).tdiv (10 : Int)))
      f116_L0 a b e23 (W (i + (1 : Int))) (out ++ ([e22] : List Int))
      else none
     else
      bif (okApp 8 1 out.length 1) then
      f116_L0 a b (W (carry.tdiv (10 : Int))) (W (i + (1 : Int))) (out ++ ([(carry.tmod (10 : Int))] : List Int))
      else none
   else
    some out := (LL_eq T B lf 179 0 _).trans (by kernel_rfl)
end Go.Proofs.YtofjebmoebhiiaaGreatDoor.Ev

set_option maxRecDepth 100000
set_option exponentiation.threshold 2000
namespace Go.Proofs.YtofjebmoebhiiaaGreatDoor.Ev
open Go.Abs
theorem f26_eq (a : ByteArray) : f26 a =
 (f57 a).bind fun r0 =>
 bif (!r0) then
  (f58 a).bind fun r1 =>
  some r1
 else
  some false := (evI_eq1 T B lf 61 a).trans (by kernel_rfl)
theorem f27_eq (a : ByteArray) (b : ByteArray) : f27 a b =
 bif (a.toList == (bs [105, 110, 102]).toList) then
  bif (b.toList == (bs [105, 110, 102]).toList) then
   some (0 : Int)
  else
   bif (a.toList == (bs [105, 110, 102]).toList) then
    some (1 : Int)
   else
    bif (b.toList == (bs [105, 110, 102]).toList) then
     some (-1 : Int)
    else
     (f28 a).bind fun r0 =>
     (f28 b).bind fun r1 =>
     bif (r0.2.1.toList == (bs [49]).toList) then
      bif (r1.2.1.toList == (bs [49]).toList) then
       (f59 r0.1 r1.1).bind fun r2 =>
       some r2
      else
       (f60 r0.1 r1.2.1).bind fun r3 =>
       (f60 r1.1 r0.2.1).bind fun r4 =>
       (f59 r3 r4).bind fun r5 =>
       some r5
     else
      (f60 r0.1 r1.2.1).bind fun r6 =>
      (f60 r1.1 r0.2.1).bind fun r7 =>
      (f59 r6 r7).bind fun r8 =>
      some r8
 else
  bif (a.toList == (bs [105, 110, 102]).toList) then
   some (1 : Int)
  else
   bif (b.toList == (bs [105, 110, 102]).toList) then
    some (-1 : Int)
   else
    (f28 a).bind fun r9 =>
    (f28 b).bind fun r10 =>
    bif (r9.2.1.toList == (bs [49]).toList) then
     bif (r10.2.1.toList == (bs [49]).toList) then
      (f59 r9.1 r10.1).bind fun r11 =>
      some r11
     else
      (f60 r9.1 r10.2.1).bind fun r12 =>
      (f60 r10.1 r9.2.1).bind fun r13 =>
      (f59 r12 r13).bind fun r14 =>
      some r14
    else
     (f60 r9.1 r10.2.1).bind fun r15 =>
     (f60 r10.1 r9.2.1).bind fun r16 =>
     (f59 r15 r16).bind fun r17 =>
     some r17 := (evI_eq1 T B lf 64 (a, b)).trans (by kernel_rfl)
theorem f28_eq (a : ByteArray) : f28 a =
 f28_L0 a (0 : Int) := (evI_eq1 T B lf 65 a).trans (by kernel_rfl)
theorem f28_L0_eq (a : ByteArray) (i : Int) : f28_L0 a i =
 bif (decide (i < (a.size : Int))) then
  (sidx a i).bind fun v0 =>
  bif (v0 == (47 : Int)) then
   bif (inCut a.size (0 : Int) i) then
   bif (inCut a.size (W (i + (1 : Int))) (a.size : Int)) then
   let e1 : ByteArray := (a.extract (W (i + (1 : Int))).toNat (a.size : Int).toNat)
   some ((a.extract (0 : Int).toNat i.toNat), e1, true)
   else none
   else none
  else
   f28_L0 a (W (i + (1 : Int)))
 else
  some (a, (bs [49]), false) := (LL_eq T B lf 65 0 _).trans (by kernel_rfl)
theorem f57_eq (a : ByteArray) : f57 a =
 (f28 a).bind fun r0 =>
 (f89 r0.1).bind fun r1 =>
 bif r1 then
  some true
 else
  (f89 r0.2.1).bind fun r2 =>
  some r2 := (evI_eq1 T B lf 102 a).trans (by kernel_rfl)
theorem f58_eq (a : ByteArray) : f58 a =
 (f28 a).bind fun r0 =>
 (f90 r0.1).bind fun r1 =>
 bif (!r1) then
  some false
 else
  bif (!r0.2.2) then
   some true
  else
   (f90 r0.2.1).bind fun r2 =>
   bif r2 then
    bif (!(r0.1.toList == (bs [48]).toList)) then
     (f59 r0.2.1 (bs [50])).bind fun r3 =>
     bif (decide (r3 ≥ (0 : Int))) then
      (f91 r0.1 r0.2.1).bind fun r4 =>
      some (r4.toList == (bs [49]).toList)
     else
      some false
    else
     some false
   else
    some false := (evI_eq1 T B lf 103 a).trans (by kernel_rfl)
end Go.Proofs.YtofjebmoebhiiaaGreatDoor.Ev

set_option maxRecDepth 100000
set_option exponentiation.threshold 2000
namespace Go.Proofs.YtofjebmoebhiiaaGreatDoor.Ev
open Go.Abs
theorem f24_eq (s : List Int) : f24 s =
 f24_L0 s (0 : Int) ([] : List (List Int)) := (evI_eq1 T B lf 58 s).trans (by kernel_rfl)
theorem f24_L0_eq (s : List Int) (i : Int) (out : List (List Int)) : f24_L0 s i out =
 bif (decide ((s.length : Int) > (1 : Int))) then
  bif (decide (i < (s.length : Int))) then
   (f56 s i).bind fun r0 =>
   bif (okApp 24 1 out.length 1) then
   f24_L0 s (W (i + (1 : Int))) (out ++ ([r0] : List (List Int)))
   else none
  else
   some out
 else
  some out := (LL_eq T B lf 58 0 _).trans (by kernel_rfl)
theorem f25_eq (a : List Int) (b : List Int) : f25 a b =
 bif ((a.length : Int) != (b.length : Int)) then
  bif (decide ((a.length : Int) < (b.length : Int))) then
   some (-1 : Int)
  else
   some (1 : Int)
 else
  f25_L0 a b (0 : Int) := (evI_eq1 T B lf 59 (a, b)).trans (by kernel_rfl)
theorem f25_L0_eq (a : List Int) (b : List Int) (i : Int) : f25_L0 a b i =
 bif (decide (i < (a.length : Int))) then
  (idx a i).bind fun v0 =>
  (idx b i).bind fun v1 =>
  bif (decide (v0 < v1)) then
   some (-1 : Int)
  else
   (idx a i).bind fun v2 =>
   (idx b i).bind fun v3 =>
   bif (decide (v2 > v3)) then
    some (1 : Int)
   else
    f25_L0 a b (W (i + (1 : Int)))
 else
  some (0 : Int) := (LL_eq T B lf 59 0 _).trans (by kernel_rfl)
theorem f56_eq (s : List Int) (k : Int) : f56 s k =
 f56_L0 s k (0 : Int) ([] : List Int) := (evI_eq1 T B lf 101 (s, k)).trans (by kernel_rfl)
theorem f56_L0_eq (s : List Int) (k : Int) (i : Int) (out : List Int) : f56_L0 s k i out =
 bif (decide (i < (s.length : Int))) then
  bif (i != k) then
   (idx s i).bind fun v0 =>
   bif (okApp 8 1 out.length 1) then
   f56_L0 s k (W (i + (1 : Int))) (out ++ ([v0] : List Int))
   else none
  else
   f56_L0 s k (W (i + (1 : Int))) out
 else
  some out := (LL_eq T B lf 101 0 _).trans (by kernel_rfl)
theorem f88_eq (s : List Int) : f88 s =
 bif ((s.length : Int) == (0 : Int)) then
  some (1 : Int)
 else
  bif (decide ((s.length : Int) > (5 : Int))) then
   some (3 : Int)
  else
   f88_L0 s (0 : Int) := (evI_eq1 T B lf 140 s).trans (by kernel_rfl)
theorem f88_L0_eq (s : List Int) (i : Int) : f88_L0 s i =
 bif (decide (i < (s.length : Int))) then
  (idx s i).bind fun v0 =>
  bif (decide (v0 < (0 : Int))) then
   some (1 : Int)
  else
   (idx s i).bind fun v1 =>
   bif (decide (v1 ≥ (64 : Int))) then
    some (1 : Int)
   else
    f88_L0 s (W (i + (1 : Int)))
 else
  f88_L1 s (1 : Int) := (LL_eq T B lf 140 0 _).trans (by kernel_rfl)
theorem f88_L1_eq (s : List Int) (i : Int) : f88_L1 s i =
 bif (decide (i < (s.length : Int))) then
  (idx s i).bind fun v0 =>
  (idx s (W (i - (1 : Int)))).bind fun v1 =>
  bif (decide (v0 ≤ v1)) then
   some (6 : Int)
  else
   f88_L1 s (W (i + (1 : Int)))
 else
  some (0 : Int) := (LL_eq T B lf 140 1 _).trans (by kernel_rfl)
end Go.Proofs.YtofjebmoebhiiaaGreatDoor.Ev

set_option maxRecDepth 100000
set_option exponentiation.threshold 2000
namespace Go.Proofs.YtofjebmoebhiiaaGreatDoor.Ev
open Go.Abs
theorem f23_eq (f : List ((List Int) × ByteArray × Unit)) : f23 f =
 bif (decide ((f.length : Int) > (1024 : Int))) then
  some (3 : Int)
 else
  f23_L0 f (0 : Int) := (evI_eq1 T B lf 57 f).trans (by kernel_rfl)
theorem f23_L0_eq (f : List ((List Int) × ByteArray × Unit)) (i : Int) : f23_L0 f i =
 bif (decide (i < (f.length : Int))) then
  (f54 f i).bind fun r0 =>
  bif (r0 != (0 : Int)) then
   some r0
  else
   (idx f i).bind fun v1 =>
   (f24 v1.1).bind fun r2 =>
   f23_L1 f i r2 (0 : Int)
 else
  some (0 : Int) := (LL_eq T B lf 57 0 _).trans (by kernel_rfl)
theorem f23_L1_eq (f : List ((List Int) × ByteArray × Unit)) (i : Int) (facets : List (List Int)) (k : Int) : f23_L1 f i facets k =
 bif (decide (k < (facets.length : Int))) then
  (idx facets k).bind fun v0 =>
  (f55 f i v0).bind fun r1 =>
  bif (decide (r1 < (0 : Int))) then
   some (7 : Int)
  else
   f23_L1 f i facets (W (k + (1 : Int)))
 else
  bif (decide (i > (0 : Int))) then
   (idx f i).bind fun v2 =>
   (idx f (W (i - (1 : Int)))).bind fun v3 =>
   (f27 v2.2.1 v3.2.1).bind fun r4 =>
   bif (decide (r4 < (0 : Int))) then
    some (6 : Int)
   else
    f23_L0 f (W (i + (1 : Int)))
  else
   f23_L0 f (W (i + (1 : Int))) := (LL_eq T B lf 57 1 _).trans (by kernel_rfl)
theorem f54_eq (f : List ((List Int) × ByteArray × Unit)) (i : Int) : f54 f i =
 (idx f i).bind fun v0 =>
 (f88 v0.1).bind fun r1 =>
 bif (r1 != (0 : Int)) then
  some r1
 else
  (idx f i).bind fun v2 =>
  (f26 v2.2.1).bind fun r3 =>
  bif (!r3) then
   some (1 : Int)
  else
   (idx f i).bind fun v4 =>
   (f55 f i v4.1).bind fun r5 =>
   bif (decide (r5 ≥ (0 : Int))) then
    some (5 : Int)
   else
    some (0 : Int) := (evI_eq1 T B lf 99 (f, i)).trans (by kernel_rfl)
theorem f55_eq (f : List ((List Int) × ByteArray × Unit)) (n : Int) (s : List Int) : f55 f n s =
 f55_L0 f n s (0 : Int) := (evI_eq1 T B lf 100 (f, n, s)).trans (by kernel_rfl)
theorem f55_L0_eq (f : List ((List Int) × ByteArray × Unit)) (n : Int) (s : List Int) (i : Int) : f55_L0 f n s i =
 bif (decide (i < n)) then
  (idx f i).bind fun v0 =>
  (f25 v0.1 s).bind fun r1 =>
  bif (r1 == (0 : Int)) then
   some i
  else
   f55_L0 f n s (W (i + (1 : Int)))
 else
  some (-1 : Int) := (LL_eq T B lf 100 0 _).trans (by kernel_rfl)
end Go.Proofs.YtofjebmoebhiiaaGreatDoor.Ev

set_option maxRecDepth 100000
set_option exponentiation.threshold 2000
namespace Go.Proofs.YtofjebmoebhiiaaGreatDoor.Ev
open Go.Abs
theorem f10_eq (a : Ts) (b : Ts) : f10 a b =
 bif ((a.length : Int) != (b.length : Int)) then
  some false
 else
  f10_L0 a b (0 : Int) := (evI_eq1 T B lf 30 (a, b)).trans (by kernel_rfl)
theorem f10_L0_eq (a : Ts) (b : Ts) (i : Int) : f10_L0 a b i =
 bif (decide (i < (a.length : Int))) then
  (idx a i).bind fun v0 =>
  (idx b i).bind fun v1 =>
  bif (!(denEq yT (v0.1, (v0.2.1, ())) (v1.1, (v1.2.1, ())))) then
   some false
  else
   f10_L0 a b (W (i + (1 : Int)))
 else
  some true := (LL_eq T B lf 30 0 _).trans (by kernel_rfl)
theorem f12_eq (f : List ((List Int) × ByteArray × Unit)) (p : Int) : f12 f p =
 (f16 p).bind fun r0 =>
 bif (!r0) then
  (res2 (typed [⟨42, .st yC, 0, true, ([] : List (Option Cs))⟩, ⟨42, .st yR, 0, true, ([] : List (Option (List Cn)))⟩, ⟨44, .st yT, 0, true, ([] : List Os)⟩, ⟨58, .st yT, 0, true, ([] : List Os)⟩, ⟨3, .int .i64, 0, true, ([] : List (Option (List Int)))⟩] (.st (.pair (.int .i64) (.pair (.slice (.st yC)) (.unit)))) (.rv (.agg [⟨.int .i64, (0 : Int)⟩, ⟨.ref 0, (0 : Nat)⟩]))) (some (8 : Int))).bind fun v1 =>
  some v1
 else
  (f23 f).bind fun r2 =>
  bif (r2 != (0 : Int)) then
   (res2 (typed [⟨42, .st yC, 0, true, ([] : List (Option Cs))⟩, ⟨42, .st yR, 0, true, ([] : List (Option (List Cn)))⟩, ⟨44, .st yT, 0, true, ([] : List Os)⟩, ⟨58, .st yT, 0, true, ([] : List Os)⟩, ⟨3, .int .i64, 0, true, ([] : List (Option (List Int)))⟩] (.st (.pair (.int .i64) (.pair (.slice (.st yC)) (.unit)))) (.rv (.agg [⟨.int .i64, (0 : Int)⟩, ⟨.ref 0, (0 : Nat)⟩]))) (some r2)).bind fun v3 =>
   some v3
  else
   f12_L0 f p (0 : Int) (0 : Int) (0 : Nat) p (0 : Nat) := (evI_eq1 T B lf 33 (f, p)).trans (by kernel_rfl)
theorem f12_L0_eq (f : List ((List Int) × ByteArray × Unit)) (p : Int) (j : Int) (t : Int) (t2 : Nat) (out : Int) (out2 : Nat) : f12_L0 f p j t t2 out out2 =
 bif (decide (j < (f.length : Int))) then
  bif (okMake 8 j j) then
  let e0 : List (Option (List Int)) := (([] : List (Option (List Int))) ++ [some (List.replicate j.toNat (0 : Int))])
  let e1 : Nat := (([] : List (Option (List Int))).length + 1 : Nat)
  (idx f j).bind fun v2 =>
  (f24 v2.1).bind fun r3 =>
  f12_L1 f p j e1 r3 (0 : Int) t t2 out out2 e0
  else none
 else
  (res2 (typed [⟨42, .st yC, 0, true, ([] : List (Option Cs))⟩, ⟨42, .st yR, 0, true, ([] : List (Option (List Cn)))⟩, ⟨44, .st yT, 0, true, ([] : List Os)⟩, ⟨58, .st yT, 0, true, ([] : List Os)⟩, ⟨3, .int .i64, 0, true, ([] : List (Option (List Int)))⟩] (.st (.pair (.int .i64) (.pair (.slice (.st yC)) (.unit)))) (.rv (.agg [⟨.int .i64, out⟩, ⟨.ref 0, out2⟩]))) (some (0 : Int))).bind fun v4 =>
  some v4 := (LL_eq T B lf 33 0 _).trans (by kernel_rfl)
theorem f12_L1_eq (f : List ((List Int) × ByteArray × Unit)) (p : Int) (j : Int) (v : Nat) (facets : List (List Int)) (k : Int) (t : Int) (t2 : Nat) (out : Int) (out2 : Nat) (hp4 : List (Option (List Int))) : f12_L1 f p j v facets k t t2 out out2 hp4 =
 bif (decide (k < (facets.length : Int))) then
  f12_L2 f p j v facets k (0 : Int) t t2 out out2 hp4
 else
  (idx f j).bind fun v0 =>
  let e1 : Int := (W ((v0.1.length : Int) - (1 : Int)))
  (idx f j).bind fun v2 =>
  (f125 v hp4).bind fun r3 =>
  let e4 : List Cl := ([(e1, (v2.2.1, (r3, ())))] : List Cl)
  (hget ([] : List (Option Cs)) out2).bind fun v5 =>
  bif (okApp 48 3 v5.length 1) then
  let e6 : List (Option Cs) := ((hkill ([] : List (Option Cs)) out2) ++ [some (v5 ++ e4)])
  let e7 : Nat := ((hkill ([] : List (Option Cs)) out2).length + 1 : Nat)
  f13 f p (W (j + (1 : Int))) t t2 out e7 e6 hp4
  else none := (LL_eq T B lf 33 1 _).trans (by kernel_rfl)
theorem f12_L2_eq (f : List ((List Int) × ByteArray × Unit)) (p : Int) (j : Int) (v : Nat) (facets : List (List Int)) (k : Int) (i : Int) (t : Int) (t2 : Nat) (out : Int) (out2 : Nat) (hp4 : List (Option (List Int))) : f12_L2 f p j v facets k i t t2 out out2 hp4 =
 bif (decide (i < j)) then
  (idx f i).bind fun v0 =>
  (idx facets k).bind fun v1 =>
  (f25 v0.1 v1).bind fun r2 =>
  bif (r2 == (0 : Int)) then
   let e3 : Int := (W ((k.tmod (2 : Int)) * (W (p - (2 : Int)))))
   bif (!(p == 0)) then
   (hget hp4 v).bind fun v4 =>
   (idx v4 i).bind fun _ =>
   (hget hp4 v).bind fun v5 =>
   (v5[i.toNat]?).bind fun v6 =>
   let e7 : List (Option (List Int)) := (hset hp4 v (v5.set i.toNat ((W ((1 : Int) + e3)).tmod p)))
   f12_L2 f p j v facets k (W (i + (1 : Int))) t t2 out out2 e7
   else none
  else
   f12_L2 f p j v facets k (W (i + (1 : Int))) t t2 out out2 hp4
 else
  f12_L1 f p j v facets (W (k + (1 : Int))) t t2 out out2 hp4 := (LL_eq T B lf 33 2 _).trans (by kernel_rfl)
theorem f13_eq (f : List ((List Int) × ByteArray × Unit)) (p : Int) (j : Int) (t : Int) (t2 : Nat) (out : Int) (out2 : Nat) (hp0 : List (Option Cs)) (hp4 : List (Option (List Int))) : f13 f p j t t2 out out2 hp0 hp4 =
 bif (decide (j < (f.length : Int))) then
  bif (okMake 8 j j) then
  let e0 : List (Option (List Int)) := (hp4 ++ [some (List.replicate j.toNat (0 : Int))])
  (idx f j).bind fun v1 =>
  (f24 v1.1).bind fun r2 =>
  f14 f p j (hp4.length + 1 : Nat) r2 (0 : Int) t t2 out out2 hp0 e0
  else none
 else
  (res2 (typed [⟨42, .st yC, 0, true, hp0⟩, ⟨42, .st yR, 0, true, ([] : List (Option (List Cn)))⟩, ⟨44, .st yT, 0, true, ([] : List Os)⟩, ⟨58, .st yT, 0, true, ([] : List Os)⟩, ⟨3, .int .i64, 0, true, hp4⟩] (.st (.pair (.int .i64) (.pair (.slice (.st yC)) (.unit)))) (.rv (.agg [⟨.int .i64, out⟩, ⟨.ref 0, out2⟩]))) (some (0 : Int))).bind fun v3 =>
  some v3 := (LL_eq T B lf 33 0 _).trans (by kernel_rfl)
theorem f14_eq (f : List ((List Int) × ByteArray × Unit)) (p : Int) (j : Int) (v : Nat) (facets : List (List Int)) (k : Int) (t : Int) (t2 : Nat) (out : Int) (out2 : Nat) (hp0 : List (Option Cs)) (hp4 : List (Option (List Int))) : f14 f p j v facets k t t2 out out2 hp0 hp4 =
 bif (decide (k < (facets.length : Int))) then
  f15 f p j v facets k (0 : Int) t t2 out out2 hp0 hp4
 else
  (idx f j).bind fun v0 =>
  let e1 : Int := (W ((v0.1.length : Int) - (1 : Int)))
  (idx f j).bind fun v2 =>
  (f125 v hp4).bind fun r3 =>
  let e4 : List Cl := ([(e1, (v2.2.1, (r3, ())))] : List Cl)
  (hget hp0 out2).bind fun v5 =>
  bif (okApp 48 3 v5.length 1) then
  f13 f p (W (j + (1 : Int))) t t2 out ((hkill hp0 out2).length + 1 : Nat) ((hkill hp0 out2) ++ [some (v5 ++ e4)]) hp4
  else none := (LL_eq T B lf 33 1 _).trans (by kernel_rfl)
theorem f15_eq (f : List ((List Int) × ByteArray × Unit)) (p : Int) (j : Int) (v : Nat) (facets : List (List Int)) (k : Int) (i : Int) (t : Int) (t2 : Nat) (out : Int) (out2 : Nat) (hp0 : List (Option Cs)) (hp4 : List (Option (List Int))) : f15 f p j v facets k i t t2 out out2 hp0 hp4 =
 bif (decide (i < j)) then
  (idx f i).bind fun v0 =>
  (idx facets k).bind fun v1 =>
  (f25 v0.1 v1).bind fun r2 =>
  bif (r2 == (0 : Int)) then
   let e3 : Int := (W ((k.tmod (2 : Int)) * (W (p - (2 : Int)))))
   bif (!(p == 0)) then
   (hget hp4 v).bind fun v4 =>
   (idx v4 i).bind fun _ =>
   (hget hp4 v).bind fun v5 =>
   (v5[i.toNat]?).bind fun v6 =>
   let e7 : List (Option (List Int)) := (hset hp4 v (v5.set i.toNat ((W ((1 : Int) + e3)).tmod p)))
   f15 f p j v facets k (W (i + (1 : Int))) t t2 out out2 hp0 e7
   else none
  else
   f15 f p j v facets k (W (i + (1 : Int))) t t2 out out2 hp0 hp4
 else
  f14 f p j v facets (W (k + (1 : Int))) t t2 out out2 hp0 hp4 := (LL_eq T B lf 33 2 _).trans (by kernel_rfl)
theorem f16_eq (p : Int) : f16 p =
 f16_L0 p (2 : Int) := (evI_eq1 T B lf 36 p).trans (by kernel_rfl)
theorem f16_L0_eq (p : Int) (k : Int) : f16_L0 p k =
 bif (decide (k < p)) then
  bif (decide (p ≤ (251 : Int))) then
   bif (!(k == 0)) then
   bif ((p.tmod k) == (0 : Int)) then
    some false
   else
    f16_L0 p (W (k + (1 : Int)))
   else none
  else
   bif (decide (p ≥ (2 : Int))) then
    some (decide (p ≤ (251 : Int)))
   else
    some false
 else
  bif (decide (p ≥ (2 : Int))) then
   some (decide (p ≤ (251 : Int)))
  else
   some false := (LL_eq T B lf 36 0 _).trans (by kernel_rfl)
theorem f125_eq (v : Nat) (hp4 : List (Option (List Int))) : f125 v hp4 =
 f125_L0 v (0 : Int) ([] : Ts) hp4 := (evI_eq1 T B lf 100040 (v, hp4)).trans (by kernel_rfl)
theorem f125_L0_eq (v : Nat) (i : Int) (out : Ts) (hp4 : List (Option (List Int))) : f125_L0 v i out hp4 =
 (hget hp4 v).bind fun v0 =>
 bif (decide (i < (v0.length : Int))) then
  (hget hp4 v).bind fun v1 =>
  (idx v1 i).bind fun _ =>
  (hget hp4 v).bind fun v2 =>
  (v2[i.toNat]?).bind fun v3 =>
  bif (v3 != (0 : Int)) then
   (hget hp4 v).bind fun v4 =>
   (idx v4 i).bind fun _ =>
   (hget hp4 v).bind fun v5 =>
   (v5[i.toNat]?).bind fun v6 =>
   bif (okApp 16 2 out.length 1) then
   let e7 : Ts := (out ++ ([(i, (v6, ()))] : Ts))
   f125_L0 v (W (i + (1 : Int))) e7 hp4
   else none
  else
   f125_L0 v (W (i + (1 : Int))) out hp4
 else
  some out := (LL_eq T B lf 100040 0 _).trans (by kernel_rfl)
end Go.Proofs.YtofjebmoebhiiaaGreatDoor.Ev

set_option maxRecDepth 100000
set_option exponentiation.threshold 2000
namespace Go.Proofs.YtofjebmoebhiiaaGreatDoor.Ev
open Go.Abs
theorem f6_eq (a : Ts) (b : Ts) : f6 a b =
 bif ((a.length : Int) != (b.length : Int)) then
  some false
 else
  f6_L0 a b (0 : Int) := (evI_eq1 T B lf 23 (a, b)).trans (by kernel_rfl)
theorem f6_L0_eq (a : Ts) (b : Ts) (i : Int) : f6_L0 a b i =
 bif (decide (i < (a.length : Int))) then
  (idx a i).bind fun v0 =>
  (idx b i).bind fun v1 =>
  bif (!(denEq yT (v0.1, (v0.2.1, ())) (v1.1, (v1.2.1, ())))) then
   some false
  else
   f6_L0 a b (W (i + (1 : Int)))
 else
  some true := (LL_eq T B lf 23 0 _).trans (by kernel_rfl)
end Go.Proofs.YtofjebmoebhiiaaGreatDoor.Ev

