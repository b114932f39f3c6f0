/- YtlpkaimkmfgpiaaYe: a part of the proof (YtlpkaimkmfgpiaaEqnum, YtlpkaimkmfgpiaaEqstrings, YtlpkaimkmfgpiaaEqstringslite, YtlpkaimkmfgpiaaEqwhole). No condition. -/
import Derived.Test.YtlpkaimkmfgpiaaYd
-- Written by a program of this claim; Lean checks it.
set_option linter.unusedVariables false
set_option maxRecDepth 100000
namespace Go.Proofs.Ytlpkaimkmfgpiaa.Ev
open Go.Abs
/- torus/num.Of -/
theorem num_Of_eq (n : Int) : num_Of n =
  bif (decide (n < (0 : Int))) then
    num_Of_L0 (IntKind.wrap .u64 (0 - (IntKind.wrap .u64 n))) (decide (n < (0 : Int))) ([] : List Int) false ([] : List Int)
  else
    num_Of_L0 (IntKind.wrap .u64 n) (decide (n < (0 : Int))) ([] : List Int) false ([] : List Int) := (evI_eq1 T (Go.Abs.look fns) 50 n).trans (by kernel_rfl)
theorem num_Of_L0_eq (u : Int) (neg : Bool) (d : List Int) (t : Bool) (t2 : List Int) : num_Of_L0 u neg d t t2 =
  bif (decide (u > (0 : Int))) then
    let e0 : List Int := ([(IntKind.wrap .u32 (u.tmod (1000000000 : Int)))] : List Int)
    bif (okApp 4 1 d.length e0.length) then
    num_Of_L0 (IntKind.wrap .u64 (u.tdiv (1000000000 : Int))) neg (d ++ e0) t t2
    else none
  else
    some (neg, (d, ())) := (LL_eq T (Go.Abs.look fns) 50 0 _).trans (by kernel_rfl)
/- (torus/num.Whole).Abs -/
theorem num_Whole_Abs_eq (a : Bool × (List Int) × Unit) : num_Whole_Abs a =
  some (false, (a.2.1, ())) := (evI_eq1 T (Go.Abs.look fns) 51 a).trans (by kernel_rfl)
/- (torus/num.Whole).Cmp -/
theorem num_Whole_Cmp_eq (a : Bool × (List Int) × Unit) (b : Bool × (List Int) × Unit) : num_Whole_Cmp a b =
  bif (!(a.1 == b.1)) then
    bif a.1 then
      some (-1 : Int)
    else
      some (1 : Int)
  else
    bif a.1 then
      (num_size b.2.1 a.2.1).bind fun r0 =>
      some r0
    else
      (num_size a.2.1 b.2.1).bind fun r1 =>
      some r1 := (evI_eq1 T (Go.Abs.look fns) 52 (a, b)).trans (by kernel_rfl)
/- (torus/num.Whole).Text -/
theorem num_Whole_Text_eq (a : Bool × (List Int) × Unit) : num_Whole_Text a =
  bif ((a.2.1.length : Int) == (0 : Int)) then
    some (bs [48])
  else
    let e0 : Int := (IntKind.wrap .i64 ((9 : Int) * (a.2.1.length : Int)))
    bif (okMake 1 (0 : Int) (IntKind.wrap .i64 (e0 + (1 : Int)))) then
    num_Whole_Text_L0 a.2.1 (a.2.1.length : Int) (0 : Int) ([] : List Int) a.1 a.2.1
    else none := (evI_eq1 T (Go.Abs.look fns) 53 a).trans (by kernel_rfl)
theorem num_Whole_Text_L0_eq (t : List Int) (t2 : Int) (t3 : Int) (out : List Int) (a : Bool) (a2 : List Int) : num_Whole_Text_L0 t t2 t3 out a a2 =
  bif (decide (t3 < t2)) then
    (idx t t3).bind fun v0 =>
    num_Whole_Text_L1 v0 t t2 t3 (0 : Int) out a a2
  else
    num_Whole_Text_L2 out a a2 := (LL_eq T (Go.Abs.look fns) 53 0 _).trans (by kernel_rfl)
theorem num_Whole_Text_L1_eq (x : Int) (t : List Int) (t2 : Int) (t3 : Int) (t4 : Int) (out : List Int) (a : Bool) (a2 : List Int) : num_Whole_Text_L1 x t t2 t3 t4 out a a2 =
  bif (decide (t4 < (9 : Int))) then
    let e0 : Int := (IntKind.wrap .u32 ((48 : Int) + (x.tmod (10 : Int))))
    bif (okApp 1 1 out.length 1) then
    num_Whole_Text_L1 (IntKind.wrap .u32 (x.tdiv (10 : Int))) t t2 t3 (IntKind.wrap .i64 (t4 + (1 : Int))) (out ++ ([(IntKind.wrap .u8 e0)] : List Int)) a a2
    else none
  else
    num_Whole_Text_L0 t t2 (IntKind.wrap .i64 (t3 + (1 : Int))) out a a2 := (LL_eq T (Go.Abs.look fns) 53 1 _).trans (by kernel_rfl)
theorem num_Whole_Text_L2_eq (out : List Int) (a : Bool) (a2 : List Int) : num_Whole_Text_L2 out a a2 =
  let e0 : Int := (IntKind.wrap .i64 ((out.length : Int) - (1 : Int)))
  (idx out e0).bind fun _ =>
  (out[e0.toNat]?).bind fun v1 =>
  bif (v1 == (48 : Int)) then
    let e2 : Int := (IntKind.wrap .i64 ((out.length : Int) - (1 : Int)))
    bif (inCut out.length 0 e2) then
    num_Whole_Text_L2 (out.take e2.toNat) a a2
    else none
  else
    bif a then
      bif (okApp 1 1 out.length 1) then
      let e3 : Int := ((out ++ ([(45 : Int)] : List Int)).length : Int)
      num_Whole_Text_L3 (0 : Int) (IntKind.wrap .i64 (e3 - (1 : Int))) (out ++ ([(45 : Int)] : List Int))
      else none
    else
      let e4 : Int := (IntKind.wrap .i64 ((out.length : Int) - (1 : Int)))
      num_Whole_Text_L3 (0 : Int) e4 out := (LL_eq T (Go.Abs.look fns) 53 2 _).trans (by kernel_rfl)
theorem num_Whole_Text_L3_eq (i : Int) (j : Int) (out : List Int) : num_Whole_Text_L3 i j out =
  bif (decide (i < j)) then
    (idx out j).bind fun _ =>
    (out[j.toNat]?).bind fun v0 =>
    (idx out i).bind fun _ =>
    (out[i.toNat]?).bind fun v1 =>
    (idx out i).bind fun _ =>
    (out[i.toNat]?).bind fun v2 =>
    (idx (out.set i.toNat v0) j).bind fun _ =>
    ((out.set i.toNat v0)[j.toNat]?).bind fun v3 =>
    num_Whole_Text_L3 (IntKind.wrap .i64 (i + (1 : Int))) (IntKind.wrap .i64 (j - (1 : Int))) ((out.set i.toNat v0).set j.toNat v1)
  else
    some (strOf out) := (LL_eq T (Go.Abs.look fns) 53 3 _).trans (by kernel_rfl)
/- (torus/num.Whole).Mul -/
theorem num_Whole_Mul_eq (a : Bool × (List Int) × Unit) (b : Bool × (List Int) × Unit) : num_Whole_Mul a b =
  let e0 : Int := (IntKind.wrap .i64 ((a.2.1.length : Int) + (b.2.1.length : Int)))
  bif (okMake 4 e0 e0) then
  num_Whole_Mul_L0 a.2.1 (a.2.1.length : Int) (0 : Int) (List.replicate e0.toNat (0 : Int)) a.1 a.2.1 b.1 b.2.1 false ([] : List Int)
  else none := (evI_eq1 T (Go.Abs.look fns) 54 (a, b)).trans (by kernel_rfl)
theorem num_Whole_Mul_L0_eq (t : List Int) (t2 : Int) (t3 : Int) (out : List Int) (a : Bool) (a2 : List Int) (b : Bool) (b2 : List Int) (t4 : Bool) (t5 : List Int) : num_Whole_Mul_L0 t t2 t3 out a a2 b b2 t4 t5 =
  bif (decide (t3 < t2)) then
    (idx t t3).bind fun v0 =>
    num_Whole_Mul_L1 t3 v0 (0 : Int) t t2 t3 b2 (b2.length : Int) (0 : Int) out a a2 b b2 t4 t5
  else
    (num_signed (!(a == b)) out).bind fun r1 =>
    some (r1.1, (r1.2.1, ())) := (LL_eq T (Go.Abs.look fns) 54 0 _).trans (by kernel_rfl)
theorem num_Whole_Mul_L1_eq (i : Int) (x : Int) (carry : Int) (t : List Int) (t2 : Int) (t3 : Int) (t4 : List Int) (t5 : Int) (t6 : Int) (out : List Int) (a : Bool) (a2 : List Int) (b : Bool) (b2 : List Int) (t7 : Bool) (t8 : List Int) : num_Whole_Mul_L1 i x carry t t2 t3 t4 t5 t6 out a a2 b b2 t7 t8 =
  bif (decide (t6 < t5)) then
    (idx t4 t6).bind fun v0 =>
    let e1 : Int := (IntKind.wrap .u64 ((IntKind.wrap .u64 x) * (IntKind.wrap .u64 v0)))
    (idx out (IntKind.wrap .i64 (i + t6))).bind fun _ =>
    (out[(IntKind.wrap .i64 (i + t6)).toNat]?).bind fun v2 =>
    let e3 : Int := (IntKind.wrap .u64 (e1 + (IntKind.wrap .u64 v2)))
    let e4 : Int := ((IntKind.wrap .u64 (carry + e3)).tmod (1000000000 : Int))
    (idx out (IntKind.wrap .i64 (i + t6))).bind fun _ =>
    (out[(IntKind.wrap .i64 (i + t6)).toNat]?).bind fun v5 =>
    let e6 : List Int := (out.set (IntKind.wrap .i64 (i + t6)).toNat (IntKind.wrap .u32 e4))
    let e7 : Int := (IntKind.wrap .u64 ((IntKind.wrap .u64 (carry + e3)).tdiv (1000000000 : Int)))
    num_Whole_Mul_L1 i x e7 t t2 t3 t4 t5 (IntKind.wrap .i64 (t6 + (1 : Int))) e6 a a2 b b2 t7 t8
  else
    (idx out (IntKind.wrap .i64 (i + (b2.length : Int)))).bind fun _ =>
    (out[(IntKind.wrap .i64 (i + (b2.length : Int))).toNat]?).bind fun v8 =>
    let e9 : List Int := (out.set (IntKind.wrap .i64 (i + (b2.length : Int))).toNat (IntKind.wrap .u32 carry))
    num_Whole_Mul_L0 t t2 (IntKind.wrap .i64 (t3 + (1 : Int))) e9 a a2 b b2 t7 t8 := (LL_eq T (Go.Abs.look fns) 54 1 _).trans (by kernel_rfl)
/- (torus/num.Whole).Long -/
theorem num_Whole_Long_eq (a : Bool × (List Int) × Unit) : num_Whole_Long a =
  (num_Whole_digits (a.1, (a.2.1, ()))).bind fun r0 =>
  some (decide (r0 > (1000 : Int))) := (evI_eq1 T (Go.Abs.look fns) 55 a).trans (by kernel_rfl)
/- (torus/num.Whole).Add -/
theorem num_Whole_Add_eq (a : Bool × (List Int) × Unit) (b : Bool × (List Int) × Unit) : num_Whole_Add a b =
  bif (a.1 == b.1) then
    (num_plus a.2.1 b.2.1).bind fun r0 =>
    (num_signed a.1 r0).bind fun r1 =>
    some (r1.1, (r1.2.1, ()))
  else
    (num_size a.2.1 b.2.1).bind fun r2 =>
    bif (decide (r2 < (0 : Int))) then
      (num_minus b.2.1 a.2.1).bind fun r3 =>
      (num_signed b.1 r3).bind fun r4 =>
      some (r4.1, (r4.2.1, ()))
    else
      (num_minus a.2.1 b.2.1).bind fun r5 =>
      (num_signed a.1 r5).bind fun r6 =>
      some (r6.1, (r6.2.1, ())) := (evI_eq1 T (Go.Abs.look fns) 58 (a, b)).trans (by kernel_rfl)
/- (torus/num.Whole).Sub -/
theorem num_Whole_Sub_eq (a : Bool × (List Int) × Unit) (b : Bool × (List Int) × Unit) : num_Whole_Sub a b =
  (num_Whole_Neg (b.1, (b.2.1, ()))).bind fun r0 =>
  (num_Whole_Add (a.1, (a.2.1, ())) (r0.1, (r0.2.1, ()))).bind fun r1 =>
  some (r1.1, (r1.2.1, ())) := (evI_eq1 T (Go.Abs.look fns) 63 (a, b)).trans (by kernel_rfl)
/- (torus/num.Whole).Neg -/
theorem num_Whole_Neg_eq (a : Bool × (List Int) × Unit) : num_Whole_Neg a =
  (num_signed (!a.1) a.2.1).bind fun r0 =>
  some (r0.1, (r0.2.1, ())) := (evI_eq1 T (Go.Abs.look fns) 64 a).trans (by kernel_rfl)
/- (torus/num.Whole).Sign -/
theorem num_Whole_Sign_eq (a : Bool × (List Int) × Unit) : num_Whole_Sign a =
  bif ((a.2.1.length : Int) == (0 : Int)) then
    some (0 : Int)
  else
    bif a.1 then
      some (-1 : Int)
    else
      some (1 : Int) := (evI_eq1 T (Go.Abs.look fns) 65 a).trans (by kernel_rfl)
/- (torus/num.Whole).DivMod -/
theorem num_Whole_DivMod_eq (a : Bool × (List Int) × Unit) (b : Bool × (List Int) × Unit) : num_Whole_DivMod a b =
  (num_parts a.2.1 b.2.1).bind fun r0 =>
  (num_signed (!(a.1 == b.1)) r0.1).bind fun r1 =>
  (num_signed a.1 r0.2).bind fun r2 =>
  (num_Whole_Sign (r2.1, (r2.2.1, ()))).bind fun r3 =>
  bif (r3 != (0 : Int)) then
    bif (!(a.1 == b.1)) then
      (num_Of (1 : Int)).bind fun r4 =>
      (num_Whole_Sub (r1.1, (r1.2.1, ())) (r4.1, (r4.2.1, ()))).bind fun r5 =>
      (num_Whole_Add (r2.1, (r2.2.1, ())) (b.1, (b.2.1, ()))).bind fun r6 =>
      some ((r5.1, (r5.2.1, ())), (r6.1, (r6.2.1, ())))
    else
      some ((r1.1, (r1.2.1, ())), (r2.1, (r2.2.1, ())))
  else
    some ((r1.1, (r1.2.1, ())), (r2.1, (r2.2.1, ()))) := (evI_eq1 T (Go.Abs.look fns) 66 (a, b)).trans (by kernel_rfl)
/- (torus/num.Whole).Gcd -/
theorem num_Whole_Gcd_eq (a : Bool × (List Int) × Unit) (b : Bool × (List Int) × Unit) : num_Whole_Gcd a b =
  num_Whole_Gcd_L0 a.2.1 b.2.1 false ([] : List Int) := (evI_eq1 T (Go.Abs.look fns) 67 (a, b)).trans (by kernel_rfl)
theorem num_Whole_Gcd_L0_eq (x : List Int) (y : List Int) (t : Bool) (t2 : List Int) : num_Whole_Gcd_L0 x y t t2 =
  bif (decide ((y.length : Int) > (0 : Int))) then
    bif (decide ((x.length : Int) ≤ (2 : Int))) then
      bif (decide ((y.length : Int) ≤ (2 : Int))) then
        (num_word x).bind fun r0 =>
        (num_word y).bind fun r1 =>
        (num_small r0 r1).bind fun r2 =>
        (num_Of r2).bind fun r3 =>
        some (r3.1, (r3.2.1, ()))
      else
        (num_parts x y).bind fun r4 =>
        (num_trim r4.2).bind fun r5 =>
        num_Whole_Gcd_L0 y r5 t t2
    else
      (num_parts x y).bind fun r6 =>
      (num_trim r6.2).bind fun r7 =>
      num_Whole_Gcd_L0 y r7 t t2
  else
    some (false, (x, ())) := (LL_eq T (Go.Abs.look fns) 67 0 _).trans (by kernel_rfl)
/- (torus/num.Whole).Small -/
theorem num_Whole_Small_eq (a : Bool × (List Int) × Unit) : num_Whole_Small a =
  bif (decide ((a.2.1.length : Int) > (3 : Int))) then
    some ((0 : Int), false)
  else
    let e0 : Int := (IntKind.wrap .i64 ((a.2.1.length : Int) - (1 : Int)))
    num_Whole_Small_L0 (0 : Int) e0 a.1 a.2.1 := (evI_eq1 T (Go.Abs.look fns) 68 a).trans (by kernel_rfl)
theorem num_Whole_Small_L0_eq (lo : Int) (i : Int) (a : Bool) (a2 : List Int) : num_Whole_Small_L0 lo i a a2 =
  bif (decide (i ≥ (0 : Int))) then
    bif (decide (lo > (9223372036 : Int))) then
      some ((0 : Int), false)
    else
      (idx a2 i).bind fun v0 =>
      let e1 : Int := (IntKind.wrap .u64 ((IntKind.wrap .u64 (lo * (1000000000 : Int))) + (IntKind.wrap .u64 v0)))
      num_Whole_Small_L0 e1 (IntKind.wrap .i64 (i - (1 : Int))) a a2
  else
    bif a then
      bif (decide (lo ≤ (9223372036854775808 : Int))) then
        some ((IntKind.wrap .i64 (0 - (IntKind.wrap .i64 lo))), true)
      else
        bif (!a) then
          bif (decide (lo < (9223372036854775808 : Int))) then
            some ((IntKind.wrap .i64 lo), true)
          else
            some ((0 : Int), false)
        else
          some ((0 : Int), false)
    else
      bif (!a) then
        bif (decide (lo < (9223372036854775808 : Int))) then
          some ((IntKind.wrap .i64 lo), true)
        else
          some ((0 : Int), false)
      else
        some ((0 : Int), false) := (LL_eq T (Go.Abs.look fns) 68 0 _).trans (by kernel_rfl)
/- torus/num.Read -/
theorem num_Read_eq (a : ByteArray) : num_Read a =
  (strings_CutPrefix a (bs [45])).bind fun r0 =>
  bif (r0.1.toList == ByteArray.empty.toList) then
    some ((false, (([] : List Int), ())), false)
  else
    (sidx r0.1 (0 : Int)).bind fun v1 =>
    bif (v1 == (48 : Int)) then
      bif (decide ((r0.1.size : Int) > (1 : Int))) then
        some ((false, (([] : List Int), ())), false)
      else
        bif r0.2 then
          some ((false, (([] : List Int), ())), false)
        else
          num_Read_L0 r0.1 r0.2 (r0.1.size : Int) ([] : List Int) false ([] : List Int)
    else
      num_Read_L0 r0.1 r0.2 (r0.1.size : Int) ([] : List Int) false ([] : List Int) := (evI_eq1 T (Go.Abs.look fns) 78 a).trans (by kernel_rfl)
theorem num_Read_L0_eq (s : ByteArray) (neg : Bool) (end0 : Int) (d : List Int) (t : Bool) (t2 : List Int) : num_Read_L0 s neg end0 d t t2 =
  bif (decide (end0 > (0 : Int))) then
    let e0 : Int := (bif decide ((IntKind.wrap .i64 (end0 - (9 : Int))) > (0 : Int)) then (IntKind.wrap .i64 (end0 - (9 : Int))) else (0 : Int))
    bif (inCut s.size e0 end0) then
    bif (Nat.ble (s.extract e0.toNat end0.toNat).size 140737488355328) then
    let e1 : Int := ((bytesOf (s.extract e0.toNat end0.toNat)).length : Int)
    num_Read_L1 s neg end0 (0 : Int) (bytesOf (s.extract e0.toNat end0.toNat)) e1 (0 : Int) d t t2
    else none
    else none
  else
    (num_signed neg d).bind fun r2 =>
    some ((r2.1, (r2.2.1, ())), true) := (LL_eq T (Go.Abs.look fns) 78 0 _).trans (by kernel_rfl)
theorem num_Read_L1_eq (s : ByteArray) (neg : Bool) (end0 : Int) (x : Int) (t : List Int) (t2 : Int) (t3 : Int) (d : List Int) (t4 : Bool) (t5 : List Int) : num_Read_L1 s neg end0 x t t2 t3 d t4 t5 =
  bif (decide (t3 < t2)) then
    (idx t t3).bind fun v0 =>
    bif (decide (v0 < (48 : Int))) then
      some ((false, (([] : List Int), ())), false)
    else
      bif (decide (v0 > (57 : Int))) then
        some ((false, (([] : List Int), ())), false)
      else
        let e1 : Int := (IntKind.wrap .u32 (IntKind.wrap .u8 (v0 - (48 : Int))))
        let e2 : Int := (IntKind.wrap .u32 ((IntKind.wrap .u32 ((10 : Int) * x)) + e1))
        num_Read_L1 s neg end0 e2 t t2 (IntKind.wrap .i64 (t3 + (1 : Int))) d t4 t5
  else
    bif (okApp 4 1 d.length 1) then
    num_Read_L0 s neg (IntKind.wrap .i64 (end0 - (9 : Int))) (d ++ ([x] : List Int)) t4 t5
    else none := (LL_eq T (Go.Abs.look fns) 78 1 _).trans (by kernel_rfl)
/- torus/num.size -/
theorem num_size_eq (a : List Int) (b : List Int) : num_size a b =
  bif ((a.length : Int) != (b.length : Int)) then
    bif (decide ((a.length : Int) < (b.length : Int))) then
      some (-1 : Int)
    else
      some (1 : Int)
  else
    let e0 : Int := (IntKind.wrap .i64 ((a.length : Int) - (1 : Int)))
    num_size_L0 a b e0 := (evI_eq1 T (Go.Abs.look fns) 79 (a, b)).trans (by kernel_rfl)
theorem num_size_L0_eq (a : List Int) (b : List Int) (i : Int) : num_size_L0 a b i =
  bif (decide (i ≥ (0 : Int))) then
    (idx a i).bind fun v0 =>
    (idx b i).bind fun v1 =>
    bif (v0 != v1) then
      (idx a i).bind fun v2 =>
      (idx b i).bind fun v3 =>
      bif (decide (v2 < v3)) then
        some (-1 : Int)
      else
        some (1 : Int)
    else
      num_size_L0 a b (IntKind.wrap .i64 (i - (1 : Int)))
  else
    some (0 : Int) := (LL_eq T (Go.Abs.look fns) 79 0 _).trans (by kernel_rfl)
/- torus/num.signed -/
theorem num_signed_eq (neg : Bool) (d : List Int) : num_signed neg d =
  (num_trim d).bind fun r0 =>
  bif neg then
    some ((decide ((r0.length : Int) > (0 : Int))), (r0, ()))
  else
    some (false, (r0, ())) := (evI_eq1 T (Go.Abs.look fns) 80 (neg, d)).trans (by kernel_rfl)
/- (torus/num.Whole).digits -/
theorem num_Whole_digits_eq (a : Bool × (List Int) × Unit) : num_Whole_digits a =
  bif ((a.2.1.length : Int) == (0 : Int)) then
    some (0 : Int)
  else
    let e0 : Int := (IntKind.wrap .i64 ((a.2.1.length : Int) - (1 : Int)))
    let e1 : Int := (IntKind.wrap .i64 ((a.2.1.length : Int) - (1 : Int)))
    (idx a.2.1 e1).bind fun v2 =>
    num_Whole_digits_L0 (IntKind.wrap .i64 ((9 : Int) * e0)) v2 := (evI_eq1 T (Go.Abs.look fns) 81 a).trans (by kernel_rfl)
theorem num_Whole_digits_L0_eq (n : Int) (x : Int) : num_Whole_digits_L0 n x =
  bif (decide (x > (0 : Int))) then
    num_Whole_digits_L0 (IntKind.wrap .i64 (n + (1 : Int))) (IntKind.wrap .u32 (x.tdiv (10 : Int)))
  else
    some n := (LL_eq T (Go.Abs.look fns) 81 0 _).trans (by kernel_rfl)
/- torus/num.plus -/
theorem num_plus_eq (a : List Int) (b : List Int) : num_plus a b =
  bif (decide ((a.length : Int) < (b.length : Int))) then
    let e0 : Int := (IntKind.wrap .i64 ((b.length : Int) + (1 : Int)))
    bif (okMake 4 (0 : Int) e0) then
    num_plus_L0 a (0 : Int) b (b.length : Int) (0 : Int) ([] : List Int)
    else none
  else
    let e1 : Int := (IntKind.wrap .i64 ((a.length : Int) + (1 : Int)))
    bif (okMake 4 (0 : Int) e1) then
    num_plus_L0 b (0 : Int) a (a.length : Int) (0 : Int) ([] : List Int)
    else none := (evI_eq1 T (Go.Abs.look fns) 85 (a, b)).trans (by kernel_rfl)
theorem num_plus_L0_eq (b : List Int) (carry : Int) (t : List Int) (t2 : Int) (t3 : Int) (out : List Int) : num_plus_L0 b carry t t2 t3 out =
  bif (decide (t3 < t2)) then
    (idx t t3).bind fun v0 =>
    bif (decide (t3 < (b.length : Int))) then
      (idx b t3).bind fun v1 =>
      let e2 : Int := (IntKind.wrap .u32 ((IntKind.wrap .u32 (v0 + carry)) + v1))
      bif (okApp 4 1 out.length 1) then
      let e3 : List Int := (out ++ ([(e2.tmod (1000000000 : Int))] : List Int))
      num_plus_L0 b (IntKind.wrap .u32 (e2.tdiv (1000000000 : Int))) t t2 (IntKind.wrap .i64 (t3 + (1 : Int))) e3
      else none
    else
      let e4 : Int := (IntKind.wrap .u32 ((IntKind.wrap .u32 (v0 + carry)).tdiv (1000000000 : Int)))
      let e5 : Int := ((IntKind.wrap .u32 (v0 + carry)).tmod (1000000000 : Int))
      bif (okApp 4 1 out.length 1) then
      num_plus_L0 b e4 t t2 (IntKind.wrap .i64 (t3 + (1 : Int))) (out ++ ([e5] : List Int))
      else none
  else
    bif (okApp 4 1 out.length 1) then
    some (out ++ ([carry] : List Int))
    else none := (LL_eq T (Go.Abs.look fns) 85 0 _).trans (by kernel_rfl)
/- torus/num.minus -/
theorem num_minus_eq (a : List Int) (b : List Int) : num_minus a b =
  bif (okMake 4 (0 : Int) (a.length : Int)) then
  num_minus_L0 b (0 : Int) a (a.length : Int) (0 : Int) ([] : List Int)
  else none := (evI_eq1 T (Go.Abs.look fns) 86 (a, b)).trans (by kernel_rfl)
theorem num_minus_L0_eq (b : List Int) (borrow : Int) (t : List Int) (t2 : Int) (t3 : Int) (out : List Int) : num_minus_L0 b borrow t t2 t3 out =
  bif (decide (t3 < t2)) then
    (idx t t3).bind fun v0 =>
    bif (decide (t3 < (b.length : Int))) then
      (idx b t3).bind fun v1 =>
      bif (decide (v0 < (IntKind.wrap .u32 (borrow + v1)))) then
        let e2 : Int := (IntKind.wrap .u32 ((IntKind.wrap .u32 (v0 + (1000000000 : Int))) - (IntKind.wrap .u32 (borrow + v1))))
        bif (okApp 4 1 out.length 1) then
        num_minus_L0 b (1 : Int) t t2 (IntKind.wrap .i64 (t3 + (1 : Int))) (out ++ ([e2] : List Int))
        else none
      else
        let e3 : Int := (IntKind.wrap .u32 (v0 - (IntKind.wrap .u32 (borrow + v1))))
        bif (okApp 4 1 out.length 1) then
        num_minus_L0 b (0 : Int) t t2 (IntKind.wrap .i64 (t3 + (1 : Int))) (out ++ ([e3] : List Int))
        else none
    else
      bif (decide (v0 < borrow)) then
        let e4 : Int := (IntKind.wrap .u32 ((IntKind.wrap .u32 (v0 + (1000000000 : Int))) - borrow))
        bif (okApp 4 1 out.length 1) then
        num_minus_L0 b (1 : Int) t t2 (IntKind.wrap .i64 (t3 + (1 : Int))) (out ++ ([e4] : List Int))
        else none
      else
        bif (okApp 4 1 out.length 1) then
        let e5 : List Int := (out ++ ([(IntKind.wrap .u32 (v0 - borrow))] : List Int))
        num_minus_L0 b (0 : Int) t t2 (IntKind.wrap .i64 (t3 + (1 : Int))) e5
        else none
  else
    some out := (LL_eq T (Go.Abs.look fns) 86 0 _).trans (by kernel_rfl)
/- torus/num.parts -/
theorem num_parts_eq (a : List Int) (b : List Int) : num_parts a b =
  (num_size a b).bind fun r0 =>
  bif (decide (r0 < (0 : Int))) then
    some (([] : List Int), a)
  else
    bif ((b.length : Int) == (1 : Int)) then
      (idx b (0 : Int)).bind fun v1 =>
      (num_short a v1).bind fun r2 =>
      (num_trim ([r2.2] : List Int)).bind fun r3 =>
      some (r2.1, r3)
    else
      (num_long a b).bind fun r4 =>
      some (r4.1, r4.2) := (evI_eq1 T (Go.Abs.look fns) 91 (a, b)).trans (by kernel_rfl)
/- torus/num.small -/
theorem num_small_eq (x : Int) (y : Int) : num_small x y =
  num_small_L0 x y := (evI_eq1 T (Go.Abs.look fns) 92 (x, y)).trans (by kernel_rfl)
theorem num_small_L0_eq (x : Int) (y : Int) : num_small_L0 x y =
  bif (decide (y > (0 : Int))) then
    bif (y == 0) then none else
    num_small_L0 y (x.tmod y)
  else
    some x := (LL_eq T (Go.Abs.look fns) 92 0 _).trans (by kernel_rfl)
/- torus/num.word -/
theorem num_word_eq (d : List Int) : num_word d =
  let e0 : Int := (IntKind.wrap .i64 ((d.length : Int) - (1 : Int)))
  num_word_L0 d (0 : Int) e0 := (evI_eq1 T (Go.Abs.look fns) 93 d).trans (by kernel_rfl)
theorem num_word_L0_eq (d : List Int) (n : Int) (i : Int) : num_word_L0 d n i =
  bif (decide (i ≥ (0 : Int))) then
    (idx d i).bind fun v0 =>
    let e1 : Int := (IntKind.wrap .i64 ((IntKind.wrap .i64 (n * (1000000000 : Int))) + (IntKind.wrap .i64 v0)))
    num_word_L0 d e1 (IntKind.wrap .i64 (i - (1 : Int)))
  else
    some n := (LL_eq T (Go.Abs.look fns) 93 0 _).trans (by kernel_rfl)
/- torus/num.trim -/
theorem num_trim_eq (d : List Int) : num_trim d =
  num_trim_L0 d := (evI_eq1 T (Go.Abs.look fns) 94 d).trans (by kernel_rfl)
theorem num_trim_L0_eq (d : List Int) : num_trim_L0 d =
  bif (decide ((d.length : Int) > (0 : Int))) then
    let e0 : Int := (IntKind.wrap .i64 ((d.length : Int) - (1 : Int)))
    (idx d e0).bind fun v1 =>
    bif (v1 == (0 : Int)) then
      let e2 : Int := (IntKind.wrap .i64 ((d.length : Int) - (1 : Int)))
      bif (inCut d.length (0 : Int) e2) then
      num_trim_L0 (cut d (0 : Int) e2)
      else none
    else
      some d
  else
    some d := (LL_eq T (Go.Abs.look fns) 94 0 _).trans (by kernel_rfl)
/- torus/num.short -/
theorem num_short_eq (a : List Int) (b : Int) : num_short a b =
  bif (okMake 4 (a.length : Int) (a.length : Int)) then
  let e0 : List Int := (List.replicate (a.length : Int).toNat (0 : Int))
  let e1 : Int := (IntKind.wrap .i64 ((a.length : Int) - (1 : Int)))
  num_short_L0 a b (0 : Int) e1 e0
  else none := (evI_eq1 T (Go.Abs.look fns) 97 (a, b)).trans (by kernel_rfl)
theorem num_short_L0_eq (a : List Int) (b : Int) (rest : Int) (i : Int) (out : List Int) : num_short_L0 a b rest i out =
  bif (decide (i ≥ (0 : Int))) then
    (idx a i).bind fun v0 =>
    let e1 : Int := (IntKind.wrap .u64 ((IntKind.wrap .u64 (rest * (1000000000 : Int))) + (IntKind.wrap .u64 v0)))
    bif ((IntKind.wrap .u64 b) == 0) then none else
    let e2 : Int := (IntKind.wrap .u64 (e1.tdiv (IntKind.wrap .u64 b)))
    bif ((IntKind.wrap .u64 b) == 0) then none else
    (idx out i).bind fun _ =>
    (out[i.toNat]?).bind fun v3 =>
    num_short_L0 a b (e1.tmod (IntKind.wrap .u64 b)) (IntKind.wrap .i64 (i - (1 : Int))) (out.set i.toNat (IntKind.wrap .u32 e2))
  else
    some (out, (IntKind.wrap .u32 rest)) := (LL_eq T (Go.Abs.look fns) 97 0 _).trans (by kernel_rfl)
/- torus/num.long -/
theorem num_long_eq (a : List Int) (b : List Int) : num_long a b =
  let e0 : Int := (IntKind.wrap .i64 ((b.length : Int) - (1 : Int)))
  (idx b e0).bind fun v1 =>
  let e2 : Int := (IntKind.wrap .u64 ((IntKind.wrap .u64 v1) + (1 : Int)))
  bif (e2 == 0) then none else
  let e3 : Int := (IntKind.wrap .u32 (IntKind.wrap .u64 ((1000000000 : Int).tdiv e2)))
  (num_scaled a e3).bind fun r4 =>
  (num_scaled b e3).bind fun r5 =>
  (num_trim r5).bind fun r6 =>
  let e7 : Int := (IntKind.wrap .i64 ((r4.length : Int) - (r6.length : Int)))
  bif (okMake 4 e7 e7) then
  let e8 : Int := (IntKind.wrap .i64 ((r4.length : Int) - (r6.length : Int)))
  num_long_L0 e3 r6 (r6.length : Int) (IntKind.wrap .i64 (e8 - (1 : Int))) (List.replicate e7.toNat (0 : Int)) r4
  else none := (evI_eq1 T (Go.Abs.look fns) 98 (a, b)).trans (by kernel_rfl)
theorem num_long_L0_eq (k : Int) (v : List Int) (n : Int) (j : Int) (q : List Int) (u : List Int) : num_long_L0 k v n j q u =
  bif (decide (j ≥ (0 : Int))) then
    (idx u (IntKind.wrap .i64 (j + n))).bind fun _ =>
    (u[(IntKind.wrap .i64 (j + n)).toNat]?).bind fun v0 =>
    let e1 : Int := (IntKind.wrap .u64 ((IntKind.wrap .u64 v0) * (1000000000 : Int)))
    let e2 : Int := (IntKind.wrap .i64 ((IntKind.wrap .i64 (j + n)) - (1 : Int)))
    (idx u e2).bind fun _ =>
    (u[e2.toNat]?).bind fun v3 =>
    let e4 : Int := (IntKind.wrap .u64 (e1 + (IntKind.wrap .u64 v3)))
    (idx v (IntKind.wrap .i64 (n - (1 : Int)))).bind fun v5 =>
    bif ((IntKind.wrap .u64 v5) == 0) then none else
    let e6 : Int := (IntKind.wrap .u64 (e4.tdiv (IntKind.wrap .u64 v5)))
    (idx v (IntKind.wrap .i64 (n - (1 : Int)))).bind fun v7 =>
    bif ((IntKind.wrap .u64 v7) == 0) then none else
    num_long_L1 k v n j e6 (e4.tmod (IntKind.wrap .u64 v7)) q u
  else
    bif (inCut u.length 0 n) then
    (num_short (u.take n.toNat) k).bind fun r8 =>
    some (q, r8.1)
    else none := (LL_eq T (Go.Abs.look fns) 98 0 _).trans (by kernel_rfl)
theorem num_long_L1_eq (k : Int) (v : List Int) (n : Int) (j : Int) (guess : Int) (rest : Int) (q : List Int) (u : List Int) : num_long_L1 k v n j guess rest q u =
  bif (decide (guess ≥ (1000000000 : Int))) then
    (idx v (IntKind.wrap .i64 (n - (1 : Int)))).bind fun v0 =>
    let e1 : Int := (IntKind.wrap .u64 (rest + (IntKind.wrap .u64 v0)))
    bif (decide (e1 ≥ (1000000000 : Int))) then
      num_long_L2 k v n j (IntKind.wrap .u64 (guess - (1 : Int))) (0 : Int) n (0 : Int) q u
    else
      num_long_L1 k v n j (IntKind.wrap .u64 (guess - (1 : Int))) e1 q u
  else
    (idx v (IntKind.wrap .i64 (n - (2 : Int)))).bind fun v2 =>
    let e3 : Int := (IntKind.wrap .u64 (guess * (IntKind.wrap .u64 v2)))
    let e4 : Int := (IntKind.wrap .i64 ((IntKind.wrap .i64 (j + n)) - (2 : Int)))
    (idx u e4).bind fun _ =>
    (u[e4.toNat]?).bind fun v5 =>
    let e6 : Int := (IntKind.wrap .u64 ((IntKind.wrap .u64 (rest * (1000000000 : Int))) + (IntKind.wrap .u64 v5)))
    bif (decide (e3 > e6)) then
      (idx v (IntKind.wrap .i64 (n - (1 : Int)))).bind fun v7 =>
      let e8 : Int := (IntKind.wrap .u64 (rest + (IntKind.wrap .u64 v7)))
      bif (decide (e8 ≥ (1000000000 : Int))) then
        num_long_L2 k v n j (IntKind.wrap .u64 (guess - (1 : Int))) (0 : Int) n (0 : Int) q u
      else
        num_long_L1 k v n j (IntKind.wrap .u64 (guess - (1 : Int))) e8 q u
    else
      num_long_L2 k v n j guess (0 : Int) n (0 : Int) q u := (LL_eq T (Go.Abs.look fns) 98 1 _).trans (by kernel_rfl)
theorem num_long_L2_eq (k : Int) (v : List Int) (n : Int) (j : Int) (guess : Int) (borrow : Int) (t : Int) (t2 : Int) (q : List Int) (u : List Int) : num_long_L2 k v n j guess borrow t t2 q u =
  bif (decide (t2 < t)) then
    (idx u (IntKind.wrap .i64 (t2 + j))).bind fun _ =>
    (u[(IntKind.wrap .i64 (t2 + j)).toNat]?).bind fun v0 =>
    let e1 : Int := (IntKind.wrap .i64 ((IntKind.wrap .i64 v0) - borrow))
    (idx v t2).bind fun v2 =>
    let e3 : Int := (IntKind.wrap .i64 ((IntKind.wrap .i64 guess) * (IntKind.wrap .i64 v2)))
    let e4 : Int := (IntKind.wrap .i64 (e1 - (e3.tmod (1000000000 : Int))))
    (idx v t2).bind fun v5 =>
    let e6 : Int := (IntKind.wrap .i64 ((IntKind.wrap .i64 guess) * (IntKind.wrap .i64 v5)))
    bif (decide (e4 < (0 : Int))) then
      let e7 : Int := (IntKind.wrap .i64 ((IntKind.wrap .i64 (e6.tdiv (1000000000 : Int))) + (1 : Int)))
      bif (decide ((IntKind.wrap .i64 (e4 + (1000000000 : Int))) < (0 : Int))) then
        let e8 : Int := (IntKind.wrap .i64 ((IntKind.wrap .i64 (e4 + (1000000000 : Int))) + (1000000000 : Int)))
        (idx u (IntKind.wrap .i64 (t2 + j))).bind fun _ =>
        (u[(IntKind.wrap .i64 (t2 + j)).toNat]?).bind fun v9 =>
        let e10 : List Int := (u.set (IntKind.wrap .i64 (t2 + j)).toNat (IntKind.wrap .u32 e8))
        num_long_L2 k v n j guess (IntKind.wrap .i64 (e7 + (1 : Int))) t (IntKind.wrap .i64 (t2 + (1 : Int))) q e10
      else
        let e11 : Int := (IntKind.wrap .u32 (IntKind.wrap .i64 (e4 + (1000000000 : Int))))
        (idx u (IntKind.wrap .i64 (t2 + j))).bind fun _ =>
        (u[(IntKind.wrap .i64 (t2 + j)).toNat]?).bind fun v12 =>
        num_long_L2 k v n j guess e7 t (IntKind.wrap .i64 (t2 + (1 : Int))) q (u.set (IntKind.wrap .i64 (t2 + j)).toNat e11)
    else
      bif (decide (e4 < (0 : Int))) then
        let e13 : Int := (IntKind.wrap .i64 ((IntKind.wrap .i64 (e6.tdiv (1000000000 : Int))) + (1 : Int)))
        let e14 : Int := (IntKind.wrap .u32 (IntKind.wrap .i64 (e4 + (1000000000 : Int))))
        (idx u (IntKind.wrap .i64 (t2 + j))).bind fun _ =>
        (u[(IntKind.wrap .i64 (t2 + j)).toNat]?).bind fun v15 =>
        num_long_L2 k v n j guess e13 t (IntKind.wrap .i64 (t2 + (1 : Int))) q (u.set (IntKind.wrap .i64 (t2 + j)).toNat e14)
      else
        (idx u (IntKind.wrap .i64 (t2 + j))).bind fun _ =>
        (u[(IntKind.wrap .i64 (t2 + j)).toNat]?).bind fun v16 =>
        let e17 : List Int := (u.set (IntKind.wrap .i64 (t2 + j)).toNat (IntKind.wrap .u32 e4))
        num_long_L2 k v n j guess (IntKind.wrap .i64 (e6.tdiv (1000000000 : Int))) t (IntKind.wrap .i64 (t2 + (1 : Int))) q e17
  else
    (idx u (IntKind.wrap .i64 (j + n))).bind fun _ =>
    (u[(IntKind.wrap .i64 (j + n)).toNat]?).bind fun v18 =>
    let e19 : Int := (IntKind.wrap .i64 ((IntKind.wrap .i64 v18) - borrow))
    bif (decide (e19 < (0 : Int))) then
      num_long_L3 k v n j (IntKind.wrap .u64 (guess - (1 : Int))) e19 (0 : Int) n (0 : Int) q u
    else
      (idx u (IntKind.wrap .i64 (j + n))).bind fun _ =>
      (u[(IntKind.wrap .i64 (j + n)).toNat]?).bind fun v20 =>
      let e21 : List Int := (u.set (IntKind.wrap .i64 (j + n)).toNat (0 : Int))
      (idx q j).bind fun _ =>
      (q[j.toNat]?).bind fun v22 =>
      num_long_L0 k v n (IntKind.wrap .i64 (j - (1 : Int))) (q.set j.toNat (IntKind.wrap .u32 guess)) e21 := (LL_eq T (Go.Abs.look fns) 98 2 _).trans (by kernel_rfl)
theorem num_long_L3_eq (k : Int) (v : List Int) (n : Int) (j : Int) (guess : Int) (x : Int) (carry : Int) (t : Int) (t2 : Int) (q : List Int) (u : List Int) : num_long_L3 k v n j guess x carry t t2 q u =
  bif (decide (t2 < t)) then
    (idx u (IntKind.wrap .i64 (t2 + j))).bind fun _ =>
    (u[(IntKind.wrap .i64 (t2 + j)).toNat]?).bind fun v0 =>
    (idx v t2).bind fun v1 =>
    let e2 : Int := (IntKind.wrap .u32 ((IntKind.wrap .u32 (v0 + v1)) + carry))
    (idx u (IntKind.wrap .i64 (t2 + j))).bind fun _ =>
    (u[(IntKind.wrap .i64 (t2 + j)).toNat]?).bind fun v3 =>
    let e4 : List Int := (u.set (IntKind.wrap .i64 (t2 + j)).toNat (e2.tmod (1000000000 : Int)))
    num_long_L3 k v n j guess x (IntKind.wrap .u32 (e2.tdiv (1000000000 : Int))) t (IntKind.wrap .i64 (t2 + (1 : Int))) q e4
  else
    let e5 : Int := (IntKind.wrap .i64 (x + (IntKind.wrap .i64 carry)))
    (idx u (IntKind.wrap .i64 (j + n))).bind fun _ =>
    (u[(IntKind.wrap .i64 (j + n)).toNat]?).bind fun v6 =>
    let e7 : List Int := (u.set (IntKind.wrap .i64 (j + n)).toNat (0 : Int))
    (idx q j).bind fun _ =>
    (q[j.toNat]?).bind fun v8 =>
    num_long_L0 k v n (IntKind.wrap .i64 (j - (1 : Int))) (q.set j.toNat (IntKind.wrap .u32 guess)) e7 := (LL_eq T (Go.Abs.look fns) 98 3 _).trans (by kernel_rfl)
/- torus/num.scaled -/
theorem num_scaled_eq (a : List Int) (k : Int) : num_scaled a k =
  let e0 : Int := (IntKind.wrap .i64 ((a.length : Int) + (1 : Int)))
  bif (okMake 4 (0 : Int) e0) then
  num_scaled_L0 k (0 : Int) a (a.length : Int) (0 : Int) ([] : List Int)
  else none := (evI_eq1 T (Go.Abs.look fns) 100 (a, k)).trans (by kernel_rfl)
theorem num_scaled_L0_eq (k : Int) (carry : Int) (t : List Int) (t2 : Int) (t3 : Int) (out : List Int) : num_scaled_L0 k carry t t2 t3 out =
  bif (decide (t3 < t2)) then
    (idx t t3).bind fun v0 =>
    let e1 : Int := (IntKind.wrap .u64 ((IntKind.wrap .u64 v0) * (IntKind.wrap .u64 k)))
    let e2 : Int := ((IntKind.wrap .u64 (carry + e1)).tmod (1000000000 : Int))
    bif (okApp 4 1 out.length 1) then
    let e3 : Int := (IntKind.wrap .u64 ((IntKind.wrap .u64 (carry + e1)).tdiv (1000000000 : Int)))
    num_scaled_L0 k e3 t t2 (IntKind.wrap .i64 (t3 + (1 : Int))) (out ++ ([(IntKind.wrap .u32 e2)] : List Int))
    else none
  else
    bif (okApp 4 1 out.length 1) then
    let e4 : List Int := (out ++ ([(IntKind.wrap .u32 carry)] : List Int))
    some e4
    else none := (LL_eq T (Go.Abs.look fns) 100 0 _).trans (by kernel_rfl)
end Go.Proofs.Ytlpkaimkmfgpiaa.Ev
-- Written by a program of this claim; Lean checks it.
set_option linter.unusedVariables false
set_option maxRecDepth 100000
namespace Go.Proofs.Ytlpkaimkmfgpiaa.Ev
open Go.Abs
/- strings.CutPrefix -/
theorem strings_CutPrefix_eq (s : ByteArray) (prefix0 : ByteArray) : strings_CutPrefix s prefix0 =
  (stringslite_CutPrefix s prefix0).bind fun r0 =>
  some (r0.1, r0.2) := (evI_eq1 T (Go.Abs.look fns) 96 (s, prefix0)).trans (by kernel_rfl)
end Go.Proofs.Ytlpkaimkmfgpiaa.Ev
-- Written by a program of this claim; Lean checks it.
set_option linter.unusedVariables false
set_option maxRecDepth 100000
namespace Go.Proofs.Ytlpkaimkmfgpiaa.Ev
open Go.Abs
/- internal/stringslite.CutPrefix -/
theorem stringslite_CutPrefix_eq (s : ByteArray) (prefix0 : ByteArray) : stringslite_CutPrefix s prefix0 =
  (stringslite_HasPrefix s prefix0).bind fun r0 =>
  bif (!r0) then
    some (s, false)
  else
    bif (inCut s.size (prefix0.size : Int) (s.size : Int)) then
    let e1 : ByteArray := (s.extract (prefix0.size : Int).toNat (s.size : Int).toNat)
    some (e1, true)
    else none := (evI_eq1 T (Go.Abs.look fns) 99 (s, prefix0)).trans (by kernel_rfl)
/- internal/stringslite.HasPrefix -/
theorem stringslite_HasPrefix_eq (s : ByteArray) (prefix0 : ByteArray) : stringslite_HasPrefix s prefix0 =
  bif (decide ((s.size : Int) ≥ (prefix0.size : Int))) then
    bif (inCut s.size (0 : Int) (prefix0.size : Int)) then
    let e0 : ByteArray := (s.extract (0 : Int).toNat (prefix0.size : Int).toNat)
    some (e0.toList == prefix0.toList)
    else none
  else
    some false := (evI_eq1 T (Go.Abs.look fns) 101 (s, prefix0)).trans (by kernel_rfl)
end Go.Proofs.Ytlpkaimkmfgpiaa.Ev
-- Written by a program of this claim; Lean checks it.
set_option linter.unusedVariables false
set_option maxRecDepth 100000
namespace Go.Proofs.Ytlpkaimkmfgpiaa.Ev
open Go.Abs
/- torus/whole.Pow -/
theorem whole_Pow_eq (a : ByteArray) (n : Int) : whole_Pow a n =
  (whole_read ([a] : List ByteArray)).bind fun r0 =>
  bif (!r0.2) then
    some (ByteArray.empty, (1 : Int))
  else
    bif (decide (n < (0 : Int))) then
      some (ByteArray.empty, (1 : Int))
    else
      (num_Of (1 : Int)).bind fun r1 =>
      (idx r0.1 (0 : Int)).bind fun v2 =>
      (num_Whole_Abs (v2.1.1, (v2.1.2.1, ()))).bind fun r3 =>
      (num_Whole_Cmp (r3.1, (r3.2.1, ())) (r1.1, (r1.2.1, ()))).bind fun r4 =>
      bif (decide (r4 ≤ (0 : Int))) then
        bif (n == (0 : Int)) then
          (num_Whole_Text (r1.1, (r1.2.1, ()))).bind fun r5 =>
          some (r5, (0 : Int))
        else
          bif ((n.tmod (2 : Int)) == (0 : Int)) then
            (idx r0.1 (0 : Int)).bind fun v6 =>
            (num_Whole_Abs (v6.1.1, (v6.1.2.1, ()))).bind fun r7 =>
            (num_Whole_Text (r7.1, (r7.2.1, ()))).bind fun r8 =>
            some (r8, (0 : Int))
          else
            some (a, (0 : Int))
      else
        (num_Of (1 : Int)).bind fun r9 =>
        whole_Pow_L0 r0.1 n (0 : Int) r9.1 r9.2.1 := (evI_eq1 T (Go.Abs.look fns) 11 (a, n)).trans (by kernel_rfl)
theorem whole_Pow_L0_eq (l : List ((Bool × (List Int) × Unit) × ByteArray × Unit)) (t : Int) (t2 : Int) (out : Bool) (out2 : List Int) : whole_Pow_L0 l t t2 out out2 =
  bif (decide (t2 < t)) then
    (idx l (0 : Int)).bind fun v0 =>
    (num_Whole_Mul (out, (out2, ())) (v0.1.1, (v0.1.2.1, ()))).bind fun r1 =>
    (num_Whole_Long (r1.1, (r1.2.1, ()))).bind fun r2 =>
    bif r2 then
      some (ByteArray.empty, (3 : Int))
    else
      whole_Pow_L0 l t (IntKind.wrap .i64 (t2 + (1 : Int))) r1.1 r1.2.1
  else
    (num_Whole_Text (out, (out2, ()))).bind fun r3 =>
    some (r3, (0 : Int)) := (LL_eq T (Go.Abs.look fns) 11 0 _).trans (by kernel_rfl)
/- torus/whole.Sum -/
theorem whole_Sum_eq (l : List ByteArray) : whole_Sum l =
  (whole_read l).bind fun r0 =>
  bif (!r0.2) then
    some (ByteArray.empty, (1 : Int))
  else
    whole_Sum_L0 r0.1 (r0.1.length : Int) (0 : Int) false ([] : List Int) := (evI_eq1 T (Go.Abs.look fns) 15 l).trans (by kernel_rfl)
theorem whole_Sum_L0_eq (t : List ((Bool × (List Int) × Unit) × ByteArray × Unit)) (t2 : Int) (t3 : Int) (sum : Bool) (sum2 : List Int) : whole_Sum_L0 t t2 t3 sum sum2 =
  bif (decide (t3 < t2)) then
    (idx t t3).bind fun v0 =>
    (num_Whole_Add (sum, (sum2, ())) (v0.1.1, (v0.1.2.1, ()))).bind fun r1 =>
    whole_Sum_L0 t t2 (IntKind.wrap .i64 (t3 + (1 : Int))) r1.1 r1.2.1
  else
    (whole_result (sum, (sum2, ()))).bind fun r2 =>
    some (r2.1, r2.2) := (LL_eq T (Go.Abs.look fns) 15 0 _).trans (by kernel_rfl)
/- torus/whole.Sub -/
theorem whole_Sub_eq (a : ByteArray) (b : ByteArray) : whole_Sub a b =
  (whole_read ([a, b] : List ByteArray)).bind fun r0 =>
  bif (!r0.2) then
    some (ByteArray.empty, (1 : Int))
  else
    (idx r0.1 (0 : Int)).bind fun v1 =>
    (idx r0.1 (1 : Int)).bind fun v2 =>
    (num_Whole_Sub (v1.1.1, (v1.1.2.1, ())) (v2.1.1, (v2.1.2.1, ()))).bind fun r3 =>
    (whole_result (r3.1, (r3.2.1, ()))).bind fun r4 =>
    some (r4.1, r4.2) := (evI_eq1 T (Go.Abs.look fns) 21 (a, b)).trans (by kernel_rfl)
/- torus/whole.Neg -/
theorem whole_Neg_eq (a : ByteArray) : whole_Neg a =
  (whole_read ([a] : List ByteArray)).bind fun r0 =>
  bif (!r0.2) then
    some ByteArray.empty
  else
    (idx r0.1 (0 : Int)).bind fun v1 =>
    (num_Whole_Neg (v1.1.1, (v1.1.2.1, ()))).bind fun r2 =>
    (num_Whole_Text (r2.1, (r2.2.1, ()))).bind fun r3 =>
    some r3 := (evI_eq1 T (Go.Abs.look fns) 23 a).trans (by kernel_rfl)
/- torus/whole.Root -/
theorem whole_Root_eq (a : ByteArray) : whole_Root a =
  (whole_read ([a] : List ByteArray)).bind fun r0 =>
  bif (!r0.2) then
    some (ByteArray.empty, (1 : Int))
  else
    (idx r0.1 (0 : Int)).bind fun v1 =>
    (num_Whole_Sign (v1.1.1, (v1.1.2.1, ()))).bind fun r2 =>
    bif (decide (r2 < (0 : Int))) then
      some (ByteArray.empty, (1 : Int))
    else
      (num_Of (1 : Int)).bind fun r3 =>
      (num_Of (2 : Int)).bind fun r4 =>
      whole_Root_L0 r0.1 r3.1 r3.2.1 r4.1 r4.2.1 := (evI_eq1 T (Go.Abs.look fns) 24 a).trans (by kernel_rfl)
theorem whole_Root_L0_eq (l : List ((Bool × (List Int) × Unit) × ByteArray × Unit)) (x : Bool) (x2 : List Int) (two : Bool) (two2 : List Int) : whole_Root_L0 l x x2 two two2 =
  (num_Whole_Mul (x, (x2, ())) (x, (x2, ()))).bind fun r0 =>
  (idx l (0 : Int)).bind fun v1 =>
  (num_Whole_Cmp (r0.1, (r0.2.1, ())) (v1.1.1, (v1.1.2.1, ()))).bind fun r2 =>
  bif (decide (r2 < (0 : Int))) then
    (num_Of (1000 : Int)).bind fun r3 =>
    (num_Whole_Mul (x, (x2, ())) (r3.1, (r3.2.1, ()))).bind fun r4 =>
    whole_Root_L0 l r4.1 r4.2.1 two two2
  else
    whole_Root_L1 l x x2 two two2 := (LL_eq T (Go.Abs.look fns) 24 0 _).trans (by kernel_rfl)
theorem whole_Root_L1_eq (l : List ((Bool × (List Int) × Unit) × ByteArray × Unit)) (x : Bool) (x2 : List Int) (two : Bool) (two2 : List Int) : whole_Root_L1 l x x2 two two2 =
  (num_Whole_Mul (x, (x2, ())) (x, (x2, ()))).bind fun r0 =>
  (idx l (0 : Int)).bind fun v1 =>
  (num_Whole_Cmp (r0.1, (r0.2.1, ())) (v1.1.1, (v1.1.2.1, ()))).bind fun r2 =>
  bif (decide (r2 > (0 : Int))) then
    (idx l (0 : Int)).bind fun v3 =>
    (num_Whole_DivMod (v3.1.1, (v3.1.2.1, ())) (x, (x2, ()))).bind fun r4 =>
    (num_Whole_Add (x, (x2, ())) (r4.1.1, (r4.1.2.1, ()))).bind fun r5 =>
    (num_Whole_DivMod (r5.1, (r5.2.1, ())) (two, (two2, ()))).bind fun r6 =>
    whole_Root_L1 l r6.1.1 r6.1.2.1 two two2
  else
    (num_Whole_Text (x, (x2, ()))).bind fun r7 =>
    some (r7, (0 : Int)) := (LL_eq T (Go.Abs.look fns) 24 1 _).trans (by kernel_rfl)
/- torus/whole.Abs -/
theorem whole_Abs_eq (a : ByteArray) : whole_Abs a =
  (whole_read ([a] : List ByteArray)).bind fun r0 =>
  bif (!r0.2) then
    some ByteArray.empty
  else
    (idx r0.1 (0 : Int)).bind fun v1 =>
    (num_Whole_Sign (v1.1.1, (v1.1.2.1, ()))).bind fun r2 =>
    bif (decide (r2 < (0 : Int))) then
      (idx r0.1 (0 : Int)).bind fun v3 =>
      (num_Whole_Neg (v3.1.1, (v3.1.2.1, ()))).bind fun r4 =>
      (num_Whole_Text (r4.1, (r4.2.1, ()))).bind fun r5 =>
      some r5
    else
      (idx r0.1 (0 : Int)).bind fun v6 =>
      some v6.2.1 := (evI_eq1 T (Go.Abs.look fns) 25 a).trans (by kernel_rfl)
/- torus/whole.Cmp -/
theorem whole_Cmp_eq (a : ByteArray) (b : ByteArray) : whole_Cmp a b =
  (whole_read ([a, b] : List ByteArray)).bind fun r0 =>
  bif (!r0.2) then
    some (0 : Int)
  else
    (idx r0.1 (0 : Int)).bind fun v1 =>
    (idx r0.1 (1 : Int)).bind fun v2 =>
    (num_Whole_Cmp (v1.1.1, (v1.1.2.1, ())) (v2.1.1, (v2.1.2.1, ()))).bind fun r3 =>
    some r3 := (evI_eq1 T (Go.Abs.look fns) 26 (a, b)).trans (by kernel_rfl)
/- torus/whole.DivMod -/
theorem whole_DivMod_eq (a : ByteArray) (b : ByteArray) : whole_DivMod a b =
  (whole_read ([a, b] : List ByteArray)).bind fun r0 =>
  bif (!r0.2) then
    some (ByteArray.empty, ByteArray.empty, (1 : Int))
  else
    (idx r0.1 (1 : Int)).bind fun v1 =>
    (num_Whole_Sign (v1.1.1, (v1.1.2.1, ()))).bind fun r2 =>
    bif (r2 == (0 : Int)) then
      some (ByteArray.empty, ByteArray.empty, (9 : Int))
    else
      (idx r0.1 (0 : Int)).bind fun v3 =>
      (idx r0.1 (1 : Int)).bind fun v4 =>
      (num_Whole_DivMod (v3.1.1, (v3.1.2.1, ())) (v4.1.1, (v4.1.2.1, ()))).bind fun r5 =>
      (num_Whole_Long (r5.1.1, (r5.1.2.1, ()))).bind fun r6 =>
      bif r6 then
        some (ByteArray.empty, ByteArray.empty, (3 : Int))
      else
        (num_Whole_Text (r5.1.1, (r5.1.2.1, ()))).bind fun r7 =>
        (num_Whole_Text (r5.2.1, (r5.2.2.1, ()))).bind fun r8 =>
        some (r7, r8, (0 : Int)) := (evI_eq1 T (Go.Abs.look fns) 27 (a, b)).trans (by kernel_rfl)
/- torus/whole.Sign -/
theorem whole_Sign_eq (a : ByteArray) : whole_Sign a =
  (whole_read ([a] : List ByteArray)).bind fun r0 =>
  bif (!r0.2) then
    some (0 : Int)
  else
    (idx r0.1 (0 : Int)).bind fun v1 =>
    (num_Whole_Sign (v1.1.1, (v1.1.2.1, ()))).bind fun r2 =>
    some r2 := (evI_eq1 T (Go.Abs.look fns) 28 a).trans (by kernel_rfl)
/- torus/whole.Bezout -/
theorem whole_Bezout_eq (a : ByteArray) (b : ByteArray) : whole_Bezout a b =
  (whole_read ([a, b] : List ByteArray)).bind fun r0 =>
  bif (!r0.2) then
    some (ByteArray.empty, ByteArray.empty, ByteArray.empty, (1 : Int))
  else
    (idx r0.1 (0 : Int)).bind fun v1 =>
    (idx r0.1 (1 : Int)).bind fun v2 =>
    (num_Whole_Sign (v2.1.1, (v2.1.2.1, ()))).bind fun r3 =>
    bif (r3 == (0 : Int)) then
      (num_Whole_Abs (v1.1.1, (v1.1.2.1, ()))).bind fun r4 =>
      (num_Whole_Text (r4.1, (r4.2.1, ()))).bind fun r5 =>
      (num_Whole_Sign (v1.1.1, (v1.1.2.1, ()))).bind fun r6 =>
      (whole_Of r6).bind fun r7 =>
      some (r5, r7, (bs [48]), (0 : Int))
    else
      (num_Of (1 : Int)).bind fun r8 =>
      (num_Of (0 : Int)).bind fun r9 =>
      whole_Bezout_L0 v1.1.1 v1.1.2.1 v2.1.1 v2.1.2.1 v1.1.1 v1.1.2.1 v2.1.1 v2.1.2.1 r8.1 r8.2.1 r9.1 r9.2.1 := (evI_eq1 T (Go.Abs.look fns) 29 (a, b)).trans (by kernel_rfl)
theorem whole_Bezout_L0_eq (first : Bool) (first2 : List Int) (second : Bool) (second2 : List Int) (r : Bool) (r2 : List Int) (s : Bool) (s2 : List Int) (k : Bool) (k2 : List Int) (m : Bool) (m2 : List Int) : whole_Bezout_L0 first first2 second second2 r r2 s s2 k k2 m m2 =
  (num_Whole_Sign (s, (s2, ()))).bind fun r0 =>
  bif (r0 != (0 : Int)) then
    (num_Whole_DivMod (r, (r2, ())) (s, (s2, ()))).bind fun r1 =>
    (num_Whole_Mul (r1.1.1, (r1.1.2.1, ())) (m, (m2, ()))).bind fun r2 =>
    (num_Whole_Sub (k, (k2, ())) (r2.1, (r2.2.1, ()))).bind fun r3 =>
    whole_Bezout_L0 first first2 second second2 s s2 r1.2.1 r1.2.2.1 m m2 r3.1 r3.2.1
  else
    (num_Whole_Sign (r, (r2, ()))).bind fun r4 =>
    bif (decide (r4 < (0 : Int))) then
      (num_Whole_Neg (r, (r2, ()))).bind fun r5 =>
      (num_Whole_Neg (k, (k2, ()))).bind fun r6 =>
      (num_Whole_Abs (second, (second2, ()))).bind fun r7 =>
      (num_Whole_DivMod (r7.1, (r7.2.1, ())) (r5.1, (r5.2.1, ()))).bind fun r8 =>
      (num_Whole_DivMod (r6.1, (r6.2.1, ())) (r8.1.1, (r8.1.2.1, ()))).bind fun r9 =>
      (num_Whole_Mul (first, (first2, ())) (r9.2.1, (r9.2.2.1, ()))).bind fun r10 =>
      (num_Whole_Sub (r5.1, (r5.2.1, ())) (r10.1, (r10.2.1, ()))).bind fun r11 =>
      (num_Whole_DivMod (r11.1, (r11.2.1, ())) (second, (second2, ()))).bind fun r12 =>
      (num_Whole_Text (r5.1, (r5.2.1, ()))).bind fun r13 =>
      (num_Whole_Text (r9.2.1, (r9.2.2.1, ()))).bind fun r14 =>
      (num_Whole_Text (r12.1.1, (r12.1.2.1, ()))).bind fun r15 =>
      some (r13, r14, r15, (0 : Int))
    else
      (num_Whole_Abs (second, (second2, ()))).bind fun r16 =>
      (num_Whole_DivMod (r16.1, (r16.2.1, ())) (r, (r2, ()))).bind fun r17 =>
      (num_Whole_DivMod (k, (k2, ())) (r17.1.1, (r17.1.2.1, ()))).bind fun r18 =>
      (num_Whole_Mul (first, (first2, ())) (r18.2.1, (r18.2.2.1, ()))).bind fun r19 =>
      (num_Whole_Sub (r, (r2, ())) (r19.1, (r19.2.1, ()))).bind fun r20 =>
      (num_Whole_DivMod (r20.1, (r20.2.1, ())) (second, (second2, ()))).bind fun r21 =>
      (num_Whole_Text (r, (r2, ()))).bind fun r22 =>
      (num_Whole_Text (r18.2.1, (r18.2.2.1, ()))).bind fun r23 =>
      (num_Whole_Text (r21.1.1, (r21.1.2.1, ()))).bind fun r24 =>
      some (r22, r23, r24, (0 : Int)) := (LL_eq T (Go.Abs.look fns) 29 0 _).trans (by kernel_rfl)
/- torus/whole.Gcd -/
theorem whole_Gcd_eq (a : ByteArray) (b : ByteArray) : whole_Gcd a b =
  (whole_read ([a, b] : List ByteArray)).bind fun r0 =>
  bif (!r0.2) then
    some (ByteArray.empty, (1 : Int))
  else
    (idx r0.1 (0 : Int)).bind fun v1 =>
    (idx r0.1 (1 : Int)).bind fun v2 =>
    (num_Whole_Gcd (v1.1.1, (v1.1.2.1, ())) (v2.1.1, (v2.1.2.1, ()))).bind fun r3 =>
    (num_Whole_Text (r3.1, (r3.2.1, ()))).bind fun r4 =>
    some (r4, (0 : Int)) := (evI_eq1 T (Go.Abs.look fns) 30 (a, b)).trans (by kernel_rfl)
/- torus/whole.Int64 -/
theorem whole_Int64_eq (a : ByteArray) : whole_Int64 a =
  (whole_read ([a] : List ByteArray)).bind fun r0 =>
  bif (!r0.2) then
    some ((0 : Int), false)
  else
    (idx r0.1 (0 : Int)).bind fun v1 =>
    (num_Whole_Small (v1.1.1, (v1.1.2.1, ()))).bind fun r2 =>
    some (r2.1, r2.2) := (evI_eq1 T (Go.Abs.look fns) 31 a).trans (by kernel_rfl)
/- torus/whole.Valid -/
theorem whole_Valid_eq (a : ByteArray) : whole_Valid a =
  (whole_read ([a] : List ByteArray)).bind fun r0 =>
  some r0.2 := (evI_eq1 T (Go.Abs.look fns) 33 a).trans (by kernel_rfl)
/- torus/whole.Of -/
theorem whole_Of_eq (n : Int) : whole_Of n =
  (num_Of n).bind fun r0 =>
  (num_Whole_Text (r0.1, (r0.2.1, ()))).bind fun r1 =>
  some r1 := (evI_eq1 T (Go.Abs.look fns) 39 n).trans (by kernel_rfl)
/- torus/whole.Add -/
theorem whole_Add_eq (a : ByteArray) (b : ByteArray) : whole_Add a b =
  (whole_read ([a, b] : List ByteArray)).bind fun r0 =>
  bif (!r0.2) then
    some (ByteArray.empty, (1 : Int))
  else
    (idx r0.1 (0 : Int)).bind fun v1 =>
    (idx r0.1 (1 : Int)).bind fun v2 =>
    (num_Whole_Add (v1.1.1, (v1.1.2.1, ())) (v2.1.1, (v2.1.2.1, ()))).bind fun r3 =>
    (whole_result (r3.1, (r3.2.1, ()))).bind fun r4 =>
    some (r4.1, r4.2) := (evI_eq1 T (Go.Abs.look fns) 41 (a, b)).trans (by kernel_rfl)
/- torus/whole.Mul -/
theorem whole_Mul_eq (a : ByteArray) (b : ByteArray) : whole_Mul a b =
  (whole_read ([a, b] : List ByteArray)).bind fun r0 =>
  bif (!r0.2) then
    some (ByteArray.empty, (1 : Int))
  else
    (idx r0.1 (0 : Int)).bind fun v1 =>
    (idx r0.1 (1 : Int)).bind fun v2 =>
    (num_Whole_Mul (v1.1.1, (v1.1.2.1, ())) (v2.1.1, (v2.1.2.1, ()))).bind fun r3 =>
    (whole_result (r3.1, (r3.2.1, ()))).bind fun r4 =>
    some (r4.1, r4.2) := (evI_eq1 T (Go.Abs.look fns) 44 (a, b)).trans (by kernel_rfl)
/- torus/whole.read -/
theorem whole_read_eq (l : List ByteArray) : whole_read l =
  let e0 : List ((Bool × (List Int) × Unit) × ByteArray × Unit) := ([] : List ((Bool × (List Int) × Unit) × ByteArray × Unit))
  bif (okMake 48 (0 : Int) (l.length : Int)) then
  let e1 : List ((Bool × (List Int) × Unit) × ByteArray × Unit) := ([] : List ((Bool × (List Int) × Unit) × ByteArray × Unit))
  whole_read_L0 l l (l.length : Int) (0 : Int) e1
  else none := (evI_eq1 T (Go.Abs.look fns) 49 l).trans (by kernel_rfl)
theorem whole_read_L0_eq (l : List ByteArray) (t : List ByteArray) (t2 : Int) (t3 : Int) (out : List ((Bool × (List Int) × Unit) × ByteArray × Unit)) : whole_read_L0 l t t2 t3 out =
  bif (decide (t3 < t2)) then
    (idx t t3).bind fun v0 =>
    (num_Read v0).bind fun r1 =>
    bif (!r1.2) then
      let e2 : List ((Bool × (List Int) × Unit) × ByteArray × Unit) := ([] : List ((Bool × (List Int) × Unit) × ByteArray × Unit))
      some (e2, false)
    else
      (num_Whole_Long (r1.1.1, (r1.1.2.1, ()))).bind fun r3 =>
      bif r3 then
        let e4 : List ((Bool × (List Int) × Unit) × ByteArray × Unit) := ([] : List ((Bool × (List Int) × Unit) × ByteArray × Unit))
        some (e4, false)
      else
        let e5 : List ((Bool × (List Int) × Unit) × ByteArray × Unit) := ([((r1.1.1, (r1.1.2.1, ())), (v0, ()))] : List ((Bool × (List Int) × Unit) × ByteArray × Unit))
        bif (okApp 48 3 out.length e5.length) then
        whole_read_L0 l t t2 (IntKind.wrap .i64 (t3 + (1 : Int))) (out ++ e5)
        else none
  else
    bif (inCut out.length (0 : Int) (l.length : Int) && decide ((l.length : Int) ≤ (l.length : Int)) && decide ((l.length : Int) ≤ (out.length : Int))) then
    some ((cut out (0 : Int) (l.length : Int)), true)
    else none := (LL_eq T (Go.Abs.look fns) 49 0 _).trans (by kernel_rfl)
/- torus/whole.result -/
theorem whole_result_eq (w : Bool × (List Int) × Unit) : whole_result w =
  (num_Whole_Long (w.1, (w.2.1, ()))).bind fun r0 =>
  bif r0 then
    some (ByteArray.empty, (3 : Int))
  else
    (num_Whole_Text (w.1, (w.2.1, ()))).bind fun r1 =>
    some (r1, (0 : Int)) := (evI_eq1 T (Go.Abs.look fns) 59 w).trans (by kernel_rfl)
end Go.Proofs.Ytlpkaimkmfgpiaa.Ev
