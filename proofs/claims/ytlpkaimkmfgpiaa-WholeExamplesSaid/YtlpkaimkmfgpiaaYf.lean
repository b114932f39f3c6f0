/- YtlpkaimkmfgpiaaYf: a part of the proof (YtlpkaimkmfgpiaaEqtorusref02). No condition. -/
import Derived.Test.YtlpkaimkmfgpiaaYd
-- Written by a program of this claim; Lean checks it.
set_option linter.unusedVariables false
set_option maxRecDepth 100000
namespace Go.Proofs.Ytlpkaimkmfgpiaa.Ev
open Go.Abs
/- torus/torusref02.Pow -/
theorem torusref02_Pow_eq (a : ByteArray) (n : Int) : torusref02_Pow a n =
  (torusref02_Is a).bind fun r0 =>
  bif (!r0) then
    some (ByteArray.empty, (1 : Int))
  else
    bif (decide (n < (0 : Int))) then
      some (ByteArray.empty, (1 : Int))
    else
      bif (n == (0 : Int)) then
        some ((bs [49]), (0 : Int))
      else
        bif (a.toList == (bs [48]).toList) then
          some (a, (0 : Int))
        else
          bif (a.toList == (bs [49]).toList) then
            some (a, (0 : Int))
          else
            bif (a.toList == (bs [45, 49]).toList) then
              bif ((n.tmod (2 : Int)) == (1 : Int)) then
                some (a, (0 : Int))
              else
                bif (a.toList == (bs [45, 49]).toList) then
                  some ((bs [49]), (0 : Int))
                else
                  torusref02_Pow_L0 a n (bs [49]) (0 : Int)
            else
              bif (a.toList == (bs [45, 49]).toList) then
                some ((bs [49]), (0 : Int))
              else
                torusref02_Pow_L0 a n (bs [49]) (0 : Int) := (evI_eq1 T (Go.Abs.look fns) 12 (a, n)).trans (by kernel_rfl)
theorem torusref02_Pow_L0_eq (a : ByteArray) (n : Int) (out : ByteArray) (i : Int) : torusref02_Pow_L0 a n out i =
  bif (decide (i < n)) then
    (torusref02_Times out a).bind fun r0 =>
    (torusref02_Long r0).bind fun r1 =>
    bif r1 then
      some (ByteArray.empty, (3 : Int))
    else
      torusref02_Pow_L0 a n r0 (IntKind.wrap .i64 (i + (1 : Int)))
  else
    some (out, (0 : Int)) := (LL_eq T (Go.Abs.look fns) 12 0 _).trans (by kernel_rfl)
/- torus/torusref02.Copy -/
theorem torusref02_Copy_eq (l : List ByteArray) : torusref02_Copy l =
  bif (okApp 16 1 0 l.length) then
  some (([] : List ByteArray) ++ l)
  else none := (evI_eq1 T (Go.Abs.look fns) 14 l).trans (by kernel_rfl)
/- torus/torusref02.Sum -/
theorem torusref02_Sum_eq (l : List ByteArray) : torusref02_Sum l =
  torusref02_Sum_L0 l (bs [48]) (0 : Int) := (evI_eq1 T (Go.Abs.look fns) 16 l).trans (by kernel_rfl)
theorem torusref02_Sum_L0_eq (l : List ByteArray) (out : ByteArray) (i : Int) : torusref02_Sum_L0 l out i =
  bif (decide (i < (l.length : Int))) then
    (idx l i).bind fun v0 =>
    (torusref02_Is v0).bind fun r1 =>
    bif (!r1) then
      some (ByteArray.empty, (1 : Int))
    else
      (idx l i).bind fun v2 =>
      (torusref02_Plus out v2).bind fun r3 =>
      torusref02_Sum_L0 l r3 (IntKind.wrap .i64 (i + (1 : Int)))
  else
    (torusref02_limited out).bind fun r4 =>
    some (r4.1, r4.2) := (LL_eq T (Go.Abs.look fns) 16 0 _).trans (by kernel_rfl)
/- torus/torusref02.Same -/
theorem torusref02_Same_eq (a : List ByteArray) (b : List ByteArray) : torusref02_Same a b =
  bif ((a.length : Int) != (b.length : Int)) then
    some false
  else
    torusref02_Same_L0 a b (0 : Int) := (evI_eq1 T (Go.Abs.look fns) 17 (a, b)).trans (by kernel_rfl)
theorem torusref02_Same_L0_eq (a : List ByteArray) (b : List ByteArray) (i : Int) : torusref02_Same_L0 a b i =
  bif (decide (i < (a.length : Int))) then
    (idx a i).bind fun v0 =>
    (idx b i).bind fun v1 =>
    bif (!(v0.toList == v1.toList)) then
      some false
    else
      torusref02_Same_L0 a b (IntKind.wrap .i64 (i + (1 : Int)))
  else
    some true := (LL_eq T (Go.Abs.look fns) 17 0 _).trans (by kernel_rfl)
/- torus/torusref02.Fit -/
theorem torusref02_Fit_eq (s : ByteArray) (most : Int) : torusref02_Fit s most =
  torusref02_Fit_L0 s most (0 : Int) ([] : List Int) := (evI_eq1 T (Go.Abs.look fns) 18 (s, most)).trans (by kernel_rfl)
theorem torusref02_Fit_L0_eq (s : ByteArray) (most : Int) (i : Int) (d : List Int) : torusref02_Fit_L0 s most i d =
  bif (decide (i < (s.size : Int))) then
    bif (decide ((d.length : Int) < most)) then
      (sidx s i).bind fun v0 =>
      bif (decide (v0 ≥ (48 : Int))) then
        (sidx s i).bind fun v1 =>
        bif (decide (v1 ≤ (57 : Int))) then
          (sidx s i).bind fun v2 =>
          let e3 : Int := (IntKind.wrap .i64 ((IntKind.wrap .i64 v2) - (48 : Int)))
          bif (okApp 8 1 d.length 1) then
          torusref02_Fit_L0 s most (IntKind.wrap .i64 (i + (1 : Int))) (d ++ ([e3] : List Int))
          else none
        else
          torusref02_Fit_L0 s most (IntKind.wrap .i64 (i + (1 : Int))) d
      else
        torusref02_Fit_L0 s most (IntKind.wrap .i64 (i + (1 : Int))) d
    else
      bif (decide ((s.size : Int) > (0 : Int))) then
        (sidx s (0 : Int)).bind fun v4 =>
        (torusref02_text (v4 == (45 : Int)) d).bind fun r5 =>
        some r5
      else
        (torusref02_text false d).bind fun r6 =>
        some r6
  else
    bif (decide ((s.size : Int) > (0 : Int))) then
      (sidx s (0 : Int)).bind fun v7 =>
      (torusref02_text (v7 == (45 : Int)) d).bind fun r8 =>
      some r8
    else
      (torusref02_text false d).bind fun r9 =>
      some r9 := (LL_eq T (Go.Abs.look fns) 18 0 _).trans (by kernel_rfl)
/- torus/torusref02.Int64 -/
theorem torusref02_Int64_eq (a : ByteArray) : torusref02_Int64 a =
  (torusref02_Is a).bind fun r0 =>
  bif (!r0) then
    some ((0 : Int), false)
  else
    (torusref02_Number (9223372036854775807 : Int)).bind fun r1 =>
    (torusref02_Compare a r1).bind fun r2 =>
    bif (decide (r2 > (0 : Int))) then
      some ((0 : Int), false)
    else
      (torusref02_Number (-9223372036854775808 : Int)).bind fun r3 =>
      (torusref02_Compare a r3).bind fun r4 =>
      bif (decide (r4 < (0 : Int))) then
        some ((0 : Int), false)
      else
        torusref02_Int64_L0 a (0 : Int) (0 : Int) := (evI_eq1 T (Go.Abs.look fns) 32 a).trans (by kernel_rfl)
theorem torusref02_Int64_L0_eq (a : ByteArray) (n : Int) (i : Int) : torusref02_Int64_L0 a n i =
  bif (decide (i < (a.size : Int))) then
    (sidx a i).bind fun v0 =>
    bif (v0 != (45 : Int)) then
      (sidx a i).bind fun v1 =>
      let e2 : Int := (IntKind.wrap .i64 (IntKind.wrap .u8 (v1 - (48 : Int))))
      let e3 : Int := (IntKind.wrap .i64 ((IntKind.wrap .i64 ((10 : Int) * n)) - e2))
      torusref02_Int64_L0 a e3 (IntKind.wrap .i64 (i + (1 : Int)))
    else
      torusref02_Int64_L0 a n (IntKind.wrap .i64 (i + (1 : Int)))
  else
    (sidx a (0 : Int)).bind fun v4 =>
    bif (v4 != (45 : Int)) then
      some ((IntKind.wrap .i64 (0 - n)), true)
    else
      some (n, true) := (LL_eq T (Go.Abs.look fns) 32 0 _).trans (by kernel_rfl)
/- torus/torusref02.Is -/
theorem torusref02_Is_eq (a : ByteArray) : torusref02_Is a =
  (torusref02_Long a).bind fun r0 =>
  bif (!r0) then
    (torusref02_Valid a).bind fun r1 =>
    some r1
  else
    some false := (evI_eq1 T (Go.Abs.look fns) 34 a).trans (by kernel_rfl)
/- torus/torusref02.Sign -/
theorem torusref02_Sign_eq (a : ByteArray) : torusref02_Sign a =
  (torusref02_Is a).bind fun r0 =>
  bif (!r0) then
    some (0 : Int)
  else
    (torusref02_Compare a (bs [48])).bind fun r1 =>
    some r1 := (evI_eq1 T (Go.Abs.look fns) 35 a).trans (by kernel_rfl)
/- torus/torusref02.Cmp -/
theorem torusref02_Cmp_eq (a : ByteArray) (b : ByteArray) : torusref02_Cmp a b =
  (torusref02_Is a).bind fun r0 =>
  bif (!r0) then
    some (0 : Int)
  else
    (torusref02_Is b).bind fun r1 =>
    bif (!r1) then
      some (0 : Int)
    else
      (torusref02_Compare a b).bind fun r2 =>
      some r2 := (evI_eq1 T (Go.Abs.look fns) 36 (a, b)).trans (by kernel_rfl)
/- torus/torusref02.Neg -/
theorem torusref02_Neg_eq (a : ByteArray) : torusref02_Neg a =
  (torusref02_Is a).bind fun r0 =>
  bif (!r0) then
    some ByteArray.empty
  else
    (torusref02_Opposite a).bind fun r1 =>
    some r1 := (evI_eq1 T (Go.Abs.look fns) 37 a).trans (by kernel_rfl)
/- torus/torusref02.Abs -/
theorem torusref02_Abs_eq (a : ByteArray) : torusref02_Abs a =
  (torusref02_Is a).bind fun r0 =>
  bif (!r0) then
    some ByteArray.empty
  else
    (torusref02_Positive a).bind fun r1 =>
    some r1 := (evI_eq1 T (Go.Abs.look fns) 38 a).trans (by kernel_rfl)
/- torus/torusref02.Number -/
theorem torusref02_Number_eq (n : Int) : torusref02_Number n =
  bif (decide (n < (0 : Int))) then
    let e0 : List Int := ([(IntKind.wrap .i64 (0 - (n.tmod (10 : Int))))] : List Int)
    bif (okApp 8 1 0 e0.length) then
    let e1 : Int := (IntKind.wrap .i64 (0 - (IntKind.wrap .i64 (n.tdiv (10 : Int)))))
    torusref02_Number_L0 e1 (([] : List Int) ++ e0)
    else none
  else
    torusref02_Number_L1 n ([] : List Int) := (evI_eq1 T (Go.Abs.look fns) 40 n).trans (by kernel_rfl)
theorem torusref02_Number_L0_eq (q : Int) (d : List Int) : torusref02_Number_L0 q d =
  bif (decide (q > (0 : Int))) then
    bif (okApp 8 1 d.length 1) then
    torusref02_Number_L0 (IntKind.wrap .i64 (q.tdiv (10 : Int))) (d ++ ([(q.tmod (10 : Int))] : List Int))
    else none
  else
    (torusref02_text true d).bind fun r0 =>
    some r0 := (LL_eq T (Go.Abs.look fns) 40 0 _).trans (by kernel_rfl)
theorem torusref02_Number_L1_eq (n : Int) (d : List Int) : torusref02_Number_L1 n d =
  bif (decide (n > (0 : Int))) then
    bif (okApp 8 1 d.length 1) then
    torusref02_Number_L1 (IntKind.wrap .i64 (n.tdiv (10 : Int))) (d ++ ([(n.tmod (10 : Int))] : List Int))
    else none
  else
    (torusref02_text false d).bind fun r0 =>
    some r0 := (LL_eq T (Go.Abs.look fns) 40 1 _).trans (by kernel_rfl)
/- torus/torusref02.Add -/
theorem torusref02_Add_eq (a : ByteArray) (b : ByteArray) : torusref02_Add a b =
  (torusref02_Is a).bind fun r0 =>
  bif (!r0) then
    some (ByteArray.empty, (1 : Int))
  else
    (torusref02_Is b).bind fun r1 =>
    bif (!r1) then
      some (ByteArray.empty, (1 : Int))
    else
      (torusref02_Plus a b).bind fun r2 =>
      (torusref02_limited r2).bind fun r3 =>
      some (r3.1, r3.2) := (evI_eq1 T (Go.Abs.look fns) 42 (a, b)).trans (by kernel_rfl)
/- torus/torusref02.Sub -/
theorem torusref02_Sub_eq (a : ByteArray) (b : ByteArray) : torusref02_Sub a b =
  (torusref02_Is a).bind fun r0 =>
  bif (!r0) then
    some (ByteArray.empty, (1 : Int))
  else
    (torusref02_Is b).bind fun r1 =>
    bif (!r1) then
      some (ByteArray.empty, (1 : Int))
    else
      (torusref02_Minus a b).bind fun r2 =>
      (torusref02_limited r2).bind fun r3 =>
      some (r3.1, r3.2) := (evI_eq1 T (Go.Abs.look fns) 43 (a, b)).trans (by kernel_rfl)
/- torus/torusref02.Mul -/
theorem torusref02_Mul_eq (a : ByteArray) (b : ByteArray) : torusref02_Mul a b =
  (torusref02_Is a).bind fun r0 =>
  bif (!r0) then
    some (ByteArray.empty, (1 : Int))
  else
    (torusref02_Is b).bind fun r1 =>
    bif (!r1) then
      some (ByteArray.empty, (1 : Int))
    else
      (torusref02_Times a b).bind fun r2 =>
      (torusref02_limited r2).bind fun r3 =>
      some (r3.1, r3.2) := (evI_eq1 T (Go.Abs.look fns) 45 (a, b)).trans (by kernel_rfl)
/- torus/torusref02.DivMod -/
theorem torusref02_DivMod_eq (a : ByteArray) (b : ByteArray) : torusref02_DivMod a b =
  (torusref02_Is a).bind fun r0 =>
  bif (!r0) then
    some (ByteArray.empty, ByteArray.empty, (1 : Int))
  else
    (torusref02_Is b).bind fun r1 =>
    bif (!r1) then
      some (ByteArray.empty, ByteArray.empty, (1 : Int))
    else
      bif (b.toList == (bs [48]).toList) then
        some (ByteArray.empty, ByteArray.empty, (9 : Int))
      else
        (torusref02_Quotient a b).bind fun r2 =>
        (torusref02_Long r2.1).bind fun r3 =>
        bif r3 then
          some (ByteArray.empty, ByteArray.empty, (3 : Int))
        else
          some (r2.1, r2.2, (0 : Int)) := (evI_eq1 T (Go.Abs.look fns) 46 (a, b)).trans (by kernel_rfl)
/- torus/torusref02.Times -/
theorem torusref02_Times_eq (a : ByteArray) (b : ByteArray) : torusref02_Times a b =
  (torusref02_short a).bind fun r0 =>
  (torusref02_short b).bind fun r1 =>
  bif r0.2 then
    bif r1.2 then
      (torusref02_Number (IntKind.wrap .i64 (r0.1 * r1.1))).bind fun r2 =>
      some r2
    else
      (torusref02_digits a).bind fun r3 =>
      (torusref02_digits b).bind fun r4 =>
      let e5 : Int := (IntKind.wrap .i64 ((r3.2.length : Int) + (r4.2.length : Int)))
      bif (okMake 8 (IntKind.wrap .i64 (e5 + (1 : Int))) (IntKind.wrap .i64 (e5 + (1 : Int)))) then
      let e6 : List Int := (List.replicate (IntKind.wrap .i64 (e5 + (1 : Int))).toNat (0 : Int))
      torusref02_Times_L0 r3.1 r3.2 r4.1 r4.2 (0 : Int) e6
      else none
  else
    (torusref02_digits a).bind fun r7 =>
    (torusref02_digits b).bind fun r8 =>
    let e9 : Int := (IntKind.wrap .i64 ((r7.2.length : Int) + (r8.2.length : Int)))
    bif (okMake 8 (IntKind.wrap .i64 (e9 + (1 : Int))) (IntKind.wrap .i64 (e9 + (1 : Int)))) then
    let e10 : List Int := (List.replicate (IntKind.wrap .i64 (e9 + (1 : Int))).toNat (0 : Int))
    torusref02_Times_L0 r7.1 r7.2 r8.1 r8.2 (0 : Int) e10
    else none := (evI_eq1 T (Go.Abs.look fns) 56 (a, b)).trans (by kernel_rfl)
theorem torusref02_Times_L0_eq (p : Bool) (x : List Int) (q : Bool) (y : List Int) (i : Int) (out : List Int) : torusref02_Times_L0 p x q y i out =
  bif (decide (i < (x.length : Int))) then
    torusref02_Times_L1 p x q y i (0 : Int) out
  else
    torusref02_Times_L2 p q (0 : Int) out := (LL_eq T (Go.Abs.look fns) 56 0 _).trans (by kernel_rfl)
theorem torusref02_Times_L1_eq (p : Bool) (x : List Int) (q : Bool) (y : List Int) (i : Int) (k : Int) (out : List Int) : torusref02_Times_L1 p x q y i k out =
  bif (decide (k < (y.length : Int))) then
    (idx out (IntKind.wrap .i64 (i + k))).bind fun _ =>
    (out[(IntKind.wrap .i64 (i + k)).toNat]?).bind fun v0 =>
    (idx x i).bind fun v1 =>
    (idx y k).bind fun v2 =>
    let e3 : Int := (IntKind.wrap .i64 (v0 + (IntKind.wrap .i64 (v1 * v2))))
    (idx out (IntKind.wrap .i64 (i + k))).bind fun _ =>
    (out[(IntKind.wrap .i64 (i + k)).toNat]?).bind fun v4 =>
    torusref02_Times_L1 p x q y i (IntKind.wrap .i64 (k + (1 : Int))) (out.set (IntKind.wrap .i64 (i + k)).toNat e3)
  else
    torusref02_Times_L0 p x q y (IntKind.wrap .i64 (i + (1 : Int))) out := (LL_eq T (Go.Abs.look fns) 56 1 _).trans (by kernel_rfl)
theorem torusref02_Times_L2_eq (p : Bool) (q : Bool) (i : Int) (out : List Int) : torusref02_Times_L2 p q i out =
  bif (decide ((IntKind.wrap .i64 (i + (1 : Int))) < (out.length : Int))) then
    (idx out (IntKind.wrap .i64 (i + (1 : Int)))).bind fun _ =>
    (out[(IntKind.wrap .i64 (i + (1 : Int))).toNat]?).bind fun v0 =>
    (idx out i).bind fun _ =>
    (out[i.toNat]?).bind fun v1 =>
    let e2 : Int := (IntKind.wrap .i64 (v0 + (IntKind.wrap .i64 (v1.tdiv (10 : Int)))))
    (idx out (IntKind.wrap .i64 (i + (1 : Int)))).bind fun _ =>
    (out[(IntKind.wrap .i64 (i + (1 : Int))).toNat]?).bind fun v3 =>
    let e4 : List Int := (out.set (IntKind.wrap .i64 (i + (1 : Int))).toNat e2)
    (idx e4 i).bind fun _ =>
    (e4[i.toNat]?).bind fun v5 =>
    (idx e4 i).bind fun _ =>
    (e4[i.toNat]?).bind fun v6 =>
    torusref02_Times_L2 p q (IntKind.wrap .i64 (i + (1 : Int))) (e4.set i.toNat (v5.tmod (10 : Int)))
  else
    (torusref02_text (!(p == q)) out).bind fun r7 =>
    some r7 := (LL_eq T (Go.Abs.look fns) 56 2 _).trans (by kernel_rfl)
/- torus/torusref02.Long -/
theorem torusref02_Long_eq (a : ByteArray) : torusref02_Long a =
  (torusref02_Digits a).bind fun r0 =>
  some (decide (r0 > (1000 : Int))) := (evI_eq1 T (Go.Abs.look fns) 57 a).trans (by kernel_rfl)
/- torus/torusref02.Plus -/
theorem torusref02_Plus_eq (a : ByteArray) (b : ByteArray) : torusref02_Plus a b =
  (torusref02_short a).bind fun r0 =>
  (torusref02_short b).bind fun r1 =>
  bif r0.2 then
    bif r1.2 then
      (torusref02_Number (IntKind.wrap .i64 (r0.1 + r1.1))).bind fun r2 =>
      some r2
    else
      (torusref02_digits a).bind fun r3 =>
      (torusref02_digits b).bind fun r4 =>
      bif (r3.1 == r4.1) then
        (torusref02_sum r3.2 r4.2).bind fun r5 =>
        (torusref02_text r3.1 r5).bind fun r6 =>
        some r6
      else
        (torusref02_size r3.2 r4.2).bind fun r7 =>
        bif (decide (r7 < (0 : Int))) then
          (torusref02_difference r4.2 r3.2).bind fun r8 =>
          (torusref02_text r4.1 r8).bind fun r9 =>
          some r9
        else
          (torusref02_difference r3.2 r4.2).bind fun r10 =>
          (torusref02_text r3.1 r10).bind fun r11 =>
          some r11
  else
    (torusref02_digits a).bind fun r12 =>
    (torusref02_digits b).bind fun r13 =>
    bif (r12.1 == r13.1) then
      (torusref02_sum r12.2 r13.2).bind fun r14 =>
      (torusref02_text r12.1 r14).bind fun r15 =>
      some r15
    else
      (torusref02_size r12.2 r13.2).bind fun r16 =>
      bif (decide (r16 < (0 : Int))) then
        (torusref02_difference r13.2 r12.2).bind fun r17 =>
        (torusref02_text r13.1 r17).bind fun r18 =>
        some r18
      else
        (torusref02_difference r12.2 r13.2).bind fun r19 =>
        (torusref02_text r12.1 r19).bind fun r20 =>
        some r20 := (evI_eq1 T (Go.Abs.look fns) 60 (a, b)).trans (by kernel_rfl)
/- torus/torusref02.limited -/
theorem torusref02_limited_eq (a : ByteArray) : torusref02_limited a =
  (torusref02_Long a).bind fun r0 =>
  bif r0 then
    some (ByteArray.empty, (3 : Int))
  else
    some (a, (0 : Int)) := (evI_eq1 T (Go.Abs.look fns) 61 a).trans (by kernel_rfl)
/- torus/torusref02.text -/
theorem torusref02_text_eq (minus : Bool) (d : List Int) : torusref02_text minus d =
  (torusref02_trim d).bind fun r0 =>
  bif ((r0.length : Int) == (0 : Int)) then
    some (bs [48])
  else
    bif minus then
      bif (okApp 1 1 0 1) then
      let e1 : Int := (IntKind.wrap .i64 ((r0.length : Int) - (1 : Int)))
      torusref02_text_L0 r0 e1 (([] : List Int) ++ ([(45 : Int)] : List Int))
      else none
    else
      let e2 : Int := (IntKind.wrap .i64 ((r0.length : Int) - (1 : Int)))
      torusref02_text_L0 r0 e2 ([] : List Int) := (evI_eq1 T (Go.Abs.look fns) 62 (minus, d)).trans (by kernel_rfl)
theorem torusref02_text_L0_eq (d : List Int) (i : Int) (out : List Int) : torusref02_text_L0 d i out =
  bif (decide (i ≥ (0 : Int))) then
    (idx d i).bind fun v0 =>
    let e1 : Int := (IntKind.wrap .u8 (IntKind.wrap .i64 ((48 : Int) + v0)))
    bif (okApp 1 1 out.length 1) then
    torusref02_text_L0 d (IntKind.wrap .i64 (i - (1 : Int))) (out ++ ([e1] : List Int))
    else none
  else
    some (strOf out) := (LL_eq T (Go.Abs.look fns) 62 0 _).trans (by kernel_rfl)
/- torus/torusref02.Compare -/
theorem torusref02_Compare_eq (a : ByteArray) (b : ByteArray) : torusref02_Compare a b =
  (torusref02_digits a).bind fun r0 =>
  (torusref02_digits b).bind fun r1 =>
  bif (!(r0.1 == r1.1)) then
    bif r0.1 then
      some (-1 : Int)
    else
      some (1 : Int)
  else
    bif r0.1 then
      (torusref02_size r1.2 r0.2).bind fun r2 =>
      some r2
    else
      (torusref02_size r0.2 r1.2).bind fun r3 =>
      some r3 := (evI_eq1 T (Go.Abs.look fns) 69 (a, b)).trans (by kernel_rfl)
/- torus/torusref02.Valid -/
theorem torusref02_Valid_eq (a : ByteArray) : torusref02_Valid a =
  bif (decide ((a.size : Int) > (0 : Int))) then
    (sidx a (0 : Int)).bind fun v0 =>
    bif (v0 == (45 : Int)) then
      bif (inCut a.size (1 : Int) (a.size : Int)) then
      let e1 : Int := ((a.extract (1 : Int).toNat (a.size : Int).toNat).size : Int)
      bif (decide (e1 > (0 : Int))) then
        (sidx (a.extract (1 : Int).toNat (a.size : Int).toNat) (0 : Int)).bind fun v2 =>
        bif (v2 == (48 : Int)) then
          some false
        else
          let e3 : Int := ((a.extract (1 : Int).toNat (a.size : Int).toNat).size : Int)
          bif (e3 == (0 : Int)) then
            some false
          else
            (sidx (a.extract (1 : Int).toNat (a.size : Int).toNat) (0 : Int)).bind fun v4 =>
            bif (v4 == (48 : Int)) then
              let e5 : Int := ((a.extract (1 : Int).toNat (a.size : Int).toNat).size : Int)
              bif (decide (e5 > (1 : Int))) then
                some false
              else
                torusref02_Valid_L0 (a.extract (1 : Int).toNat (a.size : Int).toNat) (0 : Int)
            else
              torusref02_Valid_L0 (a.extract (1 : Int).toNat (a.size : Int).toNat) (0 : Int)
      else
        let e6 : Int := ((a.extract (1 : Int).toNat (a.size : Int).toNat).size : Int)
        bif (e6 == (0 : Int)) then
          some false
        else
          (sidx (a.extract (1 : Int).toNat (a.size : Int).toNat) (0 : Int)).bind fun v7 =>
          bif (v7 == (48 : Int)) then
            let e8 : Int := ((a.extract (1 : Int).toNat (a.size : Int).toNat).size : Int)
            bif (decide (e8 > (1 : Int))) then
              some false
            else
              torusref02_Valid_L0 (a.extract (1 : Int).toNat (a.size : Int).toNat) (0 : Int)
          else
            torusref02_Valid_L0 (a.extract (1 : Int).toNat (a.size : Int).toNat) (0 : Int)
      else none
    else
      bif ((a.size : Int) == (0 : Int)) then
        some false
      else
        (sidx a (0 : Int)).bind fun v9 =>
        bif (v9 == (48 : Int)) then
          bif (decide ((a.size : Int) > (1 : Int))) then
            some false
          else
            torusref02_Valid_L0 a (0 : Int)
        else
          torusref02_Valid_L0 a (0 : Int)
  else
    bif ((a.size : Int) == (0 : Int)) then
      some false
    else
      (sidx a (0 : Int)).bind fun v10 =>
      bif (v10 == (48 : Int)) then
        bif (decide ((a.size : Int) > (1 : Int))) then
          some false
        else
          torusref02_Valid_L0 a (0 : Int)
      else
        torusref02_Valid_L0 a (0 : Int) := (evI_eq1 T (Go.Abs.look fns) 70 a).trans (by kernel_rfl)
theorem torusref02_Valid_L0_eq (s : ByteArray) (i : Int) : torusref02_Valid_L0 s i =
  bif (decide (i < (s.size : Int))) then
    (sidx s i).bind fun v0 =>
    bif (decide (v0 < (48 : Int))) then
      some false
    else
      (sidx s i).bind fun v1 =>
      bif (decide (v1 > (57 : Int))) then
        some false
      else
        torusref02_Valid_L0 s (IntKind.wrap .i64 (i + (1 : Int)))
  else
    some true := (LL_eq T (Go.Abs.look fns) 70 0 _).trans (by kernel_rfl)
/- torus/torusref02.Opposite -/
theorem torusref02_Opposite_eq (a : ByteArray) : torusref02_Opposite a =
  (torusref02_digits a).bind fun r0 =>
  (torusref02_text (!r0.1) r0.2).bind fun r1 =>
  some r1 := (evI_eq1 T (Go.Abs.look fns) 71 a).trans (by kernel_rfl)
/- torus/torusref02.Positive -/
theorem torusref02_Positive_eq (a : ByteArray) : torusref02_Positive a =
  (torusref02_digits a).bind fun r0 =>
  (torusref02_text false r0.2).bind fun r1 =>
  some r1 := (evI_eq1 T (Go.Abs.look fns) 72 a).trans (by kernel_rfl)
/- torus/torusref02.Minus -/
theorem torusref02_Minus_eq (a : ByteArray) (b : ByteArray) : torusref02_Minus a b =
  (torusref02_Opposite b).bind fun r0 =>
  (torusref02_Plus a r0).bind fun r1 =>
  some r1 := (evI_eq1 T (Go.Abs.look fns) 73 (a, b)).trans (by kernel_rfl)
/- torus/torusref02.Quotient -/
theorem torusref02_Quotient_eq (a : ByteArray) (b : ByteArray) : torusref02_Quotient a b =
  (torusref02_short a).bind fun r0 =>
  (torusref02_short b).bind fun r1 =>
  bif r0.2 then
    bif r1.2 then
      bif (r1.1 == 0) then none else
      bif (r1.1 == 0) then none else
      bif ((r0.1.tmod r1.1) != (0 : Int)) then
        bif (!((decide ((r0.1.tmod r1.1) < (0 : Int))) == (decide (r1.1 < (0 : Int))))) then
          let e2 : Int := (IntKind.wrap .i64 ((IntKind.wrap .i64 (r0.1.tdiv r1.1)) - (1 : Int)))
          (torusref02_Number e2).bind fun r3 =>
          (torusref02_Number (IntKind.wrap .i64 ((r0.1.tmod r1.1) + r1.1))).bind fun r4 =>
          some (r3, r4)
        else
          (torusref02_Number (IntKind.wrap .i64 (r0.1.tdiv r1.1))).bind fun r5 =>
          (torusref02_Number (r0.1.tmod r1.1)).bind fun r6 =>
          some (r5, r6)
      else
        (torusref02_Number (IntKind.wrap .i64 (r0.1.tdiv r1.1))).bind fun r7 =>
        (torusref02_Number (r0.1.tmod r1.1)).bind fun r8 =>
        some (r7, r8)
    else
      (torusref02_digits a).bind fun r9 =>
      (torusref02_digits b).bind fun r10 =>
      let e11 : Int := (IntKind.wrap .i64 ((r10.2.length : Int) - (1 : Int)))
      let e12 : Int := (bif decide (e11 > (0 : Int)) then e11 else (0 : Int))
      let e13 : Int := (bif decide ((IntKind.wrap .i64 ((r9.2.length : Int) - e12)) > (0 : Int)) then (IntKind.wrap .i64 ((r9.2.length : Int) - e12)) else (0 : Int))
      bif (inCut r9.2.length e13 (r9.2.length : Int)) then
      bif (okApp 8 1 0 (cut r9.2 e13 (r9.2.length : Int)).length) then
      let e14 : List Int := (([] : List Int) ++ (cut r9.2 e13 (r9.2.length : Int)))
      (torusref02_trim e14).bind fun r15 =>
      torusref02_Quotient_L0 b r9.1 r9.2 r10.1 r10.2 r15 (IntKind.wrap .i64 (e13 - (1 : Int))) ([] : List Int)
      else none
      else none
  else
    (torusref02_digits a).bind fun r16 =>
    (torusref02_digits b).bind fun r17 =>
    let e18 : Int := (IntKind.wrap .i64 ((r17.2.length : Int) - (1 : Int)))
    let e19 : Int := (bif decide (e18 > (0 : Int)) then e18 else (0 : Int))
    let e20 : Int := (bif decide ((IntKind.wrap .i64 ((r16.2.length : Int) - e19)) > (0 : Int)) then (IntKind.wrap .i64 ((r16.2.length : Int) - e19)) else (0 : Int))
    bif (inCut r16.2.length e20 (r16.2.length : Int)) then
    bif (okApp 8 1 0 (cut r16.2 e20 (r16.2.length : Int)).length) then
    let e21 : List Int := (([] : List Int) ++ (cut r16.2 e20 (r16.2.length : Int)))
    (torusref02_trim e21).bind fun r22 =>
    torusref02_Quotient_L0 b r16.1 r16.2 r17.1 r17.2 r22 (IntKind.wrap .i64 (e20 - (1 : Int))) ([] : List Int)
    else none
    else none := (evI_eq1 T (Go.Abs.look fns) 74 (a, b)).trans (by kernel_rfl)
theorem torusref02_Quotient_L0_eq (b : ByteArray) (p : Bool) (x : List Int) (s : Bool) (y : List Int) (r : List Int) (i : Int) (q : List Int) : torusref02_Quotient_L0 b p x s y r i q =
  bif (decide (i ≥ (0 : Int))) then
    (idx x i).bind fun v0 =>
    bif (okApp 8 1 1 r.length) then
    (torusref02_trim (([v0] : List Int) ++ r)).bind fun r1 =>
    torusref02_Quotient_L1 b p x s y r1 i (0 : Int) q
    else none
  else
    torusref02_Quotient_L2 b p s r (0 : Int) q := (LL_eq T (Go.Abs.look fns) 74 0 _).trans (by kernel_rfl)
theorem torusref02_Quotient_L1_eq (b : ByteArray) (p : Bool) (x : List Int) (s : Bool) (y : List Int) (r : List Int) (i : Int) (k : Int) (q : List Int) : torusref02_Quotient_L1 b p x s y r i k q =
  (torusref02_size r y).bind fun r0 =>
  bif (decide (r0 ≥ (0 : Int))) then
    (torusref02_difference r y).bind fun r1 =>
    torusref02_Quotient_L1 b p x s y r1 i (IntKind.wrap .i64 (k + (1 : Int))) q
  else
    bif (okApp 8 1 q.length 1) then
    torusref02_Quotient_L0 b p x s y r (IntKind.wrap .i64 (i - (1 : Int))) (q ++ ([k] : List Int))
    else none := (LL_eq T (Go.Abs.look fns) 74 1 _).trans (by kernel_rfl)
theorem torusref02_Quotient_L2_eq (b : ByteArray) (p : Bool) (s : Bool) (r : List Int) (i : Int) (q : List Int) : torusref02_Quotient_L2 b p s r i q =
  let e0 : Int := (IntKind.wrap .i64 ((q.length : Int).tdiv (2 : Int)))
  bif (decide (i < e0)) then
    let e1 : Int := (IntKind.wrap .i64 ((q.length : Int) - (1 : Int)))
    let e2 : Int := (IntKind.wrap .i64 ((q.length : Int) - (1 : Int)))
    (idx q (IntKind.wrap .i64 (e2 - i))).bind fun _ =>
    (q[(IntKind.wrap .i64 (e2 - i)).toNat]?).bind fun v3 =>
    (idx q i).bind fun _ =>
    (q[i.toNat]?).bind fun v4 =>
    (idx q i).bind fun _ =>
    (q[i.toNat]?).bind fun v5 =>
    (idx (q.set i.toNat v3) (IntKind.wrap .i64 (e1 - i))).bind fun _ =>
    ((q.set i.toNat v3)[(IntKind.wrap .i64 (e1 - i)).toNat]?).bind fun v6 =>
    let e7 : List Int := ((q.set i.toNat v3).set (IntKind.wrap .i64 (e1 - i)).toNat v4)
    torusref02_Quotient_L2 b p s r (IntKind.wrap .i64 (i + (1 : Int))) e7
  else
    (torusref02_text (!(p == s)) q).bind fun r8 =>
    (torusref02_text p r).bind fun r9 =>
    bif (!(r9.toList == (bs [48]).toList)) then
      bif (!(p == s)) then
        (torusref02_Minus r8 (bs [49])).bind fun r10 =>
        (torusref02_Plus r9 b).bind fun r11 =>
        some (r10, r11)
      else
        some (r8, r9)
    else
      some (r8, r9) := (LL_eq T (Go.Abs.look fns) 74 2 _).trans (by kernel_rfl)
/- torus/torusref02.Gcd -/
theorem torusref02_Gcd_eq (a : ByteArray) (b : ByteArray) : torusref02_Gcd a b =
  (torusref02_Is a).bind fun r0 =>
  bif (!r0) then
    some (ByteArray.empty, (1 : Int))
  else
    (torusref02_Is b).bind fun r1 =>
    bif (!r1) then
      some (ByteArray.empty, (1 : Int))
    else
      (torusref02_Divisor a b).bind fun r2 =>
      some (r2, (0 : Int)) := (evI_eq1 T (Go.Abs.look fns) 75 (a, b)).trans (by kernel_rfl)
/- torus/torusref02.Bezout -/
theorem torusref02_Bezout_eq (a : ByteArray) (b : ByteArray) : torusref02_Bezout a b =
  (torusref02_Is a).bind fun r0 =>
  bif (!r0) then
    some (ByteArray.empty, ByteArray.empty, ByteArray.empty, (1 : Int))
  else
    (torusref02_Is b).bind fun r1 =>
    bif (!r1) then
      some (ByteArray.empty, ByteArray.empty, ByteArray.empty, (1 : Int))
    else
      (torusref02_Divisor a b).bind fun r2 =>
      bif (b.toList == (bs [48]).toList) then
        (torusref02_Compare a (bs [48])).bind fun r3 =>
        (torusref02_Number r3).bind fun r4 =>
        some (r2, r4, (bs [48]), (0 : Int))
      else
        (torusref02_Positive b).bind fun r5 =>
        (torusref02_Quotient r5 r2).bind fun r6 =>
        (torusref02_Positive b).bind fun r7 =>
        (torusref02_Quotient a r7).bind fun r8 =>
        (torusref02_Positive b).bind fun r9 =>
        torusref02_Bezout_L0 a b r2 r6.1 r8.2 r9 (bs [49]) (bs [48]) := (evI_eq1 T (Go.Abs.look fns) 76 (a, b)).trans (by kernel_rfl)
theorem torusref02_Bezout_L0_eq (a : ByteArray) (b : ByteArray) (g : ByteArray) (period : ByteArray) (r : ByteArray) (s : ByteArray) (x : ByteArray) (y : ByteArray) : torusref02_Bezout_L0 a b g period r s x y =
  bif (!(r.toList == (bs [48]).toList)) then
    (torusref02_Quotient s r).bind fun r0 =>
    (torusref02_Times r0.1 x).bind fun r1 =>
    (torusref02_Minus y r1).bind fun r2 =>
    torusref02_Bezout_L0 a b g period r0.2 r r2 x
  else
    (torusref02_Quotient y period).bind fun r3 =>
    (torusref02_Times a r3.2).bind fun r4 =>
    (torusref02_Minus g r4).bind fun r5 =>
    (torusref02_Quotient r5 b).bind fun r6 =>
    some (g, r3.2, r6.1, (0 : Int)) := (LL_eq T (Go.Abs.look fns) 76 0 _).trans (by kernel_rfl)
/- torus/torusref02.Root -/
theorem torusref02_Root_eq (a : ByteArray) : torusref02_Root a =
  (torusref02_Is a).bind fun r0 =>
  bif (!r0) then
    some (ByteArray.empty, (1 : Int))
  else
    (sidx a (0 : Int)).bind fun v1 =>
    bif (v1 == (45 : Int)) then
      some (ByteArray.empty, (1 : Int))
    else
      let e2 : Int := (IntKind.wrap .i64 ((IntKind.wrap .i64 ((a.size : Int) + (1 : Int))).tdiv (2 : Int)))
      torusref02_Root_L0 a (bs [48]) e2 := (evI_eq1 T (Go.Abs.look fns) 77 a).trans (by kernel_rfl)
theorem torusref02_Root_L0_eq (a : ByteArray) (x : ByteArray) (i : Int) : torusref02_Root_L0 a x i =
  bif (decide (i > (0 : Int))) then
    let e0 : Int := (IntKind.wrap .i64 ((2 : Int) * (IntKind.wrap .i64 (i - (1 : Int)))))
    bif (inCut a.size (0 : Int) (IntKind.wrap .i64 ((a.size : Int) - e0))) then
    let e1 : ByteArray := (a.extract (0 : Int).toNat (IntKind.wrap .i64 ((a.size : Int) - e0)).toNat)
    (torusref02_Times x (bs [49, 48])).bind fun r2 =>
    torusref02_Root_L1 a r2 i e1
    else none
  else
    some (x, (0 : Int)) := (LL_eq T (Go.Abs.look fns) 77 0 _).trans (by kernel_rfl)
theorem torusref02_Root_L1_eq (a : ByteArray) (x : ByteArray) (i : Int) (head : ByteArray) : torusref02_Root_L1 a x i head =
  (torusref02_Plus x (bs [49])).bind fun r0 =>
  (torusref02_Plus x (bs [49])).bind fun r1 =>
  (torusref02_Times r0 r1).bind fun r2 =>
  (torusref02_Compare r2 head).bind fun r3 =>
  bif (decide (r3 ≤ (0 : Int))) then
    (torusref02_Plus x (bs [49])).bind fun r4 =>
    torusref02_Root_L1 a r4 i head
  else
    torusref02_Root_L0 a x (IntKind.wrap .i64 (i - (1 : Int))) := (LL_eq T (Go.Abs.look fns) 77 1 _).trans (by kernel_rfl)
/- torus/torusref02.short -/
theorem torusref02_short_eq (a : ByteArray) : torusref02_short a =
  (torusref02_Digits a).bind fun r0 =>
  bif (decide (r0 > (9 : Int))) then
    some ((0 : Int), false)
  else
    torusref02_short_L0 a (0 : Int) (0 : Int) := (evI_eq1 T (Go.Abs.look fns) 82 a).trans (by kernel_rfl)
theorem torusref02_short_L0_eq (a : ByteArray) (n : Int) (i : Int) : torusref02_short_L0 a n i =
  bif (decide (i < (a.size : Int))) then
    (sidx a i).bind fun v0 =>
    bif (v0 != (45 : Int)) then
      (sidx a i).bind fun v1 =>
      let e2 : Int := (IntKind.wrap .i64 ((IntKind.wrap .i64 ((10 : Int) * n)) + (IntKind.wrap .i64 v1)))
      torusref02_short_L0 a (IntKind.wrap .i64 (e2 - (48 : Int))) (IntKind.wrap .i64 (i + (1 : Int)))
    else
      torusref02_short_L0 a n (IntKind.wrap .i64 (i + (1 : Int)))
  else
    bif (decide ((a.size : Int) > (0 : Int))) then
      (sidx a (0 : Int)).bind fun v3 =>
      bif (v3 == (45 : Int)) then
        some ((IntKind.wrap .i64 (0 - n)), true)
      else
        some (n, true)
    else
      some (n, true) := (LL_eq T (Go.Abs.look fns) 82 0 _).trans (by kernel_rfl)
/- torus/torusref02.digits -/
theorem torusref02_digits_eq (a : ByteArray) : torusref02_digits a =
  bif (decide ((a.size : Int) > (0 : Int))) then
    (sidx a (0 : Int)).bind fun v0 =>
    torusref02_digits_L0 a (v0 == (45 : Int)) (IntKind.wrap .i64 ((a.size : Int) - (1 : Int))) ([] : List Int)
  else
    torusref02_digits_L0 a false (IntKind.wrap .i64 ((a.size : Int) - (1 : Int))) ([] : List Int) := (evI_eq1 T (Go.Abs.look fns) 83 a).trans (by kernel_rfl)
theorem torusref02_digits_L0_eq (a : ByteArray) (minus : Bool) (i : Int) (d : List Int) : torusref02_digits_L0 a minus i d =
  bif (decide (i ≥ (0 : Int))) then
    (sidx a i).bind fun v0 =>
    bif (v0 != (45 : Int)) then
      (sidx a i).bind fun v1 =>
      let e2 : Int := (IntKind.wrap .i64 ((IntKind.wrap .i64 v1) - (48 : Int)))
      bif (okApp 8 1 d.length 1) then
      torusref02_digits_L0 a minus (IntKind.wrap .i64 (i - (1 : Int))) (d ++ ([e2] : List Int))
      else none
    else
      torusref02_digits_L0 a minus (IntKind.wrap .i64 (i - (1 : Int))) d
  else
    (torusref02_trim d).bind fun r3 =>
    some (minus, r3) := (LL_eq T (Go.Abs.look fns) 83 0 _).trans (by kernel_rfl)
/- torus/torusref02.Digits -/
theorem torusref02_Digits_eq (a : ByteArray) : torusref02_Digits a =
  bif (decide ((a.size : Int) > (0 : Int))) then
    (sidx a (0 : Int)).bind fun v0 =>
    bif (v0 == (45 : Int)) then
      some (IntKind.wrap .i64 ((a.size : Int) - (1 : Int)))
    else
      some (a.size : Int)
  else
    some (a.size : Int) := (evI_eq1 T (Go.Abs.look fns) 84 a).trans (by kernel_rfl)
/- torus/torusref02.sum -/
theorem torusref02_sum_eq (a : List Int) (b : List Int) : torusref02_sum a b =
  torusref02_sum_L0 a b (0 : Int) (0 : Int) ([] : List Int) := (evI_eq1 T (Go.Abs.look fns) 87 (a, b)).trans (by kernel_rfl)
theorem torusref02_sum_L0_eq (a : List Int) (b : List Int) (carry : Int) (i : Int) (out : List Int) : torusref02_sum_L0 a b carry i out =
  bif (decide (i < (a.length : Int))) then
    bif (decide (i < (a.length : Int))) then
      (idx a i).bind fun v0 =>
      bif (decide (i < (b.length : Int))) then
        (idx b i).bind fun v1 =>
        let e2 : Int := (IntKind.wrap .i64 ((IntKind.wrap .i64 (carry + v0)) + v1))
        bif (okApp 8 1 out.length 1) then
        torusref02_sum_L0 a b (IntKind.wrap .i64 (e2.tdiv (10 : Int))) (IntKind.wrap .i64 (i + (1 : Int))) (out ++ ([(e2.tmod (10 : Int))] : List Int))
        else none
      else
        let e3 : Int := ((IntKind.wrap .i64 (carry + v0)).tmod (10 : Int))
        bif (okApp 8 1 out.length 1) then
        let e4 : Int := (IntKind.wrap .i64 ((IntKind.wrap .i64 (carry + v0)).tdiv (10 : Int)))
        torusref02_sum_L0 a b e4 (IntKind.wrap .i64 (i + (1 : Int))) (out ++ ([e3] : List Int))
        else none
    else
      bif (decide (i < (b.length : Int))) then
        (idx b i).bind fun v5 =>
        let e6 : Int := ((IntKind.wrap .i64 (carry + v5)).tmod (10 : Int))
        bif (okApp 8 1 out.length 1) then
        let e7 : Int := (IntKind.wrap .i64 ((IntKind.wrap .i64 (carry + v5)).tdiv (10 : Int)))
        torusref02_sum_L0 a b e7 (IntKind.wrap .i64 (i + (1 : Int))) (out ++ ([e6] : List Int))
        else none
      else
        bif (okApp 8 1 out.length 1) then
        torusref02_sum_L0 a b (IntKind.wrap .i64 (carry.tdiv (10 : Int))) (IntKind.wrap .i64 (i + (1 : Int))) (out ++ ([(carry.tmod (10 : Int))] : List Int))
        else none
  else
    bif (decide (i < (b.length : Int))) then
      bif (decide (i < (a.length : Int))) then
        (idx a i).bind fun v8 =>
        bif (decide (i < (b.length : Int))) then
          (idx b i).bind fun v9 =>
          let e10 : Int := (IntKind.wrap .i64 ((IntKind.wrap .i64 (carry + v8)) + v9))
          bif (okApp 8 1 out.length 1) then
          torusref02_sum_L0 a b (IntKind.wrap .i64 (e10.tdiv (10 : Int))) (IntKind.wrap .i64 (i + (1 : Int))) (out ++ ([(e10.tmod (10 : Int))] : List Int))
          else none
        else
          let e11 : Int := ((IntKind.wrap .i64 (carry + v8)).tmod (10 : Int))
          bif (okApp 8 1 out.length 1) then
          let e12 : Int := (IntKind.wrap .i64 ((IntKind.wrap .i64 (carry + v8)).tdiv (10 : Int)))
          torusref02_sum_L0 a b e12 (IntKind.wrap .i64 (i + (1 : Int))) (out ++ ([e11] : List Int))
          else none
      else
        bif (decide (i < (b.length : Int))) then
          (idx b i).bind fun v13 =>
          let e14 : Int := ((IntKind.wrap .i64 (carry + v13)).tmod (10 : Int))
          bif (okApp 8 1 out.length 1) then
          let e15 : Int := (IntKind.wrap .i64 ((IntKind.wrap .i64 (carry + v13)).tdiv (10 : Int)))
          torusref02_sum_L0 a b e15 (IntKind.wrap .i64 (i + (1 : Int))) (out ++ ([e14] : List Int))
          else none
        else
          bif (okApp 8 1 out.length 1) then
          torusref02_sum_L0 a b (IntKind.wrap .i64 (carry.tdiv (10 : Int))) (IntKind.wrap .i64 (i + (1 : Int))) (out ++ ([(carry.tmod (10 : Int))] : List Int))
          else none
    else
      bif (decide (carry > (0 : Int))) then
        bif (decide (i < (a.length : Int))) then
          (idx a i).bind fun v16 =>
          bif (decide (i < (b.length : Int))) then
            (idx b i).bind fun v17 =>
            let e18 : Int := (IntKind.wrap .i64 ((IntKind.wrap .i64 (carry + v16)) + v17))
            bif (okApp 8 1 out.length 1) then
            torusref02_sum_L0 a b (IntKind.wrap .i64 (e18.tdiv (10 : Int))) (IntKind.wrap .i64 (i + (1 : Int))) (out ++ ([(e18.tmod (10 : Int))] : List Int))
            else none
          else
            let e19 : Int := ((IntKind.wrap .i64 (carry + v16)).tmod (10 : Int))
            bif (okApp 8 1 out.length 1) then
            let e20 : Int := (IntKind.wrap .i64 ((IntKind.wrap .i64 (carry + v16)).tdiv (10 : Int)))
            torusref02_sum_L0 a b e20 (IntKind.wrap .i64 (i + (1 : Int))) (out ++ ([e19] : List Int))
            else none
        else
          bif (decide (i < (b.length : Int))) then
            (idx b i).bind fun v21 =>
            let e22 : Int := ((IntKind.wrap .i64 (carry + v21)).tmod (10 : Int))
            bif (okApp 8 1 out.length 1) then
            let e23 : Int := (IntKind.wrap .i64 ((IntKind.wrap .i64 (carry + v21)).tdiv (10 : Int)))
            torusref02_sum_L0 a b e23 (IntKind.wrap .i64 (i + (1 : Int))) (out ++ ([e22] : List Int))
            else none
          else
            bif (okApp 8 1 out.length 1) then
            torusref02_sum_L0 a b (IntKind.wrap .i64 (carry.tdiv (10 : Int))) (IntKind.wrap .i64 (i + (1 : Int))) (out ++ ([(carry.tmod (10 : Int))] : List Int))
            else none
      else
        some out := (LL_eq T (Go.Abs.look fns) 87 0 _).trans (by kernel_rfl)
/- torus/torusref02.size -/
theorem torusref02_size_eq (a : List Int) (b : List Int) : torusref02_size a b =
  bif ((a.length : Int) != (b.length : Int)) then
    bif (decide ((a.length : Int) < (b.length : Int))) then
      some (-1 : Int)
    else
      some (1 : Int)
  else
    let e0 : Int := (IntKind.wrap .i64 ((a.length : Int) - (1 : Int)))
    torusref02_size_L0 a b e0 := (evI_eq1 T (Go.Abs.look fns) 88 (a, b)).trans (by kernel_rfl)
theorem torusref02_size_L0_eq (a : List Int) (b : List Int) (i : Int) : torusref02_size_L0 a b i =
  bif (decide (i ≥ (0 : Int))) then
    (idx a i).bind fun v0 =>
    (idx b i).bind fun v1 =>
    bif (decide (v0 < v1)) then
      some (-1 : Int)
    else
      (idx a i).bind fun v2 =>
      (idx b i).bind fun v3 =>
      bif (decide (v2 > v3)) then
        some (1 : Int)
      else
        torusref02_size_L0 a b (IntKind.wrap .i64 (i - (1 : Int)))
  else
    some (0 : Int) := (LL_eq T (Go.Abs.look fns) 88 0 _).trans (by kernel_rfl)
/- torus/torusref02.difference -/
theorem torusref02_difference_eq (a : List Int) (b : List Int) : torusref02_difference a b =
  torusref02_difference_L0 a b (0 : Int) (0 : Int) ([] : List Int) := (evI_eq1 T (Go.Abs.look fns) 89 (a, b)).trans (by kernel_rfl)
theorem torusref02_difference_L0_eq (a : List Int) (b : List Int) (borrow : Int) (i : Int) (out : List Int) : torusref02_difference_L0 a b borrow i out =
  bif (decide (i < (a.length : Int))) then
    (idx a i).bind fun v0 =>
    bif (decide (i < (b.length : Int))) then
      (idx b i).bind fun v1 =>
      let e2 : Int := (IntKind.wrap .i64 ((IntKind.wrap .i64 (v0 - borrow)) - v1))
      bif (decide (e2 < (0 : Int))) then
        let e3 : List Int := ([(IntKind.wrap .i64 (e2 + (10 : Int)))] : List Int)
        bif (okApp 8 1 out.length e3.length) then
        torusref02_difference_L0 a b (1 : Int) (IntKind.wrap .i64 (i + (1 : Int))) (out ++ e3)
        else none
      else
        bif (okApp 8 1 out.length 1) then
        torusref02_difference_L0 a b (0 : Int) (IntKind.wrap .i64 (i + (1 : Int))) (out ++ ([e2] : List Int))
        else none
    else
      bif (decide ((IntKind.wrap .i64 (v0 - borrow)) < (0 : Int))) then
        let e4 : Int := (IntKind.wrap .i64 ((IntKind.wrap .i64 (v0 - borrow)) + (10 : Int)))
        bif (okApp 8 1 out.length 1) then
        torusref02_difference_L0 a b (1 : Int) (IntKind.wrap .i64 (i + (1 : Int))) (out ++ ([e4] : List Int))
        else none
      else
        bif (okApp 8 1 out.length 1) then
        let e5 : List Int := (out ++ ([(IntKind.wrap .i64 (v0 - borrow))] : List Int))
        torusref02_difference_L0 a b (0 : Int) (IntKind.wrap .i64 (i + (1 : Int))) e5
        else none
  else
    (torusref02_trim out).bind fun r6 =>
    some r6 := (LL_eq T (Go.Abs.look fns) 89 0 _).trans (by kernel_rfl)
/- torus/torusref02.trim -/
theorem torusref02_trim_eq (d : List Int) : torusref02_trim d =
  torusref02_trim_L0 d := (evI_eq1 T (Go.Abs.look fns) 90 d).trans (by kernel_rfl)
theorem torusref02_trim_L0_eq (d : List Int) : torusref02_trim_L0 d =
  bif (decide ((d.length : Int) > (0 : Int))) then
    let e0 : Int := (IntKind.wrap .i64 ((d.length : Int) - (1 : Int)))
    (idx d e0).bind fun v1 =>
    bif (v1 == (0 : Int)) then
      let e2 : Int := (IntKind.wrap .i64 ((d.length : Int) - (1 : Int)))
      bif (inCut d.length (0 : Int) e2) then
      torusref02_trim_L0 (cut d (0 : Int) e2)
      else none
    else
      some d
  else
    some d := (LL_eq T (Go.Abs.look fns) 90 0 _).trans (by kernel_rfl)
/- torus/torusref02.Divisor -/
theorem torusref02_Divisor_eq (a : ByteArray) (b : ByteArray) : torusref02_Divisor a b =
  (torusref02_Positive a).bind fun r0 =>
  (torusref02_Positive b).bind fun r1 =>
  torusref02_Divisor_L0 r0 r1 := (evI_eq1 T (Go.Abs.look fns) 95 (a, b)).trans (by kernel_rfl)
theorem torusref02_Divisor_L0_eq (x : ByteArray) (y : ByteArray) : torusref02_Divisor_L0 x y =
  bif (!(y.toList == (bs [48]).toList)) then
    (torusref02_Quotient x y).bind fun r0 =>
    torusref02_Divisor_L0 y r0.2
  else
    some x := (LL_eq T (Go.Abs.look fns) 95 0 _).trans (by kernel_rfl)
end Go.Proofs.Ytlpkaimkmfgpiaa.Ev
