/- YtlpkaimkmfgpiaaYg: a part of the proof (YtlpkaimkmfgpiaaEqtoruslaw02). No condition. -/
import Derived.Test.YtlpkaimkmfgpiaaYd
-- Written by a program of this claim; Lean checks it.
set_option linter.unusedVariables false
set_option maxRecDepth 100000
namespace Go.Proofs.Ytlpkaimkmfgpiaa.Ev
open Go.Abs
/- torus/toruslaw02.WholePowersMatch -/
theorem toruslaw02_WholePowersMatch_eq (a : ByteArray) (n : Int) (l : List ByteArray) : toruslaw02_WholePowersMatch a n l =
  (whole_Pow a n).bind fun r0 =>
  (torusref02_Pow a n).bind fun r1 =>
  bif (!(r0.1.toList == r1.1.toList)) then
    some false
  else
    bif (r0.2 != r1.2) then
      some false
    else
      bif (decide ((l.length : Int) > (30 : Int))) then
        toruslaw02_awake.bind fun r2 =>
        some r2
      else
        (torusref02_Copy l).bind fun r3 =>
        (whole_Sum r3).bind fun r4 =>
        (torusref02_Sum l).bind fun r5 =>
        bif (r4.1.toList == r5.1.toList) then
          bif (r4.2 == r5.2) then
            (torusref02_Same r3 l).bind fun r6 =>
            bif r6 then
              toruslaw02_awake.bind fun r7 =>
              some r7
            else
              some false
          else
            some false
        else
          some false := (evI_eq1 T (Go.Abs.look fns) 3 (a, n, l)).trans (by kernel_rfl)
/- torus/toruslaw02.WholeRing -/
theorem toruslaw02_WholeRing_eq (a : ByteArray) (b : ByteArray) (c : ByteArray) : toruslaw02_WholeRing a b c =
  (torusref02_Fit a (300 : Int)).bind fun r0 =>
  (torusref02_Fit b (300 : Int)).bind fun r1 =>
  (torusref02_Fit c (300 : Int)).bind fun r2 =>
  (toruslaw02_sum r0 r1).bind fun r3 =>
  (toruslaw02_sum r1 r0).bind fun r4 =>
  bif (!(r3.toList == r4.toList)) then
    some false
  else
    (toruslaw02_product r0 r1).bind fun r5 =>
    (toruslaw02_product r1 r0).bind fun r6 =>
    bif (!(r5.toList == r6.toList)) then
      some false
    else
      (toruslaw02_sum r0 r1).bind fun r7 =>
      (toruslaw02_sum r7 r2).bind fun r8 =>
      (toruslaw02_sum r1 r2).bind fun r9 =>
      (toruslaw02_sum r0 r9).bind fun r10 =>
      bif (!(r8.toList == r10.toList)) then
        some false
      else
        (toruslaw02_product r0 r1).bind fun r11 =>
        (toruslaw02_product r11 r2).bind fun r12 =>
        (toruslaw02_product r1 r2).bind fun r13 =>
        (toruslaw02_product r0 r13).bind fun r14 =>
        bif (!(r12.toList == r14.toList)) then
          some false
        else
          (toruslaw02_sum r1 r2).bind fun r15 =>
          (toruslaw02_product r0 r15).bind fun r16 =>
          (toruslaw02_product r0 r1).bind fun r17 =>
          (toruslaw02_product r0 r2).bind fun r18 =>
          (toruslaw02_sum r17 r18).bind fun r19 =>
          bif (!(r16.toList == r19.toList)) then
            some false
          else
            (toruslaw02_sum r0 r1).bind fun r20 =>
            (whole_Sub r20 r1).bind fun r21 =>
            (whole_Sub r0 r1).bind fun r22 =>
            (toruslaw02_is r21.1 r21.2 r0).bind fun r23 =>
            bif r23 then
              bif (r22.2 == (0 : Int)) then
                (whole_Neg r1).bind fun r24 =>
                (toruslaw02_sum r0 r24).bind fun r25 =>
                bif (r22.1.toList == r25.toList) then
                  (toruslaw02_sum r0 (bs [48])).bind fun r26 =>
                  bif (r26.toList == r0.toList) then
                    (toruslaw02_product r0 (bs [49])).bind fun r27 =>
                    bif (r27.toList == r0.toList) then
                      (toruslaw02_product r0 (bs [45, 49])).bind fun r28 =>
                      (whole_Neg r0).bind fun r29 =>
                      bif (r28.toList == r29.toList) then
                        toruslaw02_awake.bind fun r30 =>
                        some r30
                      else
                        some false
                    else
                      some false
                  else
                    some false
                else
                  some false
              else
                some false
            else
              some false := (evI_eq1 T (Go.Abs.look fns) 4 (a, b, c)).trans (by kernel_rfl)
/- torus/toruslaw02.WholePowers -/
theorem toruslaw02_WholePowers_eq (a : ByteArray) (m : Int) (n : Int) : toruslaw02_WholePowers a m n =
  (torusref02_Fit a (60 : Int)).bind fun r0 =>
  (whole_Pow r0 (IntKind.wrap .i64 (m.tmod (6 : Int)))).bind fun r1 =>
  (whole_Pow r0 (IntKind.wrap .i64 (n.tmod (6 : Int)))).bind fun r2 =>
  let e3 : Int := (IntKind.wrap .i64 ((IntKind.wrap .i64 (m.tmod (6 : Int))) + (IntKind.wrap .i64 (n.tmod (6 : Int)))))
  (whole_Pow r0 e3).bind fun r4 =>
  (toruslaw02_product r0 r0).bind fun r5 =>
  (whole_Root r5).bind fun r6 =>
  bif (r1.2 != (0 : Int)) then
    some false
  else
    bif (r2.2 != (0 : Int)) then
      some false
    else
      bif (r4.2 != (0 : Int)) then
        some false
      else
        (toruslaw02_product r1.1 r2.1).bind fun r7 =>
        bif (!(r7.toList == r4.1.toList)) then
          some false
        else
          (whole_Abs r0).bind fun r8 =>
          (toruslaw02_is r6.1 r6.2 r8).bind fun r9 =>
          bif (!r9) then
            some false
          else
            (whole_Abs r0).bind fun r10 =>
            (whole_Root r10).bind fun r11 =>
            (toruslaw02_sum r11.1 (bs [49])).bind fun r12 =>
            bif (r11.2 == (0 : Int)) then
              (toruslaw02_product r11.1 r11.1).bind fun r13 =>
              (whole_Abs r0).bind fun r14 =>
              (whole_Cmp r13 r14).bind fun r15 =>
              bif (decide (r15 ≤ (0 : Int))) then
                (toruslaw02_product r12 r12).bind fun r16 =>
                (whole_Abs r0).bind fun r17 =>
                (whole_Cmp r16 r17).bind fun r18 =>
                bif (decide (r18 > (0 : Int))) then
                  toruslaw02_awake.bind fun r19 =>
                  some r19
                else
                  some false
              else
                some false
            else
              some false := (evI_eq1 T (Go.Abs.look fns) 5 (a, m, n)).trans (by kernel_rfl)
/- torus/toruslaw02.WholeDivision -/
theorem toruslaw02_WholeDivision_eq (a : ByteArray) (b : ByteArray) : toruslaw02_WholeDivision a b =
  (torusref02_Fit a (900 : Int)).bind fun r0 =>
  (torusref02_Fit b (900 : Int)).bind fun r1 =>
  (whole_DivMod r0 r1).bind fun r2 =>
  bif (r1.toList == (bs [48]).toList) then
    bif (r2.2.2 == (9 : Int)) then
      bif (r2.1.toList == ByteArray.empty.toList) then
        bif (r2.2.1.toList == ByteArray.empty.toList) then
          toruslaw02_awake.bind fun r3 =>
          some r3
        else
          some false
      else
        some false
    else
      some false
  else
    bif (r2.2.2 != (0 : Int)) then
      some false
    else
      (toruslaw02_product r2.1 r1).bind fun r4 =>
      (toruslaw02_sum r4 r2.2.1).bind fun r5 =>
      bif (!(r5.toList == r0.toList)) then
        some false
      else
        bif (!(r2.2.1.toList == (bs [48]).toList)) then
          (whole_Sign r2.2.1).bind fun r6 =>
          (whole_Sign r1).bind fun r7 =>
          bif (r6 != r7) then
            some false
          else
            (whole_Abs r2.2.1).bind fun r8 =>
            (whole_Abs r1).bind fun r9 =>
            (whole_Cmp r8 r9).bind fun r10 =>
            bif (decide (r10 < (0 : Int))) then
              toruslaw02_awake.bind fun r11 =>
              some r11
            else
              some false
        else
          (whole_Abs r2.2.1).bind fun r12 =>
          (whole_Abs r1).bind fun r13 =>
          (whole_Cmp r12 r13).bind fun r14 =>
          bif (decide (r14 < (0 : Int))) then
            toruslaw02_awake.bind fun r15 =>
            some r15
          else
            some false := (evI_eq1 T (Go.Abs.look fns) 6 (a, b)).trans (by kernel_rfl)
/- torus/toruslaw02.WholeOrder -/
theorem toruslaw02_WholeOrder_eq (a : ByteArray) (b : ByteArray) (c : ByteArray) : toruslaw02_WholeOrder a b c =
  (torusref02_Fit a (400 : Int)).bind fun r0 =>
  (torusref02_Fit b (400 : Int)).bind fun r1 =>
  (torusref02_Fit c (400 : Int)).bind fun r2 =>
  (whole_Cmp r0 r1).bind fun r3 =>
  (whole_Sub r0 r1).bind fun r4 =>
  bif (r4.2 != (0 : Int)) then
    some false
  else
    (whole_Sign r4.1).bind fun r5 =>
    bif (r3 != r5) then
      some false
    else
      (whole_Cmp r1 r0).bind fun r6 =>
      bif (r3 != (IntKind.wrap .i64 (0 - r6))) then
        some false
      else
        bif (!((r3 == (0 : Int)) == (r0.toList == r1.toList))) then
          some false
        else
          (toruslaw02_sum r0 r2).bind fun r7 =>
          (toruslaw02_sum r1 r2).bind fun r8 =>
          (whole_Cmp r7 r8).bind fun r9 =>
          bif (r9 != r3) then
            some false
          else
            (toruslaw02_product r0 r2).bind fun r10 =>
            (toruslaw02_product r1 r2).bind fun r11 =>
            (whole_Cmp r10 r11).bind fun r12 =>
            (whole_Sign r2).bind fun r13 =>
            bif (r12 != (IntKind.wrap .i64 (r3 * r13))) then
              some false
            else
              bif (decide (r3 > (0 : Int))) then
                (whole_Abs r0).bind fun r14 =>
                (whole_Cmp r14 (bs [48])).bind fun r15 =>
                bif (decide (r15 ≥ (0 : Int))) then
                  toruslaw02_awake.bind fun r16 =>
                  some r16
                else
                  some false
              else
                (whole_Cmp r1 r2).bind fun r17 =>
                bif (decide (r17 > (0 : Int))) then
                  (whole_Abs r0).bind fun r18 =>
                  (whole_Cmp r18 (bs [48])).bind fun r19 =>
                  bif (decide (r19 ≥ (0 : Int))) then
                    toruslaw02_awake.bind fun r20 =>
                    some r20
                  else
                    some false
                else
                  (whole_Cmp r0 r2).bind fun r21 =>
                  bif (decide (r21 ≤ (0 : Int))) then
                    (whole_Abs r0).bind fun r22 =>
                    (whole_Cmp r22 (bs [48])).bind fun r23 =>
                    bif (decide (r23 ≥ (0 : Int))) then
                      toruslaw02_awake.bind fun r24 =>
                      some r24
                    else
                      some false
                  else
                    some false := (evI_eq1 T (Go.Abs.look fns) 7 (a, b, c)).trans (by kernel_rfl)
/- torus/toruslaw02.WholeDivisors -/
theorem toruslaw02_WholeDivisors_eq (a : ByteArray) (b : ByteArray) (c : ByteArray) : toruslaw02_WholeDivisors a b c =
  (torusref02_Fit a (60 : Int)).bind fun r0 =>
  (torusref02_Fit b (60 : Int)).bind fun r1 =>
  (torusref02_Fit c (20 : Int)).bind fun r2 =>
  (whole_Bezout r0 r1).bind fun r3 =>
  (whole_Gcd r0 r1).bind fun r4 =>
  bif (r3.2.2.2 != (0 : Int)) then
    some false
  else
    bif (r4.2 != (0 : Int)) then
      some false
    else
      bif (!(r3.1.toList == r4.1.toList)) then
        some false
      else
        (toruslaw02_product r0 r3.2.1).bind fun r5 =>
        (toruslaw02_product r1 r3.2.2.1).bind fun r6 =>
        (toruslaw02_sum r5 r6).bind fun r7 =>
        bif (!(r7.toList == r3.1.toList)) then
          some false
        else
          (toruslaw02_product r0 r2).bind fun r8 =>
          (toruslaw02_product r1 r2).bind fun r9 =>
          (whole_Gcd r8 r9).bind fun r10 =>
          (toruslaw02_product r3.1 r2).bind fun r11 =>
          (whole_Abs r11).bind fun r12 =>
          (toruslaw02_is r10.1 r10.2 r12).bind fun r13 =>
          bif (!r13) then
            some false
          else
            bif (r3.1.toList == (bs [48]).toList) then
              bif (r0.toList == (bs [48]).toList) then
                bif (r1.toList == (bs [48]).toList) then
                  toruslaw02_awake.bind fun r14 =>
                  some r14
                else
                  some false
              else
                some false
            else
              (whole_DivMod r0 r3.1).bind fun r15 =>
              (whole_DivMod r1 r3.1).bind fun r16 =>
              (whole_Gcd r15.1 r16.1).bind fun r17 =>
              bif (r15.2.2 == (0 : Int)) then
                bif (r16.2.2 == (0 : Int)) then
                  bif (r15.2.1.toList == (bs [48]).toList) then
                    bif (r16.2.1.toList == (bs [48]).toList) then
                      (toruslaw02_is r17.1 r17.2 (bs [49])).bind fun r18 =>
                      bif r18 then
                        toruslaw02_awake.bind fun r19 =>
                        some r19
                      else
                        some false
                    else
                      some false
                  else
                    some false
                else
                  some false
              else
                some false := (evI_eq1 T (Go.Abs.look fns) 8 (a, b, c)).trans (by kernel_rfl)
/- torus/toruslaw02.WholeMatches -/
theorem toruslaw02_WholeMatches_eq (a : ByteArray) (b : ByteArray) (n : Int) : toruslaw02_WholeMatches a b n =
  (whole_Int64 a).bind fun r0 =>
  (torusref02_Int64 a).bind fun r1 =>
  (whole_Valid a).bind fun r2 =>
  (torusref02_Is a).bind fun r3 =>
  bif (!(r2 == r3)) then
    some false
  else
    bif (r0.1 != r1.1) then
      some false
    else
      bif (!(r0.2 == r1.2)) then
        some false
      else
        (whole_Sign a).bind fun r4 =>
        (torusref02_Sign a).bind fun r5 =>
        bif (r4 != r5) then
          some false
        else
          (whole_Cmp a b).bind fun r6 =>
          (torusref02_Cmp a b).bind fun r7 =>
          bif (r6 != r7) then
            some false
          else
            (whole_Neg a).bind fun r8 =>
            (torusref02_Neg a).bind fun r9 =>
            bif (!(r8.toList == r9.toList)) then
              some false
            else
              (whole_Abs a).bind fun r10 =>
              (torusref02_Abs a).bind fun r11 =>
              bif (!(r10.toList == r11.toList)) then
                some false
              else
                (whole_Of n).bind fun r12 =>
                (torusref02_Number n).bind fun r13 =>
                bif (!(r12.toList == r13.toList)) then
                  some false
                else
                  (whole_Add a b).bind fun r14 =>
                  (torusref02_Add a b).bind fun r15 =>
                  bif (!(r14.1.toList == r15.1.toList)) then
                    some false
                  else
                    bif (r14.2 != r15.2) then
                      some false
                    else
                      (whole_Sub a b).bind fun r16 =>
                      (torusref02_Sub a b).bind fun r17 =>
                      bif (!(r16.1.toList == r17.1.toList)) then
                        some false
                      else
                        bif (r16.2 != r17.2) then
                          some false
                        else
                          (whole_Mul a b).bind fun r18 =>
                          (torusref02_Mul a b).bind fun r19 =>
                          bif (!(r18.1.toList == r19.1.toList)) then
                            some false
                          else
                            bif (r18.2 != r19.2) then
                              some false
                            else
                              (whole_DivMod a b).bind fun r20 =>
                              (torusref02_DivMod a b).bind fun r21 =>
                              bif (r20.1.toList == r21.1.toList) then
                                bif (r20.2.1.toList == r21.2.1.toList) then
                                  bif (r20.2.2 == r21.2.2) then
                                    (toruslaw02_divisors a b).bind fun r22 =>
                                    bif r22 then
                                      toruslaw02_awake.bind fun r23 =>
                                      some r23
                                    else
                                      some false
                                  else
                                    some false
                                else
                                  some false
                              else
                                some false := (evI_eq1 T (Go.Abs.look fns) 9 (a, b, n)).trans (by kernel_rfl)
/- torus/toruslaw02.WholeExamples -/
theorem toruslaw02_WholeExamples_eq : toruslaw02_WholeExamples =
  toruslaw02_awake.bind fun r0 =>
  bif (!r0) then
    some false
  else
    (toruslaw02_nines (1001 : Int)).bind fun r1 =>
    (toruslaw02_nines (1001 : Int)).bind fun r2 =>
    bif (Nat.ble ((bs [45]).size + r2.size) 9223372036854775807) then
    let e3 : List ByteArray := ([ByteArray.empty, (bs [45]), (bs [43, 49]), (bs [45, 48]), (bs [48, 48]), (bs [48, 49]), (bs [45, 48, 49]), (bs [49, 32]), (bs [32, 49]), (bs [49, 46, 48]), (bs [49, 101, 51]), (bs [48, 120, 49]), (bs [45, 45, 49]), (bs [49, 45]), (bs [255]), r1, ((bs [45]) ++ r2)] : List ByteArray)
    toruslaw02_WholeExamples_L0 (e3.length : Int) (0 : Int) e3
    else none := (evI_eq1 T (Go.Abs.look fns) 10 ()).trans (by kernel_rfl)
theorem toruslaw02_WholeExamples_L0_eq (t : Int) (t2 : Int) (t3 : List ByteArray) : toruslaw02_WholeExamples_L0 t t2 t3 =
  bif (decide (t2 < t)) then
    (idx t3 t2).bind fun _ =>
    (t3[t2.toNat]?).bind fun v0 =>
    (whole_Add v0 (bs [49])).bind fun r1 =>
    (whole_DivMod v0 (bs [48])).bind fun r2 =>
    (whole_Gcd (bs [49]) v0).bind fun r3 =>
    (whole_Bezout v0 ByteArray.empty).bind fun r4 =>
    (whole_Pow v0 (1 : Int)).bind fun r5 =>
    (whole_Root v0).bind fun r6 =>
    (whole_Sum ([(bs [49]), v0] : List ByteArray)).bind fun r7 =>
    (whole_Int64 v0).bind fun r8 =>
    (whole_Valid v0).bind fun r9 =>
    bif r9 then
      some false
    else
      (whole_Sign v0).bind fun r10 =>
      bif (r10 != (0 : Int)) then
        some false
      else
        (whole_Cmp v0 (bs [49])).bind fun r11 =>
        bif (r11 != (0 : Int)) then
          some false
        else
          (whole_Cmp (bs [49]) v0).bind fun r12 =>
          bif (r12 != (0 : Int)) then
            some false
          else
            (whole_Neg v0).bind fun r13 =>
            bif (!(r13.toList == ByteArray.empty.toList)) then
              some false
            else
              (whole_Abs v0).bind fun r14 =>
              bif (!(r14.toList == ByteArray.empty.toList)) then
                some false
              else
                bif (r1.2 != (1 : Int)) then
                  some false
                else
                  bif (r2.2.2 != (1 : Int)) then
                    some false
                  else
                    bif (r3.2 != (1 : Int)) then
                      some false
                    else
                      bif (r4.2.2.2 != (1 : Int)) then
                        some false
                      else
                        bif (r5.2 != (1 : Int)) then
                          some false
                        else
                          bif (r6.2 != (1 : Int)) then
                            some false
                          else
                            bif (r7.2 != (1 : Int)) then
                              some false
                            else
                              bif r8.2 then
                                some false
                              else
                                toruslaw02_WholeExamples_L0 t (IntKind.wrap .i64 (t2 + (1 : Int))) t3
  else
    (toruslaw02_nines (1000 : Int)).bind fun r15 =>
    (whole_Add r15 (bs [49])).bind fun r16 =>
    (toruslaw02_nines (1000 : Int)).bind fun r17 =>
    (whole_Sub r17 (bs [45, 49])).bind fun r18 =>
    (toruslaw02_nines (500 : Int)).bind fun r19 =>
    (toruslaw02_nines (501 : Int)).bind fun r20 =>
    (whole_Mul r19 r20).bind fun r21 =>
    (whole_Pow (bs [49, 48]) (999 : Int)).bind fun r22 =>
    (whole_Pow (bs [49, 48]) (1000 : Int)).bind fun r23 =>
    (whole_Pow (bs [50]) (-1 : Int)).bind fun r24 =>
    (whole_Pow (bs [51]) (4611686018427387904 : Int)).bind fun r25 =>
    (whole_Pow (bs [45, 49]) (4611686018427387905 : Int)).bind fun r26 =>
    (whole_Pow (bs [48]) (0 : Int)).bind fun r27 =>
    (whole_Root (bs [45, 49])).bind fun r28 =>
    (whole_DivMod (bs [55]) (bs [45, 50])).bind fun r29 =>
    (whole_DivMod (bs [48]) (bs [45, 53])).bind fun r30 =>
    bif (!(r16.1.toList == ByteArray.empty.toList)) then
      some false
    else
      bif (r16.2 != (3 : Int)) then
        some false
      else
        bif (!(r18.1.toList == ByteArray.empty.toList)) then
          some false
        else
          bif (r18.2 != (3 : Int)) then
            some false
          else
            bif (!(r21.1.toList == ByteArray.empty.toList)) then
              some false
            else
              bif (r21.2 != (3 : Int)) then
                some false
              else
                bif ((r22.1.size : Int) != (1000 : Int)) then
                  some false
                else
                  bif (r22.2 != (0 : Int)) then
                    some false
                  else
                    bif (r23.2 != (3 : Int)) then
                      some false
                    else
                      bif (r24.2 != (1 : Int)) then
                        some false
                      else
                        bif (r25.2 != (3 : Int)) then
                          some false
                        else
                          (toruslaw02_is r26.1 r26.2 (bs [45, 49])).bind fun r31 =>
                          bif (!r31) then
                            some false
                          else
                            (toruslaw02_is r27.1 r27.2 (bs [49])).bind fun r32 =>
                            bif (!r32) then
                              some false
                            else
                              bif (!(r28.1.toList == ByteArray.empty.toList)) then
                                some false
                              else
                                bif (r28.2 != (1 : Int)) then
                                  some false
                                else
                                  (toruslaw02_is r29.1 r29.2.2 (bs [45, 52])).bind fun r33 =>
                                  bif (!r33) then
                                    some false
                                  else
                                    bif (!(r29.2.1.toList == (bs [45, 49]).toList)) then
                                      some false
                                    else
                                      (toruslaw02_is r30.1 r30.2.2 (bs [48])).bind fun r34 =>
                                      bif (!r34) then
                                        some false
                                      else
                                        bif (!(r30.2.1.toList == (bs [48]).toList)) then
                                          some false
                                        else
                                          (toruslaw02_nines (1000 : Int)).bind fun r35 =>
                                          (toruslaw02_nines (1000 : Int)).bind fun r36 =>
                                          (toruslaw02_nines (1000 : Int)).bind fun r37 =>
                                          bif (Nat.ble ((bs [45]).size + r37.size) 9223372036854775807) then
                                          let e38 : List ByteArray := ([r35, r36, ((bs [45]) ++ r37)] : List ByteArray)
                                          (whole_Sum e38).bind fun r39 =>
                                          (toruslaw02_nines (1000 : Int)).bind fun r40 =>
                                          (whole_Sum ([r40, (bs [49])] : List ByteArray)).bind fun r41 =>
                                          (whole_Sum ([] : List ByteArray)).bind fun r42 =>
                                          (toruslaw02_nines (1000 : Int)).bind fun r43 =>
                                          (toruslaw02_is r39.1 r39.2 r43).bind fun r44 =>
                                          bif (!r44) then
                                            some false
                                          else
                                            bif (!(r41.1.toList == ByteArray.empty.toList)) then
                                              some false
                                            else
                                              bif (r41.2 != (3 : Int)) then
                                                some false
                                              else
                                                (toruslaw02_is r42.1 r42.2 (bs [48])).bind fun r45 =>
                                                bif (!r45) then
                                                  some false
                                                else
                                                  (whole_Int64 (bs [45, 57, 50, 50, 51, 51, 55, 50, 48, 51, 54, 56, 53, 52, 55, 55, 53, 56, 48, 56])).bind fun r46 =>
                                                  (whole_Int64 (bs [57, 50, 50, 51, 51, 55, 50, 48, 51, 54, 56, 53, 52, 55, 55, 53, 56, 48, 56])).bind fun r47 =>
                                                  (whole_Int64 (bs [45, 57, 50, 50, 51, 51, 55, 50, 48, 51, 54, 56, 53, 52, 55, 55, 53, 56, 48, 57])).bind fun r48 =>
                                                  (whole_Int64 (bs [57, 50, 50, 51, 51, 55, 50, 48, 51, 54, 56, 53, 52, 55, 55, 53, 56, 48, 55])).bind fun r49 =>
                                                  (whole_Bezout (bs [53]) (bs [48])).bind fun r50 =>
                                                  (whole_Bezout (bs [48]) (bs [45, 52])).bind fun r51 =>
                                                  (whole_Bezout (bs [48]) (bs [48])).bind fun r52 =>
                                                  bif (r46.1 == (-9223372036854775808 : Int)) then
                                                    bif r46.2 then
                                                      bif (!r47.2) then
                                                        bif (!r48.2) then
                                                          bif (r49.1 == (9223372036854775807 : Int)) then
                                                            bif r49.2 then
                                                              (whole_Of (-9223372036854775808 : Int)).bind fun r53 =>
                                                              bif (r53.toList == (bs [45, 57, 50, 50, 51, 51, 55, 50, 48, 51, 54, 56, 53, 52, 55, 55, 53, 56, 48, 56]).toList) then
                                                                (toruslaw02_is r50.1 r50.2.2.2 (bs [53])).bind fun r54 =>
                                                                bif r54 then
                                                                  bif (r50.2.1.toList == (bs [49]).toList) then
                                                                    bif (r50.2.2.1.toList == (bs [48]).toList) then
                                                                      (toruslaw02_is r51.1 r51.2.2.2 (bs [52])).bind fun r55 =>
                                                                      bif r55 then
                                                                        bif (r51.2.1.toList == (bs [48]).toList) then
                                                                          bif (r51.2.2.1.toList == (bs [45, 49]).toList) then
                                                                            (toruslaw02_is r52.1 r52.2.2.2 (bs [48])).bind fun r56 =>
                                                                            bif r56 then
                                                                              bif (r52.2.1.toList == (bs [48]).toList) then
                                                                                some (r52.2.2.1.toList == (bs [48]).toList)
                                                                              else
                                                                                some false
                                                                            else
                                                                              some false
                                                                          else
                                                                            some false
                                                                        else
                                                                          some false
                                                                      else
                                                                        some false
                                                                    else
                                                                      some false
                                                                  else
                                                                    some false
                                                                else
                                                                  some false
                                                              else
                                                                some false
                                                            else
                                                              some false
                                                          else
                                                            some false
                                                        else
                                                          some false
                                                      else
                                                        some false
                                                    else
                                                      some false
                                                  else
                                                    some false
                                          else none := (LL_eq T (Go.Abs.look fns) 10 0 _).trans (by kernel_rfl)
/- torus/toruslaw02.awake -/
theorem toruslaw02_awake_eq : toruslaw02_awake =
  (whole_Add (bs [57, 57, 57]) (bs [49])).bind fun r0 =>
  (whole_DivMod (bs [45, 55]) (bs [50])).bind fun r1 =>
  (whole_Bezout (bs [49, 50]) (bs [49, 56])).bind fun r2 =>
  (whole_Pow (bs [50]) (10 : Int)).bind fun r3 =>
  (whole_Root (bs [57, 57])).bind fun r4 =>
  (toruslaw02_is r0.1 r0.2 (bs [49, 48, 48, 48])).bind fun r5 =>
  bif r5 then
    (toruslaw02_is r1.1 r1.2.2 (bs [45, 52])).bind fun r6 =>
    bif r6 then
      bif (r1.2.1.toList == (bs [49]).toList) then
        (toruslaw02_is r2.1 r2.2.2.2 (bs [54])).bind fun r7 =>
        bif r7 then
          bif (r2.2.1.toList == (bs [50]).toList) then
            bif (r2.2.2.1.toList == (bs [45, 49]).toList) then
              (toruslaw02_is r3.1 r3.2 (bs [49, 48, 50, 52])).bind fun r8 =>
              bif r8 then
                (toruslaw02_is r4.1 r4.2 (bs [57])).bind fun r9 =>
                bif r9 then
                  (whole_Valid (bs [45, 48])).bind fun r10 =>
                  bif (!r10) then
                    (whole_Valid (bs [48, 48, 55])).bind fun r11 =>
                    some (!r11)
                  else
                    some false
                else
                  some false
              else
                some false
            else
              some false
          else
            some false
        else
          some false
      else
        some false
    else
      some false
  else
    some false := (evI_eq1 T (Go.Abs.look fns) 13 ()).trans (by kernel_rfl)
/- torus/toruslaw02.sum -/
theorem toruslaw02_sum_eq (a : ByteArray) (b : ByteArray) : toruslaw02_sum a b =
  (whole_Add a b).bind fun r0 =>
  bif (r0.2 != (0 : Int)) then
    some ByteArray.empty
  else
    some r0.1 := (evI_eq1 T (Go.Abs.look fns) 19 (a, b)).trans (by kernel_rfl)
/- torus/toruslaw02.product -/
theorem toruslaw02_product_eq (a : ByteArray) (b : ByteArray) : toruslaw02_product a b =
  (whole_Mul a b).bind fun r0 =>
  bif (r0.2 != (0 : Int)) then
    some ByteArray.empty
  else
    some r0.1 := (evI_eq1 T (Go.Abs.look fns) 20 (a, b)).trans (by kernel_rfl)
/- torus/toruslaw02.is -/
theorem toruslaw02_is_eq (x : ByteArray) (e : Int) (want : ByteArray) : toruslaw02_is x e want =
  bif (x.toList == want.toList) then
    some (e == (0 : Int))
  else
    some false := (evI_eq1 T (Go.Abs.look fns) 22 (x, e, want)).trans (by kernel_rfl)
/- torus/toruslaw02.divisors -/
theorem toruslaw02_divisors_eq (a : ByteArray) (b : ByteArray) : toruslaw02_divisors a b =
  (torusref02_Is a).bind fun r0 =>
  bif r0 then
    (torusref02_Is b).bind fun r1 =>
    bif r1 then
      bif (decide ((a.size : Int) > (100 : Int))) then
        some true
      else
        bif (decide ((b.size : Int) > (100 : Int))) then
          some true
        else
          (whole_Gcd a b).bind fun r2 =>
          (torusref02_Gcd a b).bind fun r3 =>
          bif (!(r2.1.toList == r3.1.toList)) then
            some false
          else
            bif (r2.2 != r3.2) then
              some false
            else
              (whole_Bezout a b).bind fun r4 =>
              (torusref02_Bezout a b).bind fun r5 =>
              bif (!(r4.1.toList == r5.1.toList)) then
                some false
              else
                bif (!(r4.2.1.toList == r5.2.1.toList)) then
                  some false
                else
                  bif (!(r4.2.2.1.toList == r5.2.2.1.toList)) then
                    some false
                  else
                    bif (r4.2.2.2 != r5.2.2.2) then
                      some false
                    else
                      (torusref02_Is a).bind fun r6 =>
                      bif r6 then
                        bif (decide ((a.size : Int) > (100 : Int))) then
                          some true
                        else
                          (whole_Root a).bind fun r7 =>
                          (torusref02_Root a).bind fun r8 =>
                          bif (r7.1.toList == r8.1.toList) then
                            some (r7.2 == r8.2)
                          else
                            some false
                      else
                        (whole_Root a).bind fun r9 =>
                        (torusref02_Root a).bind fun r10 =>
                        bif (r9.1.toList == r10.1.toList) then
                          some (r9.2 == r10.2)
                        else
                          some false
    else
      (whole_Gcd a b).bind fun r11 =>
      (torusref02_Gcd a b).bind fun r12 =>
      bif (!(r11.1.toList == r12.1.toList)) then
        some false
      else
        bif (r11.2 != r12.2) then
          some false
        else
          (whole_Bezout a b).bind fun r13 =>
          (torusref02_Bezout a b).bind fun r14 =>
          bif (!(r13.1.toList == r14.1.toList)) then
            some false
          else
            bif (!(r13.2.1.toList == r14.2.1.toList)) then
              some false
            else
              bif (!(r13.2.2.1.toList == r14.2.2.1.toList)) then
                some false
              else
                bif (r13.2.2.2 != r14.2.2.2) then
                  some false
                else
                  (torusref02_Is a).bind fun r15 =>
                  bif r15 then
                    bif (decide ((a.size : Int) > (100 : Int))) then
                      some true
                    else
                      (whole_Root a).bind fun r16 =>
                      (torusref02_Root a).bind fun r17 =>
                      bif (r16.1.toList == r17.1.toList) then
                        some (r16.2 == r17.2)
                      else
                        some false
                  else
                    (whole_Root a).bind fun r18 =>
                    (torusref02_Root a).bind fun r19 =>
                    bif (r18.1.toList == r19.1.toList) then
                      some (r18.2 == r19.2)
                    else
                      some false
  else
    (whole_Gcd a b).bind fun r20 =>
    (torusref02_Gcd a b).bind fun r21 =>
    bif (!(r20.1.toList == r21.1.toList)) then
      some false
    else
      bif (r20.2 != r21.2) then
        some false
      else
        (whole_Bezout a b).bind fun r22 =>
        (torusref02_Bezout a b).bind fun r23 =>
        bif (!(r22.1.toList == r23.1.toList)) then
          some false
        else
          bif (!(r22.2.1.toList == r23.2.1.toList)) then
            some false
          else
            bif (!(r22.2.2.1.toList == r23.2.2.1.toList)) then
              some false
            else
              bif (r22.2.2.2 != r23.2.2.2) then
                some false
              else
                (torusref02_Is a).bind fun r24 =>
                bif r24 then
                  bif (decide ((a.size : Int) > (100 : Int))) then
                    some true
                  else
                    (whole_Root a).bind fun r25 =>
                    (torusref02_Root a).bind fun r26 =>
                    bif (r25.1.toList == r26.1.toList) then
                      some (r25.2 == r26.2)
                    else
                      some false
                else
                  (whole_Root a).bind fun r27 =>
                  (torusref02_Root a).bind fun r28 =>
                  bif (r27.1.toList == r28.1.toList) then
                    some (r27.2 == r28.2)
                  else
                    some false := (evI_eq1 T (Go.Abs.look fns) 47 (a, b)).trans (by kernel_rfl)
/- torus/toruslaw02.nines -/
theorem toruslaw02_nines_eq (n : Int) : toruslaw02_nines n =
  toruslaw02_nines_L0 n (0 : Int) ([] : List Int) := (evI_eq1 T (Go.Abs.look fns) 48 n).trans (by kernel_rfl)
theorem toruslaw02_nines_L0_eq (n : Int) (i : Int) (b : List Int) : toruslaw02_nines_L0 n i b =
  bif (decide (i < n)) then
    bif (okApp 1 1 b.length 1) then
    toruslaw02_nines_L0 n (IntKind.wrap .i64 (i + (1 : Int))) (b ++ ([(57 : Int)] : List Int))
    else none
  else
    some (strOf b) := (LL_eq T (Go.Abs.look fns) 48 0 _).trans (by kernel_rfl)
end Go.Proofs.Ytlpkaimkmfgpiaa.Ev
