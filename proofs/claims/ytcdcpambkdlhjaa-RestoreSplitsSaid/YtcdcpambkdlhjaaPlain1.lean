/- What the functions compute, on plain data, and what follows from it, part 1: no condition. -/
import Derived.Test.YtcdcpambkdlhjaaGround2
namespace Go.Proofs.Ytcdcpambkdlhjaa.As
open Go
section
set_option maxRecDepth 4000
open Go
def agraffelaw08_awake (n : Nat) : Option Bool := some true
def agraffebase_CopyInts (n : Nat) (a0 : List Int) : Option Unit :=
  chk (room 8 a0.length) <|
  some ()
def restore_within (n : Nat) (a0 : Int) (a1 : Int) (a2 : Int) : Option Unit :=
  some ()
def restore_Split_f1 (n : Nat) (a0 : Int) : Option Unit :=
  (restore_within n a0 0 1000000).bind fun y1 =>
  some ()
def slices_IndexFunc_int_L1 (n : Nat) (a0 : List Int) (k1 : (Unit → Option Int)) (back : Nat → Option Int) : Nat → Option Int
  | v2 =>
  bif decide (v2 < a0.length) then
    (restore_Split_f1 n (ix a0 v2)).bind fun y3 =>
    bif !((decide (0 ≤ (ix a0 v2))) && (decide ((ix a0 v2) ≤ 1000000))) then
      some ((v2 : Nat) : Int)
    else
      chk (nI (v2 + 1)) <|
      back (v2 + 1)
  else
    k1 ()
def slices_IndexFunc_int (n : Nat) (a0 : List Int) : Option Int :=
  withK (fun (_ : Unit) =>
      some (-1)) fun k1 =>
  loopN (slices_IndexFunc_int_L1 n a0 k1) n 0
def slices_ContainsFunc_int (n : Nat) (a0 : List Int) : Option Bool :=
  (slices_IndexFunc_int n a0).bind fun y1 =>
  some (decide ((0 : Int) ≤ y1))
def slices_Max_int_L1 (a0 : List Int) (k1 : (Int → Option Int)) (back : Int × Nat → Option Int) : Int × Nat → Option Int
  | (v1, v2) =>
  bif decide (v2 < a0.length) then
    chk (nI (v2 + 1)) <|
    back (iMax v1 (ix a0 v2), v2 + 1)
  else
    k1 v1
def slices_Max_int (n : Nat) (a0 : List Int) : Option Int :=
  bif decide (a0.length < 1) then
    none
  else
    chk (decide (0 < a0.length)) <|
    withK (fun (v3 : Int) =>
        some v3) fun k1 =>
    loopN (slices_Max_int_L1 a0 k1) n ((ix a0 0), 1)
def cmp_isNaN_int (n : Nat) (a0 : Int) : Option Unit :=
  some ()
def cmp_Compare_int (n : Nat) (a0 : Int) (a1 : Int) : Option Int :=
  (cmp_isNaN_int n a0).bind fun y1 =>
  (cmp_isNaN_int n a1).bind fun y2 =>
  bif (a0 != a0) then
    bif (a1 != a1) then
      some 0
    else
      some (-1)
  else
    bif (a1 != a1) then
      some 1
    else
      bif decide (a0 < a1) then
        some (-1)
      else
        bif decide (a1 < a0) then
          some 1
        else
          some 0
def restore_Split_f2 (n : Nat) (a0 : Int) (a1 : Int) (a2 : Int) (a3 : List Int) (a4 : Int) : Option Int :=
  chk (inB a1 a3.length) <|
  chk (decide (a1.toNat < a3.length)) <|
  chk (inI (a2 * (ix a3 a1.toNat))) <|
  chk ((a4 != 0)) <|
  chk (inB a0 a3.length) <|
  chk (decide (a0.toNat < a3.length)) <|
  chk (inI (a2 * (ix a3 a0.toNat))) <|
  (cmp_Compare_int n (Int.tmod (a2 * (ix a3 a1.toNat)) a4) (Int.tmod (a2 * (ix a3 a0.toNat)) a4)).bind fun y1 =>
  some y1
def slices_insertionSortCmpFunc_int_L1 (n : Nat) (a1 : Int) (a3 : Int) (a4 : List Int) (a5 : Int) (k1 : ((List Int) → Option (List Int))) (back : Int × (List Int) → Option (List Int)) : Int × (List Int) → Option (List Int)
  | (v9, v10) =>
  chk (!(decide (a1 < v9)) || inB v9 v10.length) <|
  chk (!(decide (a1 < v9)) || decide (v9.toNat < v10.length)) <|
  chk (!(decide (a1 < v9)) || inI (v9 - 1)) <|
  chk (!(decide (a1 < v9)) || inB (v9 - 1) v10.length) <|
  chk (!(decide (a1 < v9)) || decide ((v9 - 1).toNat < v10.length)) <|
  (gcall (decide (a1 < v9)) (restore_Split_f2 n (ix v10 v9.toNat) (ix v10 ((v9 - 1).toNat)) a3 a4 a5)).bind fun y11 =>
  bif (decide (a1 < v9)) && (decide (y11 < (0 : Int))) then
    chk (inI (v9 - 1)) <|
    chk (inB (v9 - 1) v10.length) <|
    chk (decide ((v9 - 1).toNat < v10.length)) <|
    chk (inB v9 v10.length) <|
    chk (decide (v9.toNat < v10.length)) <|
    chk (decide ((v9 - 1).toNat < (List.set v10 v9.toNat (ix v10 ((v9 - 1).toNat))).length)) <|
    back (v9 - 1, (List.set (List.set v10 v9.toNat (ix v10 ((v9 - 1).toNat))) ((v9 - 1).toNat) (ix v10 v9.toNat)))
  else
    k1 v10
def slices_insertionSortCmpFunc_int_L2 (n : Nat) (a1 : Int) (a2 : Int) (a3 : Int) (a4 : List Int) (a5 : Int) (back : Int × (List Int) → Option (List Int)) : Int × (List Int) → Option (List Int)
  | (v6, v7) =>
  bif decide (v6 < a2) then
    withK (fun (v12 : (List Int)) =>
        chk (inI (v6 + 1)) <|
        back (v6 + 1, v12)) fun k1 =>
    loopN (slices_insertionSortCmpFunc_int_L1 n a1 a3 a4 a5 k1) n (v6, v7)
  else
    some v7
def slices_insertionSortCmpFunc_int (n : Nat) (a0 : List Int) (a1 : Int) (a2 : Int) (a3 : Int) (a4 : List Int) (a5 : Int) : Option (List Int) :=
  chk (inI (a1 + 1)) <|
  loopN (slices_insertionSortCmpFunc_int_L2 n a1 a2 a3 a4 a5) n (a1 + 1, a0)
def slices_swapRangeCmpFunc_int_L1 (a1 : Int) (a2 : Int) (a3 : Int) (back : Nat × (List Int) → Option (List Int)) : Nat × (List Int) → Option (List Int)
  | (v1, v2) =>
  bif decide (((v1 : Nat) : Int) < a3) then
    chk (inI (a1 + ((v1 : Nat) : Int))) <|
    chk (inI (a2 + ((v1 : Nat) : Int))) <|
    chk (inB (a2 + ((v1 : Nat) : Int)) v2.length) <|
    chk (decide ((a2 + ((v1 : Nat) : Int)).toNat < v2.length)) <|
    chk (inB (a1 + ((v1 : Nat) : Int)) v2.length) <|
    chk (decide ((a1 + ((v1 : Nat) : Int)).toNat < v2.length)) <|
    chk (decide ((a2 + ((v1 : Nat) : Int)).toNat < (List.set v2 ((a1 + ((v1 : Nat) : Int)).toNat) (ix v2 ((a2 + ((v1 : Nat) : Int)).toNat))).length)) <|
    chk (nI (v1 + 1)) <|
    back (v1 + 1, (List.set (List.set v2 ((a1 + ((v1 : Nat) : Int)).toNat) (ix v2 ((a2 + ((v1 : Nat) : Int)).toNat))) ((a2 + ((v1 : Nat) : Int)).toNat) (ix v2 ((a1 + ((v1 : Nat) : Int)).toNat))))
  else
    some v2
def slices_swapRangeCmpFunc_int (n : Nat) (a0 : List Int) (a1 : Int) (a2 : Int) (a3 : Int) (a4 : Int) (a5 : List Int) (a6 : Int) : Option (List Int) :=
  loopN (slices_swapRangeCmpFunc_int_L1 a1 a2 a3) n (0, a0)
def slices_rotateCmpFunc_int_L1 (n : Nat) (a2 : Int) (a4 : Int) (a5 : List Int) (a6 : Int) (k1 : (Int × (List Int) → Option (List Int))) (back : Int × (List Int) × Int → Option (List Int)) : Int × (List Int) × Int → Option (List Int)
  | (v3, v4, v5) =>
  bif (v3 != v5) then
    bif decide (v5 < v3) then
      chk (inI (a2 - v3)) <|
      (slices_swapRangeCmpFunc_int n v4 (a2 - v3) a2 v5 a4 a5 a6).bind fun y6 =>
      chk (decide (v4.length = y6.length)) <|
      chk (inI (v3 - v5)) <|
      back (v3 - v5, y6, v5)
    else
      chk (inI (a2 - v3)) <|
      chk (inI (a2 + v5)) <|
      chk (inI ((a2 + v5) - v3)) <|
      (slices_swapRangeCmpFunc_int n v4 (a2 - v3) ((a2 + v5) - v3) v3 a4 a5 a6).bind fun y7 =>
      chk (decide (v4.length = y7.length)) <|
      chk (inI (v5 - v3)) <|
      back (v3, y7, v5 - v3)
  else
    k1 (v3, v4)
def slices_rotateCmpFunc_int (n : Nat) (a0 : List Int) (a1 : Int) (a2 : Int) (a3 : Int) (a4 : Int) (a5 : List Int) (a6 : Int) : Option (List Int) :=
  chk (inI (a2 - a1)) <|
  chk (inI (a3 - a2)) <|
  withK (fun (v8, v9) =>
      chk (inI (a2 - v8)) <|
      (slices_swapRangeCmpFunc_int n v9 (a2 - v8) a2 v8 a4 a5 a6).bind fun y10 =>
      chk (decide (v9.length = y10.length)) <|
      some y10) fun k1 =>
  loopN (slices_rotateCmpFunc_int_L1 n a2 a4 a5 a6 k1) n (a2 - a1, a0, a3 - a2)
def slices_symMergeCmpFunc_int_L2 (v5 : Int) (k2 : ((List Int) → Option (List Int))) (back : Int × (List Int) → Option (List Int)) : Int × (List Int) → Option (List Int)
  | (v6, v7) =>
  chk (inI (v5 - 1)) <|
  bif decide (v6 < (v5 - 1)) then
    chk (inI (v6 + 1)) <|
    chk (inB (v6 + 1) v7.length) <|
    chk (decide ((v6 + 1).toNat < v7.length)) <|
    chk (inB v6 v7.length) <|
    chk (decide (v6.toNat < v7.length)) <|
    chk (decide ((v6 + 1).toNat < (List.set v7 v6.toNat (ix v7 ((v6 + 1).toNat))).length)) <|
    back (v6 + 1, (List.set (List.set v7 v6.toNat (ix v7 ((v6 + 1).toNat))) ((v6 + 1).toNat) (ix v7 v6.toNat)))
  else
    k2 v7
def slices_symMergeCmpFunc_int_L1 (n : Nat) (a0 : List Int) (a1 : Int) (a4 : Int) (a5 : List Int) (a6 : Int) (k1 : (Int → Option (List Int))) (back : Int × Int → Option (List Int)) : Int × Int → Option (List Int)
  | (v2, v3) =>
  bif decide (v2 < v3) then
    chk (inI (v2 + v3)) <|
    chk (inI (Int.fdiv (IntKind.u64.wrap (v2 + v3)) (2 ^ (min 1 64)))) <|
    chk (inB (Int.fdiv (IntKind.u64.wrap (v2 + v3)) (2 ^ (min 1 64))) a0.length) <|
    chk (decide ((Int.fdiv (IntKind.u64.wrap (v2 + v3)) (2 ^ (min 1 64))).toNat < a0.length)) <|
    chk (inB a1 a0.length) <|
    chk (decide (a1.toNat < a0.length)) <|
    (restore_Split_f2 n (ix a0 ((Int.fdiv (IntKind.u64.wrap (v2 + v3)) (2 ^ (min 1 64))).toNat)) (ix a0 a1.toNat) a4 a5 a6).bind fun y4 =>
    bif decide (y4 < (0 : Int)) then
      chk (inI ((Int.fdiv (IntKind.u64.wrap (v2 + v3)) (2 ^ (min 1 64))) + 1)) <|
      back ((Int.fdiv (IntKind.u64.wrap (v2 + v3)) (2 ^ (min 1 64))) + 1, v3)
    else
      back (v2, Int.fdiv (IntKind.u64.wrap (v2 + v3)) (2 ^ (min 1 64)))
  else
    k1 v2
def slices_symMergeCmpFunc_int_L4 (v13 : Int) (k4 : ((List Int) → Option (List Int))) (back : Int × (List Int) → Option (List Int)) : Int × (List Int) → Option (List Int)
  | (v14, v15) =>
  bif decide (v13 < v14) then
    chk (inI (v14 - 1)) <|
    chk (inB (v14 - 1) v15.length) <|
    chk (decide ((v14 - 1).toNat < v15.length)) <|
    chk (inB v14 v15.length) <|
    chk (decide (v14.toNat < v15.length)) <|
    chk (decide ((v14 - 1).toNat < (List.set v15 v14.toNat (ix v15 ((v14 - 1).toNat))).length)) <|
    back (v14 - 1, (List.set (List.set v15 v14.toNat (ix v15 ((v14 - 1).toNat))) ((v14 - 1).toNat) (ix v15 v14.toNat)))
  else
    k4 v15
def slices_symMergeCmpFunc_int_L3 (n : Nat) (a0 : List Int) (a2 : Int) (a4 : Int) (a5 : List Int) (a6 : Int) (k3 : (Int → Option (List Int))) (back : Int × Int → Option (List Int)) : Int × Int → Option (List Int)
  | (v10, v11) =>
  bif decide (v10 < v11) then
    chk (inI (v10 + v11)) <|
    chk (inI (Int.fdiv (IntKind.u64.wrap (v10 + v11)) (2 ^ (min 1 64)))) <|
    chk (inB a2 a0.length) <|
    chk (decide (a2.toNat < a0.length)) <|
    chk (inB (Int.fdiv (IntKind.u64.wrap (v10 + v11)) (2 ^ (min 1 64))) a0.length) <|
    chk (decide ((Int.fdiv (IntKind.u64.wrap (v10 + v11)) (2 ^ (min 1 64))).toNat < a0.length)) <|
    (restore_Split_f2 n (ix a0 a2.toNat) (ix a0 ((Int.fdiv (IntKind.u64.wrap (v10 + v11)) (2 ^ (min 1 64))).toNat)) a4 a5 a6).bind fun y12 =>
    bif !(decide (y12 < (0 : Int))) then
      chk (inI ((Int.fdiv (IntKind.u64.wrap (v10 + v11)) (2 ^ (min 1 64))) + 1)) <|
      back ((Int.fdiv (IntKind.u64.wrap (v10 + v11)) (2 ^ (min 1 64))) + 1, v11)
    else
      back (v10, Int.fdiv (IntKind.u64.wrap (v10 + v11)) (2 ^ (min 1 64)))
  else
    k3 v10
def slices_symMergeCmpFunc_int_L5 (n : Nat) (a0 : List Int) (a1 : Int) (a2 : Int) (a3 : Int) (a4 : Int) (a5 : List Int) (a6 : Int) (k6 : (Int → Option (List Int))) (back : Int × Int → Option (List Int)) : Int × Int → Option (List Int)
  | (v20, v21) =>
  bif decide (v20 < v21) then
    chk (inI (v20 + v21)) <|
    chk (inI (Int.fdiv (IntKind.u64.wrap (v20 + v21)) (2 ^ (min 1 64)))) <|
    chk (inI ((((Int.fdiv (IntKind.u64.wrap (a1 + a3)) (2 ^ (min 1 64))) + a2) - 1) - (Int.fdiv (IntKind.u64.wrap (v20 + v21)) (2 ^ (min 1 64))))) <|
    chk (inB ((((Int.fdiv (IntKind.u64.wrap (a1 + a3)) (2 ^ (min 1 64))) + a2) - 1) - (Int.fdiv (IntKind.u64.wrap (v20 + v21)) (2 ^ (min 1 64)))) a0.length) <|
    chk (decide (((((Int.fdiv (IntKind.u64.wrap (a1 + a3)) (2 ^ (min 1 64))) + a2) - 1) - (Int.fdiv (IntKind.u64.wrap (v20 + v21)) (2 ^ (min 1 64)))).toNat < a0.length)) <|
    chk (inB (Int.fdiv (IntKind.u64.wrap (v20 + v21)) (2 ^ (min 1 64))) a0.length) <|
    chk (decide ((Int.fdiv (IntKind.u64.wrap (v20 + v21)) (2 ^ (min 1 64))).toNat < a0.length)) <|
    (restore_Split_f2 n (ix a0 (((((Int.fdiv (IntKind.u64.wrap (a1 + a3)) (2 ^ (min 1 64))) + a2) - 1) - (Int.fdiv (IntKind.u64.wrap (v20 + v21)) (2 ^ (min 1 64)))).toNat)) (ix a0 ((Int.fdiv (IntKind.u64.wrap (v20 + v21)) (2 ^ (min 1 64))).toNat)) a4 a5 a6).bind fun y22 =>
    bif !(decide (y22 < (0 : Int))) then
      chk (inI ((Int.fdiv (IntKind.u64.wrap (v20 + v21)) (2 ^ (min 1 64))) + 1)) <|
      back ((Int.fdiv (IntKind.u64.wrap (v20 + v21)) (2 ^ (min 1 64))) + 1, v21)
    else
      back (v20, Int.fdiv (IntKind.u64.wrap (v20 + v21)) (2 ^ (min 1 64)))
  else
    k6 v20
def slices_symMergeCmpFunc_int_F (n : Nat) (self : (List Int) × Int × Int × Int × Int × (List Int) × Int → Option (List Int)) : (List Int) × Int × Int × Int × Int × (List Int) × Int → Option (List Int)
  | (a0, a1, a2, a3, a4, a5, a6) =>
  chk (inI (a2 - a1)) <|
  bif ((a2 - a1) == (1 : Int)) then
    withK (fun (v5 : Int) =>
        withK (fun (v8 : (List Int)) =>
            some v8) fun k2 =>
        loopN (slices_symMergeCmpFunc_int_L2 v5 k2) n (a1, a0)) fun k1 =>
    loopN (slices_symMergeCmpFunc_int_L1 n a0 a1 a4 a5 a6 k1) n (a2, a3)
  else
    chk (inI (a3 - a2)) <|
    bif ((a3 - a2) == (1 : Int)) then
      withK (fun (v13 : Int) =>
          withK (fun (v16 : (List Int)) =>
              some v16) fun k4 =>
          loopN (slices_symMergeCmpFunc_int_L4 v13 k4) n (a2, a0)) fun k3 =>
      loopN (slices_symMergeCmpFunc_int_L3 n a0 a2 a4 a5 a6 k3) n (a1, a2)
    else
      chk (inI (a1 + a3)) <|
      chk (inI (Int.fdiv (IntKind.u64.wrap (a1 + a3)) (2 ^ (min 1 64)))) <|
      chk (inI ((Int.fdiv (IntKind.u64.wrap (a1 + a3)) (2 ^ (min 1 64))) + a2)) <|
      withK (fun (v17, v18) =>
          chk (inI (((Int.fdiv (IntKind.u64.wrap (a1 + a3)) (2 ^ (min 1 64))) + a2) - 1)) <|
          withK (fun (v23 : Int) =>
              chk (inI (((Int.fdiv (IntKind.u64.wrap (a1 + a3)) (2 ^ (min 1 64))) + a2) - v23)) <|
              withK (fun (v25 : (List Int)) =>
                  withK (fun (v27 : (List Int)) =>
                      bif (decide ((Int.fdiv (IntKind.u64.wrap (a1 + a3)) (2 ^ (min 1 64))) < (((Int.fdiv (IntKind.u64.wrap (a1 + a3)) (2 ^ (min 1 64))) + a2) - v23))) && (decide ((((Int.fdiv (IntKind.u64.wrap (a1 + a3)) (2 ^ (min 1 64))) + a2) - v23) < a3)) then
                        (self (v27, Int.fdiv (IntKind.u64.wrap (a1 + a3)) (2 ^ (min 1 64)), ((Int.fdiv (IntKind.u64.wrap (a1 + a3)) (2 ^ (min 1 64))) + a2) - v23, a3, a4, a5, a6)).bind fun y28 =>
                        chk (decide (v27.length = y28.length)) <|
                        some y28
                      else
                        some v27) fun k8 =>
                  bif (decide (a1 < v23)) && (decide (v23 < (Int.fdiv (IntKind.u64.wrap (a1 + a3)) (2 ^ (min 1 64))))) then
                    (self (v25, a1, v23, Int.fdiv (IntKind.u64.wrap (a1 + a3)) (2 ^ (min 1 64)), a4, a5, a6)).bind fun y26 =>
                    chk (decide (v25.length = y26.length)) <|
                    k8 y26
                  else
                    k8 v25) fun k7 =>
              bif (decide (v23 < a2)) && (decide (a2 < (((Int.fdiv (IntKind.u64.wrap (a1 + a3)) (2 ^ (min 1 64))) + a2) - v23))) then
                (slices_rotateCmpFunc_int n a0 v23 a2 (((Int.fdiv (IntKind.u64.wrap (a1 + a3)) (2 ^ (min 1 64))) + a2) - v23) a4 a5 a6).bind fun y24 =>
                chk (decide (a0.length = y24.length)) <|
                k7 y24
              else
                k7 a0) fun k6 =>
          loopN (slices_symMergeCmpFunc_int_L5 n a0 a1 a2 a3 a4 a5 a6 k6) n (v17, v18)) fun k5 =>
      bif decide ((Int.fdiv (IntKind.u64.wrap (a1 + a3)) (2 ^ (min 1 64))) < a2) then
        chk (inI (((Int.fdiv (IntKind.u64.wrap (a1 + a3)) (2 ^ (min 1 64))) + a2) - a3)) <|
        k5 (((Int.fdiv (IntKind.u64.wrap (a1 + a3)) (2 ^ (min 1 64))) + a2) - a3, Int.fdiv (IntKind.u64.wrap (a1 + a3)) (2 ^ (min 1 64)))
      else
        k5 (a1, a2)
def slices_symMergeCmpFunc_int (n : Nat) (a0 : List Int) (a1 : Int) (a2 : Int) (a3 : Int) (a4 : Int) (a5 : List Int) (a6 : Int) : Option (List Int) := loopN (slices_symMergeCmpFunc_int_F n) n (a0, a1, a2, a3, a4, a5, a6)
def slices_stableCmpFunc_int_L2 (n : Nat) (a1 : Int) (a2 : Int) (a3 : List Int) (a4 : Int) (v18 : Int) (k2 : (Int × (List Int) → Option (List Int))) (back : Int × Int × (List Int) → Option (List Int)) : Int × Int × (List Int) → Option (List Int)
  | (v21, v22, v23) =>
  bif decide (v22 ≤ a1) then
    chk (inI (v21 + v18)) <|
    (slices_symMergeCmpFunc_int n v23 v21 (v21 + v18) v22 a2 a3 a4).bind fun y24 =>
    chk (decide (v23.length = y24.length)) <|
    chk (inI (v22 + (2 * v18))) <|
    back (v22, v22 + (2 * v18), y24)
  else
    k2 (v21, v23)
def slices_stableCmpFunc_int_L3 (n : Nat) (a1 : Int) (a2 : Int) (a3 : List Int) (a4 : Int) (back : Int × (List Int) → Option (List Int)) : Int × (List Int) → Option (List Int)
  | (v18, v19) =>
  bif decide (v18 < a1) then
    chk (inI (2 * v18)) <|
    withK (fun (v25, v26) =>
        withK (fun (v28 : (List Int)) =>
            chk (inI (v18 * 2)) <|
            back (v18 * 2, v28)) fun k3 =>
        chk (inI (v25 + v18)) <|
        bif decide ((v25 + v18) < a1) then
          (slices_symMergeCmpFunc_int n v26 v25 (v25 + v18) a1 a2 a3 a4).bind fun y27 =>
          chk (decide (v26.length = y27.length)) <|
          k3 y27
        else
          k3 v26) fun k2 =>
    loopN (slices_stableCmpFunc_int_L2 n a1 a2 a3 a4 v18 k2) n (0, 2 * v18, v19)
  else
    some v19
def slices_stableCmpFunc_int_L1 (n : Nat) (a1 : Int) (a2 : Int) (a3 : List Int) (a4 : Int) (k1 : (Int × (List Int) → Option (List Int))) (back : Int × Nat × (List Int) → Option (List Int)) : Int × Nat × (List Int) → Option (List Int)
  | (v2, v3, v4) =>
  bif decide (((v3 : Nat) : Int) ≤ a1) then
    (slices_insertionSortCmpFunc_int n v4 v2 ((v3 : Nat) : Int) a2 a3 a4).bind fun y5 =>
    chk (decide (v4.length = y5.length)) <|
    chk (nI (v3 + 20)) <|
    back (((v3 : Nat) : Int), v3 + 20, y5)
  else
    k1 (v2, v4)
def slices_stableCmpFunc_int (n : Nat) (a0 : List Int) (a1 : Int) (a2 : Int) (a3 : List Int) (a4 : Int) : Option (List Int) :=
  withK (fun (v6, v7) =>
      (slices_insertionSortCmpFunc_int n v7 v6 a1 a2 a3 a4).bind fun y8 =>
      chk (decide (v7.length = y8.length)) <|
      loopN (slices_stableCmpFunc_int_L3 n a1 a2 a3 a4) n (20, y8)) fun k1 =>
  loopN (slices_stableCmpFunc_int_L1 n a1 a2 a3 a4 k1) n (0, 20, a0)
def slices_SortStableFunc_int (n : Nat) (a0 : List Int) (a1 : Int) (a2 : List Int) (a3 : Int) : Option (List Int) :=
  (slices_stableCmpFunc_int n a0 ((a0.length : Nat) : Int) a1 a2 a3).bind fun y1 =>
  chk (decide (a0.length = y1.length)) <|
  some y1
def restore_Split_L3 (v11 : Int) (y14 : (List Int)) (k3 : ((List Int) → Option (Int × (List Int)))) (back : Nat × (List Int) → Option (Int × (List Int))) : Nat × (List Int) → Option (Int × (List Int))
  | (v15, v16) =>
  bif decide (v15 < v11.toNat) then
    chk (decide (v15 < y14.length)) <|
    chk (inB (ix y14 v15) v16.length) <|
    chk (decide ((ix y14 v15).toNat < v16.length)) <|
    chk (inI ((ix v16 ((ix y14 v15).toNat)) + 1)) <|
    chk (nI (v15 + 1)) <|
    back (v15 + 1, (List.set v16 ((ix y14 v15).toNat) ((ix v16 ((ix y14 v15).toNat)) + 1)))
  else
    k3 v16
def restore_Split_L2 (a0 : Int) (a1 : List Int) (v6 : Int) (k2 : (Int × (List Int) × (List Int) → Option (Int × (List Int)))) (back : Int × Nat × (List Int) × (List Int) → Option (Int × (List Int))) : Int × Nat × (List Int) × (List Int) → Option (Int × (List Int))
  | (v7, v8, v9, v10) =>
  bif decide (v8 < a1.length) then
    chk (inI (a0 * (ix a1 v8))) <|
    chk ((v6 != 0 && inI (Int.tdiv (a0 * (ix a1 v8)) v6))) <|
    chk (decide (v8 < v10.length)) <|
    chk (decide (v8 < v9.length)) <|
    chk (decide (v8 < (List.set v10 v8 (Int.tdiv (a0 * (ix a1 v8)) v6)).length)) <|
    chk (inI (v7 - (ix (List.set v10 v8 (Int.tdiv (a0 * (ix a1 v8)) v6)) v8))) <|
    chk (nI (v8 + 1)) <|
    back (v7 - (ix (List.set v10 v8 (Int.tdiv (a0 * (ix a1 v8)) v6)) v8), v8 + 1, (List.set v9 v8 ((v8 : Nat) : Int)), (List.set v10 v8 (Int.tdiv (a0 * (ix a1 v8)) v6)))
  else
    k2 (v7, v9, v10)
def restore_Split_L1 (a1 : List Int) (k1 : (Int → Option (Int × (List Int)))) (back : Nat × Int → Option (Int × (List Int))) : Nat × Int → Option (Int × (List Int))
  | (v4, v5) =>
  bif decide (v4 < a1.length) then
    chk (inI (v5 + (ix a1 v4))) <|
    chk (nI (v4 + 1)) <|
    back (v4 + 1, v5 + (ix a1 v4))
  else
    k1 v5
def restore_Split (n : Nat) (a0 : Int) (a1 : List Int) : Option (Int × (List Int)) :=
  (restore_within n a0 0 1000000000000).bind fun y1 =>
  bif !((decide (0 ≤ a0)) && (decide (a0 ≤ 1000000000000))) then
    some (2, ([] : List Int))
  else
    bif decide (a1.length = 0) then
      some (10, ([] : List Int))
    else
      bif decide (60 < a1.length) then
        some (8, ([] : List Int))
      else
        (slices_ContainsFunc_int n a1).bind fun y2 =>
        bif y2 then
          some (2, ([] : List Int))
        else
          (slices_Max_int n a1).bind fun y3 =>
          bif (y3 == (0 : Int)) then
            some (11, ([] : List Int))
          else
            withK (fun (v6 : Int) =>
                chk (mkroom 8 a1.length) <|
                withK (fun (v11, v12, v13) =>
                    (slices_SortStableFunc_int n v12 a0 a1 v6).bind fun y14 =>
                    chk (decide (v12.length = y14.length)) <|
                    withK (fun (v17 : (List Int)) =>
                        some (0, v17)) fun k3 =>
                    chk (inC v11 y14.length) <|
                    loopN (restore_Split_L3 v11 y14 k3) n (0, v13)) fun k2 =>
                loopN (restore_Split_L2 a0 a1 v6 k2) n (a0, 0, (List.replicate a1.length (0 : Int)), (List.replicate a1.length (0 : Int)))) fun k1 =>
            loopN (restore_Split_L1 a1 k1) n (0, 0)
def agraffebase_Within (n : Nat) (a0 : Int) (a1 : Int) (a2 : Int) : Option Unit :=
  some ()
def agraffebase_Floor (n : Nat) (a0 : Int) (a1 : Int) : Option Int :=
  chk ((a1 != 0 && inI (Int.tdiv a0 a1))) <|
  withK (fun (v1 : Int) =>
      some v1) fun k1 =>
  chk ((a1 != 0)) <|
  bif decide ((Int.tmod a0 a1) < (0 : Int)) then
    chk (inI ((Int.tdiv a0 a1) - 1)) <|
    k1 ((Int.tdiv a0 a1) - 1)
  else
    k1 (Int.tdiv a0 a1)
def agrafferef08_Split_L3 (v22 : List Int) (k4 : (Int → Option (Int × (List Int)))) (back : Int × Nat → Option (Int × (List Int))) : Int × Nat → Option (Int × (List Int))
  | (v25, v26) =>
  bif decide (v26 < v22.length) then
    withK (fun (v27 : Int) =>
        chk (nI (v26 + 1)) <|
        back (v27, v26 + 1)) fun k3 =>
    chk (inB v25 v22.length) <|
    chk (decide (v25.toNat < v22.length)) <|
    bif decide ((ix v22 v25.toNat) < (ix v22 v26)) then
      k3 ((v26 : Nat) : Int)
    else
      k3 v25
  else
    k4 v25
def agrafferef08_Split_L4 (n : Nat) (k5 : ((List Int) → Option (Int × (List Int)))) (back : Int × (List Int) × (List Int) → Option (Int × (List Int))) : Int × (List Int) × (List Int) → Option (Int × (List Int))
  | (v21, v22, v23) =>
  bif decide ((0 : Int) < v21) then
    withK (fun (v28 : Int) =>
        chk (inB v28 v23.length) <|
        chk (decide (v28.toNat < v23.length)) <|
        chk (inI ((ix v23 v28.toNat) + 1)) <|
        chk (inB v28 v22.length) <|
        chk (decide (v28.toNat < v22.length)) <|
        chk (inI (v21 - 1)) <|
        back (v21 - 1, (List.set v22 v28.toNat (-1)), (List.set v23 v28.toNat ((ix v23 v28.toNat) + 1)))) fun k4 =>
    loopN (agrafferef08_Split_L3 v22 k4) n (0, 1)
  else
    k5 v23
def agrafferef08_Split_L2 (n : Nat) (a0 : Int) (a1 : List Int) (v6 : Int) (k2 : (Int × (List Int) × (List Int) → Option (Int × (List Int)))) (back : (List Int) × (List Int) × Int × Nat → Option (Int × (List Int))) : (List Int) × (List Int) × Int × Nat → Option (Int × (List Int))
  | (v8, v9, v10, v11) =>
  bif decide (v11 < a1.length) then
    chk (inI (a0 * (ix a1 v11))) <|
    (agraffebase_Floor n (a0 * (ix a1 v11)) v6).bind fun y12 =>
    chk (room 8 (v8 ++ ([y12] : List Int)).length) <|
    chk (decide (v11 < ((v8 ++ ([y12] : List Int)).length))) <|
    chk (decide (v11 < (v8 ++ ([y12] : List Int)).length)) <|
    chk (inI ((ix (v8 ++ ([y12] : List Int)) v11) * v6)) <|
    chk (inI ((a0 * (ix a1 v11)) - ((ix (v8 ++ ([y12] : List Int)) v11) * v6))) <|
    chk (room 8 (v9 ++ ([(a0 * (ix a1 v11)) - ((ix (v8 ++ ([y12] : List Int)) v11) * v6)] : List Int)).length) <|
    chk (inI (v10 - (ix (v8 ++ ([y12] : List Int)) v11))) <|
    chk (nI (v11 + 1)) <|
    back ((v8 ++ ([y12] : List Int)), (v9 ++ ([(a0 * (ix a1 v11)) - ((ix (v8 ++ ([y12] : List Int)) v11) * v6)] : List Int)), v10 - (ix (v8 ++ ([y12] : List Int)) v11), v11 + 1)
  else
    k2 (v10, v9, v8)
def agrafferef08_Split_L1 (n : Nat) (a1 : List Int) (k1 : (Int → Option (Int × (List Int)))) (back : Int × Nat → Option (Int × (List Int))) : Int × Nat → Option (Int × (List Int))
  | (v3, v4) =>
  bif decide (v4 < a1.length) then
    (agraffebase_Within n (ix a1 v4) 0 1000000).bind fun y5 =>
    bif !((decide (0 ≤ (ix a1 v4))) && (decide ((ix a1 v4) ≤ 1000000))) then
      some (2, ([] : List Int))
    else
      chk (inI (v3 + (ix a1 v4))) <|
      chk (nI (v4 + 1)) <|
      back (v3 + (ix a1 v4), v4 + 1)
  else
    k1 v3
def agrafferef08_Split (n : Nat) (a0 : Int) (a1 : List Int) : Option (Int × (List Int)) :=
  (agraffebase_Within n a0 0 1000000000000).bind fun y1 =>
  bif !((decide (0 ≤ a0)) && (decide (a0 ≤ 1000000000000))) then
    some (2, ([] : List Int))
  else
    bif decide (a1.length = 0) then
      some (10, ([] : List Int))
    else
      bif decide (60 < a1.length) then
        some (8, ([] : List Int))
      else
        withK (fun (v6 : Int) =>
            bif (v6 == (0 : Int)) then
              some (11, ([] : List Int))
            else
              withK (fun (v13, v14, v15) =>
                  withK (fun (v29 : (List Int)) =>
                      some (0, v29)) fun k5 =>
                  loopN (agrafferef08_Split_L4 n k5) n (v13, v14, v15)) fun k2 =>
              loopN (agrafferef08_Split_L2 n a0 a1 v6 k2) n (([] : List Int), ([] : List Int), a0, 0)) fun k1 =>
        loopN (agrafferef08_Split_L1 n a1 k1) n (0, 0)
def agraffebase_Ints_L1 (a0 : List Int) (a1 : List Int) (k1 : (Unit → Option Bool)) (back : Nat → Option Bool) : Nat → Option Bool
  | v1 =>
  bif decide (v1 < a0.length) then
    chk (decide (v1 < a1.length)) <|
    bif ((ix a0 v1) != (ix a1 v1)) then
      some false
    else
      chk (nI (v1 + 1)) <|
      back (v1 + 1)
  else
    k1 ()
def agraffebase_Ints (n : Nat) (a0 : List Int) (a1 : List Int) : Option Bool :=
  bif !decide (a0.length = a1.length) then
    some false
  else
    withK (fun (_ : Unit) =>
        some true) fun k1 =>
    loopN (agraffebase_Ints_L1 a0 a1 k1) n 0
def agraffelaw08_RestoreSplits_L1 (n : Nat) (a1 : List Int) (y3 : Int × (List Int)) (v7 : Nat) (k1 : (Unit → Option Bool)) (back : Nat → Option Bool) : Nat → Option Bool
  | v9 =>
  bif decide (v9 < v7) then
    chk (decide (v9 < a1.length)) <|
    chk (decide (v7 < a1.length)) <|
    chk (!((ix a1 v9) == (ix a1 v7)) || decide (v9 < y3.2.length)) <|
    chk (!((ix a1 v9) == (ix a1 v7)) || decide (v9 < y3.2.length)) <|
    chk (!((ix a1 v9) == (ix a1 v7)) || inI ((ix y3.2 v9) - (ix y3.2 v7))) <|
    (gcall ((ix a1 v9) == (ix a1 v7)) (agraffebase_Within n ((ix y3.2 v9) - (ix y3.2 v7)) 0 1)).bind fun y10 =>
    bif ((ix a1 v9) == (ix a1 v7)) && (!((decide (0 ≤ ((ix y3.2 v9) - (ix y3.2 v7)))) && (decide (((ix y3.2 v9) - (ix y3.2 v7)) ≤ 1)))) then
      some false
    else
      chk (nI (v9 + 1)) <|
      back (v9 + 1)
  else
    k1 ()
def agraffelaw08_RestoreSplits_L2 (n : Nat) (a1 : List Int) (y3 : Int × (List Int)) (k2 : (Int → Option Bool)) (back : Int × Nat → Option Bool) : Int × Nat → Option Bool
  | (v6, v7) =>
  bif decide (v7 < y3.2.length) then
    withK (fun (_ : Unit) =>
        chk (nI (v7 + 1)) <|
        back (v6 + (ix y3.2 v7), v7 + 1)) fun k1 =>
    chk (inI (v6 + (ix y3.2 v7))) <|
    loopN (agraffelaw08_RestoreSplits_L1 n a1 y3 v7 k1) n 0
  else
    k2 v6
def agraffelaw08_RestoreSplits (n : Nat) (a0 : Int) (a1 : List Int) : Option Bool :=
  (agraffelaw08_awake n).bind fun y1 =>
  bif !y1 then
    some false
  else
    bif decide (65 < a1.length) then
      some true
    else
      (agraffebase_CopyInts n a1).bind fun y2 =>
      (restore_Split n a0 a1).bind fun y3 =>
      (agrafferef08_Split n a0 a1).bind fun y4 =>
      (gcall (!(y3.1 != y4.1)) (agraffebase_Ints n y3.2 y4.2)).bind fun y5 =>
      bif (y3.1 != y4.1) || (!y5) then
        some false
      else
        bif (y4.1 != (0 : Int)) then
          some true
        else
          withK (fun (v11 : Int) =>
              some (v11 == a0)) fun k2 =>
          loopN (agraffelaw08_RestoreSplits_L2 n a1 y3 k2) n (0, 0)
end
section
set_option maxRecDepth 4000
open Go
theorem loopN_s {α β : Type} (F : (α → Option β) → α → Option β) (n : Nat) (t : α) : loopN F (n + 1) t = F (loopN F n) t := rfl
@[simp] theorem chk_t {α : Type} (k : Option α) : chk true k = k := rfl
theorem chk_of {α : Type} {b : Bool} {k : Option α} (h : b = true) : chk b k = k := by subst h; rfl
@[simp] theorem withK_eq {α β : Type} (j : α → Option β) (f : (α → Option β) → Option β) : withK j f = f j := rfl
@[simp] theorem gcall_some_ {α : Type} [Inhabited α] (g : Bool) (x : α) : (gcall g (some x)) = some (bif g then x else default) := by cases g <;> rfl
theorem nI_of {n : Nat} (h : n ≤ 9223372036854775807) : nI n = true := by simp [nI, h]
theorem inI_of {n : Int} (h : -9223372036854775808 ≤ n) (h2 : n ≤ 9223372036854775807) : inI n = true := by simp [inI, h, h2]
theorem room_of {b n : Nat} (h : n * b ≤ 140737488355328) (h2 : n ≤ 9223372036854775807) : room b n = true := by simp [room, h, h2]
theorem inB_of {q : Int} {n : Nat} (h : 0 ≤ q) (h2 : q.toNat < n) : inB q n = true := by simp [inB, h, h2]
theorem inC_of {q : Int} {n : Nat} (h : 0 ≤ q) (h2 : q.toNat ≤ n) : inC q n = true := by simp [inC, h, h2]
theorem drop_ix {α : Type} [Inhabited α] {l : List α} {v : Nat} (h : v < l.length) : l.drop v = ix l v :: l.drop (v + 1) := by
  rw [ix_eq h]; exact List.drop_eq_getElem_cons h
theorem drop_nil {α : Type} {l : List α} {v : Nat} (h : ¬ v < l.length) : l.drop v = [] := List.drop_eq_nil_of_le (by omega)
end
section
set_option maxRecDepth 4000
open Go
theorem bne_t {x : Int} (h : ¬ x = 0) : (x != 0) = true := by simp [bne, h]
def firstE (E : Nat → Int) : Nat → Nat → Int
  | _, 0 => 0
  | v, m + 1 => bif E v != 0 then E v else firstE E (v + 1) m
theorem loop_first {σ R : Type} {F : (σ → Option R) → σ → Option R} {st : Nat → σ} {E : Nat → Int} {err : Int → Option R} {k : Option R} {len : Nat}
    (h1 : ∀ back v, v < len → (∀ j, j < v → E j = 0) → F back (st v) = bif E v != 0 then err (E v) else back (st (v + 1)))
    (h2 : ∀ back, (∀ j, j < len → E j = 0) → F back (st len) = k) : ∀ n v, len - v < n → v ≤ len → (∀ j, j < v → E j = 0) → loopN F n (st v) = bif firstE E v (len - v) != 0 then err (firstE E v (len - v)) else k := by
  intro n
  induction n with
  | zero => intro v h; omega
  | succ n ih =>
    intro v hn hv hz
    rw [loopN_s]
    by_cases h : v < len
    · rw [h1 _ v h hz, show len - v = (len - (v + 1)) + 1 by omega]
      unfold firstE
      by_cases e : E v = 0
      · simp only [e, bne_self_eq_false, cond_false]
        exact ih (v + 1) (by omega) (by omega) fun j hj => by
          by_cases hjv : j = v
          · rw [hjv]; exact e
          · exact hz j (by omega)
      · rw [bne_t e, cond_true, cond_true, bne_t e, cond_true]
    · have : v = len := by omega
      subst this
      rw [h2 _ hz, Nat.sub_self]
      simp [firstE]
theorem loop_through {σ R : Type} {F : (σ → Option R) → σ → Option R} {st : Nat → σ} {k : Option R} {len : Nat} (h1 : ∀ back v, v < len → F back (st v) = back (st (v + 1))) (h2 : ∀ back, F back (st len) = k) : ∀ n, len < n → loopN F n (st 0) = k := by
  intro n hn
  have := loop_first (F := F) (st := st) (E := fun _ => 0) (err := fun _ => none) (k := k) (len := len) (fun back v hv _ => by simp [h1 back v hv]) (fun back _ => h2 back) n 0 (by omega) (by omega) (fun _ _ => rfl)
  rw [this, Nat.sub_zero]
  have : firstE (fun _ => (0 : Int)) 0 len = 0 := by
    have : ∀ m v, firstE (fun _ => (0 : Int)) v m = 0 := by
      intro m
      induction m with
      | zero => intro v; rfl
      | succ m ih => intro v; simp [firstE, ih]
    exact this _ _
  rw [this]; rfl
def findI {α : Type} (p : α → Bool) (l : List α) : Int := match l.findIdx? p with
  | some i => ((i : Nat) : Int)
  | none => -1
end
section
set_option maxRecDepth 4000
open Go
theorem loop_find' {α R : Type} [Inhabited α] {l : List α} {p : α → Bool} {F : (Nat → Option R) → Nat → Option R} {yes : Nat → Option R} {no : Option R}
    (h1 : ∀ back v, v < l.length → F back v = bif p (ix l v) then yes v else back (v + 1)) (h2 : ∀ back, F back l.length = no) :
    ∀ n v, v ≤ l.length → l.length - v < n → loopN F n v = match (l.drop v).findIdx? p with | some i => yes (v + i) | none => no := by
  intro n
  induction n with
  | zero => intro v _ h; omega
  | succ n ih =>
    intro v hv hn
    rw [loopN_s]
    by_cases h : v < l.length
    · rw [h1 _ v h, drop_ix h, List.findIdx?_cons]
      cases hp : p (ix l v) with
      | true => simp
      | false =>
        simp only [cond_false, Bool.false_eq_true, if_false]
        rw [ih (v + 1) (by omega) (by omega)]
        cases hh : (l.drop (v + 1)).findIdx? p with
        | none => simp
        | some i => simp [Nat.add_assoc, Nat.add_comm 1 i]
    · have : v = l.length := by omega
      subst this
      rw [h2, drop_nil h]
      simp
theorem any_findIdx {α : Type} (p : α → Bool) (l : List α) : (l.findIdx? p).isSome = l.any p := by
  induction l with
  | nil => rfl
  | cons x l ih =>
    rw [List.findIdx?_cons, List.any_cons]
    cases p x <;> simp [ih]
theorem loop_findI {α : Type} [Inhabited α] {l : List α} {p : α → Bool} {F : (Nat → Option Int) → Nat → Option Int}
    (h1 : ∀ back v, v < l.length → F back v = bif p (ix l v) then some ((v : Nat) : Int) else back (v + 1)) (h2 : ∀ back, F back l.length = some (-1)) (n : Nat) (hn : l.length < n) : loopN F n 0 = some (findI p l) := by
  rw [loop_find' h1 h2 n 0 (by omega) (by omega), List.drop_zero, findI]
  cases l.findIdx? p <;> simp
theorem findI_any {α : Type} (p : α → Bool) (l : List α) : decide ((0 : Int) ≤ findI p l) = l.any p := by
  rw [← any_findIdx, findI]
  cases l.findIdx? p <;> simp
theorem loop_fold {σ R : Type} {F : (σ × Nat → Option R) → σ × Nat → Option R} {st : Nat → σ} {k : Option R} {len : Nat} (h1 : ∀ back v, v < len → F back (st v, v) = back (st (v + 1), v + 1)) (h2 : ∀ back, F back (st len, len) = k) (n : Nat) (hn : len < n) {s0 : σ} (h0 : st 0 = s0) : loopN F n (s0, 0) = k := by
  subst h0
  exact loop_through (st := fun v => (st v, v)) h1 h2 n hn
theorem loop_fold' {σ R : Type} {F : (Nat × σ → Option R) → Nat × σ → Option R} {st : Nat → σ} {k : Option R} {len : Nat} (h1 : ∀ back v, v < len → F back (v, st v) = back (v + 1, st (v + 1))) (h2 : ∀ back, F back (len, st len) = k) (n : Nat) (hn : len < n) {s0 : σ} (h0 : st 0 = s0) : loopN F n (0, s0) = k := by
  subst h0
  exact loop_through (st := fun v => (v, st v)) h1 h2 n hn
end
section
set_option maxRecDepth 4000
open Go
def Is (N : Nat) (d : List Int) (f : Nat → Int) : Prop := d.length = N ∧ ∀ i, i < N → ix d i = f i
theorem Is.congr {N : Nat} {d : List Int} {f g : Nat → Int} (h : Is N d f) (e : ∀ i, i < N → f i = g i) : Is N d g := ⟨h.1, fun i hi => (h.2 i hi).trans (e i hi)⟩
theorem ix_set {d : List Int} {p j : Nat} {x : Int} (hp : p < d.length) : ix (d.set p x) j = if p = j then x else ix d j := by
  unfold ix
  by_cases h : p = j
  · subst h; simp [hp]
  · simp [h]
def swapF (f : Nat → Int) (p q : Nat) : Nat → Int := fun i => if i = q then f p else if i = p then f q else f i
theorem Is.swap {N : Nat} {d : List Int} {f : Nat → Int} (h : Is N d f) {p q : Nat} (hp : p < N) (hq : q < N) : Is N (List.set (List.set d p (ix d q)) q (ix d p)) (swapF f p q) := by
  refine ⟨by simp [h.1], fun i hi => ?_⟩
  have hl := h.1
  rw [ix_set (by simp; omega), ix_set (by omega), h.2 p hp, h.2 q hq, h.2 i hi]
  unfold swapF
  by_cases h1 : q = i
  · simp [h1]
  · by_cases h2 : p = i
    · have : ¬ i = q := fun e => h1 e.symm
      simp [h1, h2, this]
    · have e1 : ¬ i = q := fun e => h1 e.symm
      have e2 : ¬ i = p := fun e => h2 e.symm
      simp [h1, h2, e1, e2]
def ltR (r : Int → Int) (x y : Int) : Prop := r y < r x ∨ (r x = r y ∧ x < y)
theorem ltR.trans {r : Int → Int} {x y z : Int} (h : ltR r x y) (g : ltR r y z) : ltR r x z := by unfold ltR at *; omega
theorem ltR.irr {r : Int → Int} {x : Int} (h : ltR r x x) : False := by unfold ltR at h; omega
def Srt (r : Int → Int) (f : Nat → Int) (a b : Nat) : Prop := ∀ i j, a ≤ i → i < j → j < b → ltR r (f i) (f j)
def SubF (f g : Nat → Int) (a b : Nat) : Prop := ∀ i, a ≤ i → i < b → ∃ j, a ≤ j ∧ j < b ∧ g i = f j
def OutF (f g : Nat → Int) (a b : Nat) : Prop := ∀ i, (i < a ∨ b ≤ i) → g i = f i
def cv (p q : Int) : Int := bif decide (p < q) then -1 else bif decide (q < p) then 1 else 0
theorem cv_neg (p q : Int) : decide (cv p q < 0) = decide (p < q) := by
  unfold cv
  by_cases h : p < q
  · simp [h]
  · by_cases g : q < p <;> simp [h, g]
section
variable {n : Nat} {T S : Int} {W : List Int} {r : Int → Int} {N : Nat}
def Cmp (n : Nat) (T : Int) (W : List Int) (S : Int) (r : Int → Int) (N : Nat) : Prop := ∀ x y, 0 ≤ x → x < (N : Int) → 0 ≤ y → y < (N : Int) → restore_Split_f2 n x y T W S = some (cv (r y) (r x))
def Vld (N : Nat) (f : Nat → Int) : Prop := ∀ i, i < N → 0 ≤ f i ∧ f i < (N : Int)
theorem inB_nat {j len : Nat} (h : j < len) : inB ((j : Nat) : Int) len = true := inB_of (by omega) (by omega)
theorem inI_nat {j : Nat} (h : j ≤ 1000000) : inI ((j : Nat) : Int) = true := inI_of (by omega) (by omega)
def moveF (f : Nat → Int) (j i : Nat) : Nat → Int := fun k => if k < j then f k else if k = j then f i else if k ≤ i then f (k - 1) else f k
theorem moveF_self (f : Nat → Int) (i k : Nat) : moveF f i i k = f k := by
  unfold moveF
  by_cases h1 : k < i
  · simp [h1]
  · by_cases h2 : k = i
    · simp [h2]
    · have : ¬ k ≤ i := by omega
      simp [h1, h2, this]
theorem moveF_step {f : Nat → Int} {j i : Nat} (h0 : 0 < j) (hj : j ≤ i) (k : Nat) : swapF (moveF f j i) j (j - 1) k = moveF f (j - 1) i k := by
  unfold swapF moveF
  by_cases h1 : k = j - 1
  · subst h1; simp
  · by_cases h2 : k = j
    · subst h2
      have e1 : ¬ k = k - 1 := by omega
      have e2 : k - 1 < k := by omega
      have e3 : ¬ k < k - 1 := by omega
      simp [e1, e2, e3, hj]
    · by_cases h3 : k < j
      · have e1 : k < j - 1 := by omega
        simp [h1, h2, h3, e1]
      · have e1 : ¬ k < j - 1 := by omega
        simp [h1, h2, h3, e1]
theorem moveF_vld {f : Nat → Int} {j i : Nat} (h : Vld N f) (hi : i < N) : Vld N (moveF f j i) := by
  intro k hk
  unfold moveF
  split
  · exact h k hk
  · split
    · exact h i hi
    · split
      · exact h (k - 1) (by omega)
      · exact h k hk
theorem ins_inner (hc : Cmp n T W S r N) (hN : N ≤ 1000) {f : Nat → Int} (hv : Vld N f) {a i : Nat} (hi : i < N) (k1 : List Int → Option (List Int)) :
    ∀ (m j : Nat) (d : List Int), j < m → a ≤ j → j ≤ i → Is N d (moveF f j i) → (∀ k, j ≤ k → k < i → r (f k) < r (f i)) →
      ∃ d' j', a ≤ j' ∧ j' ≤ i ∧ Is N d' (moveF f j' i) ∧ loopN (slices_insertionSortCmpFunc_int_L1 n (a : Int) T W S k1) m ((j : Int), d) = k1 d' ∧ (∀ k, j' ≤ k → k < i → r (f k) < r (f i)) ∧ (j' = a ∨ ¬ r (f (j' - 1)) < r (f i)) := by
  intro m
  induction m with
  | zero => intro j d h; omega
  | succ m ih =>
    intro j d hm ha hj hd hlt
    rw [loopN_s, slices_insertionSortCmpFunc_int_L1]
    by_cases haj : a < j
    · have hd1 : ((a : Nat) : Int) < ((j : Nat) : Int) := by omega
      have hcast : ((j : Nat) : Int) - 1 = ((j - 1 : Nat) : Int) := by omega
      have hl := hd.1
      have hjN : j < d.length := by omega
      have hj1N : j - 1 < d.length := by omega
      have hx : ix d j = f i := by rw [hd.2 j (by omega)]; unfold moveF; simp
      have hy : ix d (j - 1) = f (j - 1) := by
        rw [hd.2 (j - 1) (by omega)]; unfold moveF
        have : j - 1 < j := by omega
        simp [this]
      have v1 := hv i hi
      have v2 := hv (j - 1) (by omega)
      have hset : ∀ x : Int, j - 1 < (List.set d j x).length := by intro x; simp; omega
      have hcm : restore_Split_f2 n (f i) (f (j - 1)) T W S = some (cv (r (f (j - 1))) (r (f i))) := hc _ _ v1.1 v1.2 v2.1 v2.2
      simp only [hd1, hcast, Int.toNat_natCast, hjN, hj1N, hset, inB_nat hjN, inB_nat hj1N, inI_nat (j := j - 1) (by omega), decide_true, Bool.not_true, Bool.false_or, Bool.or_true, chk_t, gcall, hx, hy, hcm, Option.bind_some, cv_neg, Bool.true_and]
      by_cases hlt2 : r (f (j - 1)) < r (f i)
      · simp only [hlt2, decide_true, cond_true]
        have hsw := hd.swap (p := j) (q := j - 1) (by omega) (by omega)
        rw [hx, hy] at hsw
        obtain ⟨d', j', q1, q2, q3, q4, q5, q6⟩ := ih (j - 1) _ (by omega) (by omega) (by omega) (hsw.congr fun k _ => moveF_step (by omega) hj k) (fun k hk1 hk2 => by
          by_cases e : k = j - 1
          · rw [e]; exact hlt2
          · exact hlt k (by omega) hk2)
        exact ⟨d', j', q1, q2, q3, q4, q5, q6⟩
      · simp only [hlt2, decide_false, cond_false]
        exact ⟨d, j, ha, hj, hd, rfl, hlt, .inr hlt2⟩
    · have hd1 : ¬ ((a : Nat) : Int) < ((j : Nat) : Int) := by omega
      have haj' : j = a := by omega
      simp only [hd1, decide_false, Bool.not_false, Bool.true_or, chk_t, gcall, Option.bind_some, Bool.false_and, cond_false]
      exact ⟨d, j, ha, hj, hd, rfl, hlt, .inl haj'⟩
theorem insertion (hc : Cmp n T W S r N) (hN : N ≤ 1000) (hn : 1000 < n) {f : Nat → Int} (hv : Vld N f) {a b : Nat} (hb : b ≤ N) (hab : a ≤ b) (hinc : ∀ i j, a ≤ i → i < j → j < b → f i < f j) {d : List Int} (hd : Is N d f) :
    ∃ d' g, slices_insertionSortCmpFunc_int n d (a : Int) (b : Int) T W S = some d' ∧ Is N d' g ∧ Vld N g ∧ OutF f g a b ∧ SubF f g a b ∧ Srt r g a b := by
  have key : ∀ (m i : Nat) (d : List Int) (g : Nat → Int), b - i < m → a ≤ i → Is N d g → Vld N g → (∀ k, k < a ∨ i ≤ k ∨ b ≤ k → g k = f k) → (∀ k, a ≤ k → k < i → k < b → ∃ q, a ≤ q ∧ q < i ∧ q < b ∧ g k = f q) → Srt r g a (min i b) →
      ∃ d' g', loopN (slices_insertionSortCmpFunc_int_L2 n (a : Int) (b : Int) T W S) m ((i : Int), d) = some d' ∧ Is N d' g' ∧ Vld N g' ∧ OutF f g' a b ∧ SubF f g' a b ∧ Srt r g' a b := by
    intro m
    induction m with
    | zero => intro i d g h; omega
    | succ m ih =>
      intro i d g hm hai hd hg hout hsub hsrt
      rw [loopN_s, slices_insertionSortCmpFunc_int_L2]
      by_cases hib : i < b
      · have h1 : ((i : Nat) : Int) < ((b : Nat) : Int) := by omega
        simp only [h1, decide_true, cond_true, withK_eq]
        have hmin : min i b = i := by omega
        rw [hmin] at hsrt
        obtain ⟨d', j', q1, q2, q3, q4, q5, q6⟩ := ins_inner (n := n) (a := a) hc hN hg (i := i) (by omega) (fun v12 => chk (inI ((i : Int) + 1)) (loopN (slices_insertionSortCmpFunc_int_L2 n (a : Int) (b : Int) T W S) m ((i : Int) + 1, v12))) n i d (by omega) hai (Nat.le_refl _) (hd.congr fun k _ => (moveF_self g i k).symm) (fun k h1 h2 => by omega)
        rw [q4]
        have hcast : ((i : Nat) : Int) + 1 = ((i + 1 : Nat) : Int) := by omega
        rw [hcast, chk_of (inI_nat (by omega))]
        have hval : ∀ k, a ≤ k → k < i → g k < g i := by
          intro k hk1 hk2
          obtain ⟨q, w1, w2, w3, e⟩ := hsub k hk1 hk2 (by omega)
          rw [e, hout i (.inr (.inl (Nat.le_refl _)))]
          exact hinc q i w1 w2 hib
        have hbelow : ∀ k, a ≤ k → k < j' → ltR r (g k) (g i) := by
          intro k hk1 hk2
          have hjne : j' ≠ a := by omega
          have hst := q6.resolve_left hjne
          have hl1 : ltR r (g (j' - 1)) (g i) := by
            have := hval (j' - 1) (by omega) (by omega)
            unfold ltR; omega
          by_cases e : k = j' - 1
          · rw [e]; exact hl1
          · exact (hsrt k (j' - 1) hk1 (by omega) (by omega)).trans hl1
        have habove : ∀ k, j' ≤ k → k < i → ltR r (g i) (g k) := fun k h1 h2 => .inl (q5 k h1 h2)
        refine ih (i + 1) d' (moveF g j' i) (by omega) (by omega) q3 (moveF_vld hg (by omega)) (fun k hk => ?_) (fun k hk1 hk2 hk3 => ?_) ?_
        · rw [← hout k (by omega)]
          unfold moveF
          rcases hk with hk | hk
          · have : k < j' := by omega
            simp [this]
          · have hk : i + 1 ≤ k := by omega
            have e1 : ¬ k < j' := by omega
            have e2 : ¬ k = j' := by omega
            have e3 : ¬ k ≤ i := by omega
            simp [e1, e2, e3]
        · unfold moveF
          by_cases e1 : k < j'
          · simp only [e1, if_true]
            obtain ⟨q, w1, w2, w3, e⟩ := hsub k hk1 (by omega) hk3
            exact ⟨q, w1, by omega, w3, e⟩
          · by_cases e2 : k = j'
            · simp only [e2, Nat.lt_irrefl, if_false, if_true]
              exact ⟨i, hai, by omega, hib, hout i (.inr (.inl (Nat.le_refl _)))⟩
            · have e3 : k ≤ i := by omega
              simp only [e1, e2, e3, if_false, if_true]
              obtain ⟨q, w1, w2, w3, e⟩ := hsub (k - 1) (by omega) (by omega) (by omega)
              exact ⟨q, w1, by omega, w3, e⟩
        · have hmin2 : min (i + 1) b = i + 1 := by omega
          rw [hmin2]
          intro p q hp hpq hq
          unfold moveF
          by_cases p1 : p < j'
          · simp only [p1, if_true]
            by_cases q1' : q < j'
            · simp only [q1', if_true]; exact hsrt p q hp hpq (by omega)
            · by_cases q2' : q = j'
              · simp only [q2', Nat.lt_irrefl, if_false, if_true]; exact hbelow p hp p1
              · have q3' : q ≤ i := by omega
                simp only [q1', q2', q3', if_false, if_true]
                exact hsrt p (q - 1) hp (by omega) (by omega)
          · have q1' : ¬ q < j' := by omega
            have q2' : ¬ q = j' := by omega
            have q3' : q ≤ i := by omega
            by_cases p2 : p = j'
            · simp only [p2, Nat.lt_irrefl, if_false, if_true]
              rw [p2] at hpq
              simp only [q1', q2', q3', if_false, if_true]
              exact habove (q - 1) (by omega) (by omega)
            · have p3 : p ≤ i := by omega
              simp only [p1, p2, p3, q1', q2', q3', if_false, if_true]
              exact hsrt (p - 1) (q - 1) (by omega) (by omega) (by omega)
      · have h1 : ¬ ((i : Nat) : Int) < ((b : Nat) : Int) := by omega
        simp only [h1, decide_false, cond_false]
        have hmin : min i b = b := by omega
        rw [hmin] at hsrt
        refine ⟨d, g, rfl, hd, hg, fun k hk => ?_, fun k hk1 hk2 => ?_, hsrt⟩
        · rcases hk with hk | hk
          · exact hout k (.inl hk)
          · exact hout k (.inr (.inr hk))
        · obtain ⟨q, w1, w2, w3, e⟩ := hsub k hk1 (by omega) hk2
          exact ⟨q, w1, w3, e⟩
  rw [slices_insertionSortCmpFunc_int]
  have hcast : ((a : Nat) : Int) + 1 = ((a + 1 : Nat) : Int) := by omega
  rw [hcast, chk_of (inI_nat (by omega))]
  refine key n (a + 1) d f (by omega) (by omega) hd hv (fun k _ => rfl) (fun k h1 h2 h3 => ⟨k, h1, h2, h3, rfl⟩) ?_
  intro p q h1 h2 h3
  omega
end
end
section
set_option maxRecDepth 4000
open Go
variable {n : Nat} {T S : Int} {W : List Int} {r : Int → Int} {N : Nat}
theorem half_eq {x y : Nat} (h : x + y ≤ 1000000) : Int.fdiv (IntKind.u64.wrap (((x : Nat) : Int) + ((y : Nat) : Int))) (2 ^ (min 1 64)) = (((x + y) / 2 : Nat) : Int) := by
  have e1 : IntKind.u64.wrap (((x : Nat) : Int) + ((y : Nat) : Int)) = (((x + y : Nat)) : Int) := by
    rw [show ((x : Nat) : Int) + ((y : Nat) : Int) = ((x + y : Nat) : Int) by omega]
    simp only [IntKind.wrap, IntKind.signed, IntKind.bits]
    simp
    omega
  rw [e1]
  have e2 : ((2 : Int) ^ (min 1 64)) = ((2 : Nat) : Int) := rfl
  rw [e2]
  exact (Int.ofNat_fdiv (x + y) 2).symm
theorem bsearch {R : Type} {F : (Int × Int → Option R) → Int × Int → Option R} {P : Nat → Prop} {k : Int → Option R} {L H : Nat}
    (hF : ∀ back lo hi, L ≤ lo → lo < hi → hi ≤ H → (P ((lo + hi) / 2) → F back ((lo : Int), (hi : Int)) = back ((((lo + hi) / 2 + 1 : Nat) : Int), (hi : Int))) ∧ (¬ P ((lo + hi) / 2) → F back ((lo : Int), (hi : Int)) = back ((lo : Int), (((lo + hi) / 2 : Nat) : Int))))
    (hE : ∀ back (lo : Nat), F back ((lo : Int), (lo : Int)) = k (lo : Int)) (mono : ∀ x y, L ≤ x → x ≤ y → y < H → P y → P x) :
    ∀ m lo hi : Nat, L ≤ lo → lo ≤ hi → hi ≤ H → hi - lo < m → (∀ x, L ≤ x → x < lo → P x) → (∀ x, hi ≤ x → x < H → ¬ P x) →
      ∃ s : Nat, lo ≤ s ∧ s ≤ hi ∧ loopN F m ((lo : Int), (hi : Int)) = k (s : Int) ∧ (∀ x, L ≤ x → x < s → P x) ∧ (∀ x, s ≤ x → x < H → ¬ P x) := by
  intro m
  induction m with
  | zero => intro lo hi _ _ _ h; omega
  | succ m ih =>
    intro lo hi h1 h2 h3 hm hp hq
    rw [loopN_s]
    by_cases h : lo < hi
    · obtain ⟨f1, f2⟩ := hF (loopN F m) lo hi h1 h h3
      by_cases hP : P ((lo + hi) / 2)
      · rw [f1 hP]
        obtain ⟨s, a1, a2, a3, a4, a5⟩ := ih ((lo + hi) / 2 + 1) hi (by omega) (by omega) h3 (by omega) (fun x hx1 hx2 => mono x _ hx1 (by omega) (by omega) hP) hq
        exact ⟨s, by omega, a2, a3, a4, a5⟩
      · rw [f2 hP]
        obtain ⟨s, a1, a2, a3, a4, a5⟩ := ih lo ((lo + hi) / 2) h1 (by omega) (by omega) (by omega) hp (fun x hx1 hx2 hpx => hP (mono _ x (by omega) hx1 hx2 hpx))
        exact ⟨s, a1, by omega, a3, a4, a5⟩
    · have : hi = lo := by omega
      subst this
      exact ⟨hi, Nat.le_refl _, Nat.le_refl _, hE _ _, hp, hq⟩
def swapR (f : Nat → Int) (a b k : Nat) : Nat → Int := fun i => if a ≤ i ∧ i < a + k then f (i - a + b) else if b ≤ i ∧ i < b + k then f (i - b + a) else f i
theorem swapRange_eq (hN : N ≤ 1000) {f : Nat → Int} {a b k : Nat} (hab : a + k ≤ b) (hb : b + k ≤ N) (x4 x6 : Int) (x5 : List Int) {d : List Int} (hd : Is N d f) (hn : 1000 < n) :
    ∃ d', slices_swapRangeCmpFunc_int n d (a : Int) (b : Int) (k : Int) x4 x5 x6 = some d' ∧ Is N d' (swapR f a b k) := by
  have key : ∀ m v d, v ≤ k → k - v < m → Is N d (swapR f a b v) → ∃ d', loopN (slices_swapRangeCmpFunc_int_L1 (a : Int) (b : Int) (k : Int)) m (v, d) = some d' ∧ Is N d' (swapR f a b k) := by
    intro m
    induction m with
    | zero => intro v d _ h; omega
    | succ m ih =>
      intro v d hv hm hd
      rw [loopN_s, slices_swapRangeCmpFunc_int_L1]
      by_cases h : v < k
      · have h1 : ((v : Nat) : Int) < ((k : Nat) : Int) := by omega
        have c1 : ((a : Nat) : Int) + ((v : Nat) : Int) = ((a + v : Nat) : Int) := by omega
        have c2 : ((b : Nat) : Int) + ((v : Nat) : Int) = ((b + v : Nat) : Int) := by omega
        have hl := hd.1
        have l1 : a + v < d.length := by omega
        have l2 : b + v < d.length := by omega
        have l3 : ∀ x : Int, b + v < (List.set d (a + v) x).length := by intro x; simp; omega
        simp only [h1, decide_true, cond_true, c1, c2, Int.toNat_natCast, inI_nat (j := a + v) (by omega), inI_nat (j := b + v) (by omega), inB_nat l1, inB_nat l2, l1, l2, l3, chk_t, nI_of (by omega : v + 1 ≤ 9223372036854775807)]
        refine ih (v + 1) _ (by omega) (by omega) ((hd.swap (p := a + v) (q := b + v) (by omega) (by omega)).congr fun i hi => ?_)
        unfold swapF swapR
        by_cases e1 : i = b + v
        · subst e1
          have g1 : ¬ (a ≤ a + v ∧ a + v < a + v) := by omega
          have g2 : ¬ (b ≤ a + v ∧ a + v < b + v) := by omega
          have g3 : ¬ (a ≤ b + v ∧ b + v < a + (v + 1)) := by omega
          have g4 : (b ≤ b + v ∧ b + v < b + (v + 1)) := by omega
          rw [if_pos rfl, if_neg g1, if_neg g2, if_neg g3, if_pos g4]
          congr 1; omega
        · by_cases e2 : i = a + v
          · subst e2
            have g1 : ¬ (a ≤ b + v ∧ b + v < a + v) := by omega
            have g2 : ¬ (b ≤ b + v ∧ b + v < b + v) := by omega
            have g3 : (a ≤ a + v ∧ a + v < a + (v + 1)) := by omega
            rw [if_neg e1, if_pos rfl, if_neg g1, if_neg g2, if_pos g3]
            congr 1; omega
          · rw [if_neg e1, if_neg e2]
            by_cases e3 : a ≤ i ∧ i < a + v
            · have g : a ≤ i ∧ i < a + (v + 1) := by omega
              rw [if_pos e3, if_pos g]
            · have g : ¬ (a ≤ i ∧ i < a + (v + 1)) := by omega
              rw [if_neg e3, if_neg g]
              by_cases e4 : b ≤ i ∧ i < b + v
              · have g : b ≤ i ∧ i < b + (v + 1) := by omega
                rw [if_pos e4, if_pos g]
              · have g : ¬ (b ≤ i ∧ i < b + (v + 1)) := by omega
                rw [if_neg e4, if_neg g]
      · have h1 : ¬ ((v : Nat) : Int) < ((k : Nat) : Int) := by omega
        have : v = k := by omega
        subst this
        simp only [h1, decide_false, cond_false]
        exact ⟨d, rfl, hd⟩
  rw [slices_swapRangeCmpFunc_int]
  refine key n 0 d (Nat.zero_le _) (by omega) (hd.congr fun i _ => ?_)
  unfold swapR
  have g1 : ¬ (a ≤ i ∧ i < a + 0) := by omega
  have g2 : ¬ (b ≤ i ∧ i < b + 0) := by omega
  rw [if_neg g1, if_neg g2]
def rotF (f : Nat → Int) (a m b : Nat) : Nat → Int := fun i => if a ≤ i ∧ i < a + (b - m) then f (i + (m - a)) else if a + (b - m) ≤ i ∧ i < b then f (i - (b - m)) else f i
theorem rot_gt {f : Nat → Int} {m i j : Nat} (hi : i ≤ m) (hj : 0 < j) (hij : j < i) (x : Nat) : rotF (swapR f (m - i) m j) (m - (i - j)) m (m + j) x = rotF f (m - i) m (m + j) x := by
  unfold rotF swapR
  have e : m + j - m = j := by omega
  rw [e]
  by_cases c1 : x < m - i
  · have g1 : ¬ (m - (i - j) ≤ x ∧ x < m - (i - j) + j) := by omega
    have g2 : ¬ (m - (i - j) + j ≤ x ∧ x < m + j) := by omega
    have g3 : ¬ (m - i ≤ x ∧ x < m - i + j) := by omega
    have g4 : ¬ (m ≤ x ∧ x < m + j) := by omega
    have g5 : ¬ (m - i + j ≤ x ∧ x < m + j) := by omega
    simp only [if_neg g1, if_neg g2, if_neg g3, if_neg g4, if_neg g5]
  · by_cases c2 : x < m - i + j
    · have g1 : ¬ (m - (i - j) ≤ x ∧ x < m - (i - j) + j) := by omega
      have g2 : ¬ (m - (i - j) + j ≤ x ∧ x < m + j) := by omega
      have g3 : (m - i ≤ x ∧ x < m - i + j) := by omega
      simp only [if_neg g1, if_neg g2, if_pos g3]
      congr 1; omega
    · by_cases c3 : x < m + j
      · have g3 : ¬ (m - i ≤ x ∧ x < m - i + j) := by omega
        have g5 : (m - i + j ≤ x ∧ x < m + j) := by omega
        simp only [if_neg g3, if_pos g5]
        by_cases c4 : x < m - (i - j) + j
        · have g1 : (m - (i - j) ≤ x ∧ x < m - (i - j) + j) := by omega
          have e2 : x + (m - (m - (i - j))) = x + (i - j) := by omega
          rw [if_pos g1, e2]
          have g6 : ¬ (m - i ≤ x + (i - j) ∧ x + (i - j) < m - i + j) := by omega
          have g7 : (m ≤ x + (i - j) ∧ x + (i - j) < m + j) := by omega
          rw [if_neg g6, if_pos g7]
          congr 1; omega
        · have g1 : ¬ (m - (i - j) ≤ x ∧ x < m - (i - j) + j) := by omega
          have g2 : (m - (i - j) + j ≤ x ∧ x < m + j) := by omega
          rw [if_neg g1, if_pos g2]
          have g6 : ¬ (m - i ≤ x - j ∧ x - j < m - i + j) := by omega
          have g7 : ¬ (m ≤ x - j ∧ x - j < m + j) := by omega
          rw [if_neg g6, if_neg g7]
      · have g1 : ¬ (m - (i - j) ≤ x ∧ x < m - (i - j) + j) := by omega
        have g2 : ¬ (m - (i - j) + j ≤ x ∧ x < m + j) := by omega
        have g3 : ¬ (m - i ≤ x ∧ x < m - i + j) := by omega
        have g4 : ¬ (m ≤ x ∧ x < m + j) := by omega
        have g5 : ¬ (m - i + j ≤ x ∧ x < m + j) := by omega
        simp only [if_neg g1, if_neg g2, if_neg g3, if_neg g4, if_neg g5]
theorem rot_lt {f : Nat → Int} {m i j : Nat} (hi : i ≤ m) (h0 : 0 < i) (hij : i < j) (x : Nat) : rotF (swapR f (m - i) (m + (j - i)) i) (m - i) m (m + (j - i)) x = rotF f (m - i) m (m + j) x := by
  unfold rotF swapR
  have e : m + (j - i) - m = j - i := by omega
  have e' : m + j - m = j := by omega
  have e3 : m - (m - i) = i := by omega
  rw [e, e', e3]
  by_cases c1 : x < m - i
  · have g1 : ¬ (m - i ≤ x ∧ x < m - i + (j - i)) := by omega
    have g2 : ¬ (m - i + (j - i) ≤ x ∧ x < m + (j - i)) := by omega
    have g3 : ¬ (m - i ≤ x ∧ x < m - i + i) := by omega
    have g4 : ¬ (m + (j - i) ≤ x ∧ x < m + (j - i) + i) := by omega
    have g5 : ¬ (m - i ≤ x ∧ x < m - i + j) := by omega
    have g6 : ¬ (m - i + j ≤ x ∧ x < m + j) := by omega
    simp only [if_neg g1, if_neg g2, if_neg g3, if_neg g4, if_neg g5, if_neg g6]
  · by_cases c2 : x < m - i + (j - i)
    · have g1 : (m - i ≤ x ∧ x < m - i + (j - i)) := by omega
      have g5 : (m - i ≤ x ∧ x < m - i + j) := by omega
      rw [if_pos g1, if_pos g5]
      have g6 : ¬ (m - i ≤ x + i ∧ x + i < m - i + i) := by omega
      have g7 : ¬ (m + (j - i) ≤ x + i ∧ x + i < m + (j - i) + i) := by omega
      rw [if_neg g6, if_neg g7]
    · by_cases c3 : x < m + (j - i)
      · have g1 : ¬ (m - i ≤ x ∧ x < m - i + (j - i)) := by omega
        have g2 : (m - i + (j - i) ≤ x ∧ x < m + (j - i)) := by omega
        have g5 : (m - i ≤ x ∧ x < m - i + j) := by omega
        rw [if_neg g1, if_pos g2, if_pos g5]
        have g6 : (m - i ≤ x - (j - i) ∧ x - (j - i) < m - i + i) := by omega
        rw [if_pos g6]
        congr 1; omega
      · have g1 : ¬ (m - i ≤ x ∧ x < m - i + (j - i)) := by omega
        have g2 : ¬ (m - i + (j - i) ≤ x ∧ x < m + (j - i)) := by omega
        have g3 : ¬ (m - i ≤ x ∧ x < m - i + i) := by omega
        have g5 : ¬ (m - i ≤ x ∧ x < m - i + j) := by omega
        rw [if_neg g1, if_neg g2, if_neg g3, if_neg g5]
        by_cases c4 : x < m + j
        · have g4 : (m + (j - i) ≤ x ∧ x < m + (j - i) + i) := by omega
          have g6 : (m - i + j ≤ x ∧ x < m + j) := by omega
          rw [if_pos g4, if_pos g6]
          congr 1; omega
        · have g4 : ¬ (m + (j - i) ≤ x ∧ x < m + (j - i) + i) := by omega
          have g6 : ¬ (m - i + j ≤ x ∧ x < m + j) := by omega
          rw [if_neg g4, if_neg g6]
theorem rot_eq {f : Nat → Int} {m i : Nat} (hi : i ≤ m) (x : Nat) : swapR f (m - i) m i x = rotF f (m - i) m (m + i) x := by
  unfold rotF swapR
  have e : m + i - m = i := by omega
  have e3 : m - (m - i) = i := by omega
  have e4 : m - i + i = m := by omega
  rw [e, e3, e4]
  by_cases c1 : m - i ≤ x ∧ x < m
  · rw [if_pos c1, if_pos c1]; congr 1; omega
  · rw [if_neg c1, if_neg c1]
    by_cases c2 : m ≤ x ∧ x < m + i
    · rw [if_pos c2, if_pos c2]; congr 1; omega
    · rw [if_neg c2, if_neg c2]
theorem rotate_eq (hN : N ≤ 1000) (hn : 1000 < n) {f : Nat → Int} {a m b : Nat} (ham : a < m) (hmb : m < b) (hb : b ≤ N) (x4 x6 : Int) (x5 : List Int) {d : List Int} (hd : Is N d f) :
    ∃ d', slices_rotateCmpFunc_int n d (a : Int) (m : Int) (b : Int) x4 x5 x6 = some d' ∧ Is N d' (rotF f a m b) := by
  have key : ∀ (q i j : Nat) (d : List Int) (g : Nat → Int), 0 < i → 0 < j → i ≤ m → m + j ≤ N → i + j < q → Is N d g → (∀ x, x < N → rotF g (m - i) m (m + j) x = rotF f a m b x) →
      ∃ d', loopN (slices_rotateCmpFunc_int_L1 n (m : Int) x4 x5 x6 fun t => match t with | (v8, v9) => chk (inI ((m : Int) - v8)) <| (slices_swapRangeCmpFunc_int n v9 ((m : Int) - v8) (m : Int) v8 x4 x5 x6).bind fun y10 => chk (decide (v9.length = y10.length)) <| some y10) q ((i : Int), d, (j : Int)) = some d' ∧ Is N d' (rotF f a m b) := by
    intro q
    induction q with
    | zero => intro i j d g _ _ _ _ h; omega
    | succ q ih =>
      intro i j d g hi0 hj0 hi hj hq hd hg
      rw [loopN_s, slices_rotateCmpFunc_int_L1]
      have c1 : ((m : Nat) : Int) - ((i : Nat) : Int) = ((m - i : Nat) : Int) := by omega
      by_cases hij : i = j
      · subst hij
        obtain ⟨d', e1, e2⟩ := swapRange_eq (n := n) (f := g) (a := m - i) (b := m) (k := i) hN (by omega) (by omega) x4 x6 x5 hd hn
        simp only [bne_self_eq_false, cond_false, c1, inI_nat (j := m - i) (by omega), chk_t, e1, Option.bind_some]
        rw [chk_of (by rw [hd.1, e2.1]; simp)]
        exact ⟨d', rfl, e2.congr fun x hx => (rot_eq hi x).trans (hg x hx)⟩
      · have hne : (((i : Nat) : Int) != ((j : Nat) : Int)) = true := by simp [bne]; omega
        simp only [hne, cond_true]
        by_cases hgt : j < i
        · have h1 : ((j : Nat) : Int) < ((i : Nat) : Int) := by omega
          have c2 : ((i : Nat) : Int) - ((j : Nat) : Int) = ((i - j : Nat) : Int) := by omega
          obtain ⟨d', e1, e2⟩ := swapRange_eq (n := n) (f := g) (a := m - i) (b := m) (k := j) hN (by omega) (by omega) x4 x6 x5 hd hn
          simp only [h1, decide_true, cond_true, c1, c2, inI_nat (j := m - i) (by omega), inI_nat (j := i - j) (by omega), chk_t, e1, Option.bind_some]
          rw [chk_of (by rw [hd.1, e2.1]; simp)]
          exact ih (i - j) j d' _ (by omega) hj0 (by omega) hj (by omega) e2 fun x hx => (rot_gt hi hj0 hgt x).trans (hg x hx)
        · have h1 : ¬ ((j : Nat) : Int) < ((i : Nat) : Int) := by omega
          have c2 : ((j : Nat) : Int) - ((i : Nat) : Int) = ((j - i : Nat) : Int) := by omega
          have c3 : ((m : Nat) : Int) + ((j : Nat) : Int) = ((m + j : Nat) : Int) := by omega
          have c4 : ((m + j : Nat) : Int) - ((i : Nat) : Int) = ((m + (j - i) : Nat) : Int) := by omega
          obtain ⟨d', e1, e2⟩ := swapRange_eq (n := n) (f := g) (a := m - i) (b := m + (j - i)) (k := i) hN (by omega) (by omega) x4 x6 x5 hd hn
          simp only [h1, decide_false, cond_false, c1, c2, c3, c4, inI_nat (j := m - i) (by omega), inI_nat (j := j - i) (by omega), inI_nat (j := m + j) (by omega), inI_nat (j := m + (j - i)) (by omega), chk_t, e1, Option.bind_some]
          rw [chk_of (by rw [hd.1, e2.1]; simp)]
          exact ih i (j - i) d' _ hi0 (by omega) hi (by omega) (by omega) e2 fun x hx => (rot_lt hi hi0 (by omega) x).trans (hg x hx)
  rw [slices_rotateCmpFunc_int]
  have c1 : ((m : Nat) : Int) - ((a : Nat) : Int) = ((m - a : Nat) : Int) := by omega
  have c2 : ((b : Nat) : Int) - ((m : Nat) : Int) = ((b - m : Nat) : Int) := by omega
  simp only [c1, c2, inI_nat (j := m - a) (by omega), inI_nat (j := b - m) (by omega), chk_t, withK_eq]
  refine key n (m - a) (b - m) d f (by omega) (by omega) (by omega) (by omega) (by omega) hd fun x _ => ?_
  rw [show m - (m - a) = a by omega, show m + (b - m) = b by omega]
end
section
set_option maxRecDepth 4000
open Go
variable {n : Nat} {T S : Int} {W : List Int} {r : Int → Int} {N : Nat}
def Crs (f : Nat → Int) (a m b : Nat) : Prop := ∀ i j, a ≤ i → i < m → m ≤ j → j < b → f i < f j
def Rslt (r : Int → Int) (N : Nat) (f : Nat → Int) (a b : Nat) (d' : List Int) (g : Nat → Int) : Prop := Is N d' g ∧ Vld N g ∧ OutF f g a b ∧ SubF f g a b ∧ Srt r g a b
theorem Srt.key {f : Nat → Int} {a b : Nat} (h : Srt r f a b) {x y : Nat} (h1 : a ≤ x) (h2 : x ≤ y) (h3 : y < b) : r (f y) ≤ r (f x) := by
  by_cases e : x = y
  · rw [e]; exact Int.le_refl _
  · have := h x y h1 (by omega) h3
    unfold ltR at this; omega
theorem Srt.sub {f : Nat → Int} {a b a' b' : Nat} (h : Srt r f a b) (h1 : a ≤ a') (h2 : b' ≤ b) : Srt r f a' b' := fun i j x y z => h i j (by omega) y (by omega)
theorem vld_sub {f g : Nat → Int} {a b : Nat} (hv : Vld N f) (hb : b ≤ N) (ho : OutF f g a b) (hs : SubF f g a b) : Vld N g := by
  intro i hi
  by_cases h : a ≤ i ∧ i < b
  · obtain ⟨j, h1, h2, e⟩ := hs i h.1 h.2
    rw [e]; exact hv j (by omega)
  · rw [ho i (by omega)]; exact hv i hi
def upF (f : Nat → Int) (a e : Nat) : Nat → Int := fun k => if a ≤ k ∧ k < e then f (k + 1) else if k = e then f a else f k
theorem up_step {f : Nat → Int} {a e : Nat} (h : a ≤ e) (k : Nat) : swapF (upF f a e) e (e + 1) k = upF f a (e + 1) k := by
  unfold swapF upF
  by_cases h1 : k = e + 1
  · subst h1
    have g1 : ¬ (a ≤ e ∧ e < e) := by omega
    have g2 : ¬ (a ≤ e + 1 ∧ e + 1 < e + 1) := by omega
    simp only [if_true, if_neg g1, if_neg g2]
  · by_cases h2 : k = e
    · subst h2
      have g1 : ¬ (a ≤ k + 1 ∧ k + 1 < k) := by omega
      have g2 : ¬ k + 1 = k := by omega
      have g3 : (a ≤ k ∧ k < k + 1) := by omega
      simp only [if_neg h1, if_true, if_neg g1, if_neg g2, if_pos g3]
    · simp only [if_neg h1, if_neg h2]
      by_cases h3 : a ≤ k ∧ k < e
      · have g : a ≤ k ∧ k < e + 1 := by omega
        rw [if_pos h3, if_pos g]
      · have g : ¬ (a ≤ k ∧ k < e + 1) := by omega
        rw [if_neg h3, if_neg g]
theorem up_loop (hN : N ≤ 1000) {f : Nat → Int} {a s : Nat} (hs : a < s) (hsN : s ≤ N) (k2 : List Int → Option (List Int)) : ∀ (m e : Nat) (d : List Int), s - e < m → a ≤ e → e ≤ s - 1 → Is N d (upF f a e) →
    ∃ d', loopN (slices_symMergeCmpFunc_int_L2 (s : Int) k2) m ((e : Int), d) = k2 d' ∧ Is N d' (upF f a (s - 1)) := by
  intro m
  induction m with
  | zero => intro e d h; omega
  | succ m ih =>
    intro e d hm ha he hd
    rw [loopN_s, slices_symMergeCmpFunc_int_L2]
    have c1 : ((s : Nat) : Int) - 1 = ((s - 1 : Nat) : Int) := by omega
    rw [c1, chk_of (inI_nat (by omega))]
    by_cases h : e < s - 1
    · have h1 : ((e : Nat) : Int) < ((s - 1 : Nat) : Int) := by omega
      have c2 : ((e : Nat) : Int) + 1 = ((e + 1 : Nat) : Int) := by omega
      have hl := hd.1
      have l1 : e < d.length := by omega
      have l2 : e + 1 < d.length := by omega
      have l3 : ∀ x : Int, e + 1 < (List.set d e x).length := by intro x; simp; omega
      simp only [h1, decide_true, cond_true, c2, inI_nat (j := e + 1) (by omega), Int.toNat_natCast, inB_nat l1, inB_nat l2, l1, l2, l3, chk_t]
      exact ih (e + 1) _ (by omega) (by omega) (by omega) ((hd.swap (p := e) (q := e + 1) (by omega) (by omega)).congr fun k _ => up_step ha k)
    · have h1 : ¬ ((e : Nat) : Int) < ((s - 1 : Nat) : Int) := by omega
      simp only [h1, decide_false, cond_false]
      have : e = s - 1 := by omega
      subst this
      exact ⟨d, rfl, hd⟩
theorem down_loop (hN : N ≤ 1000) {f : Nat → Int} {s m0 : Nat} (hm0 : m0 < N) (k4 : List Int → Option (List Int)) : ∀ (m e : Nat) (d : List Int), e < m → s ≤ e → e ≤ m0 → Is N d (moveF f e m0) →
    ∃ d', loopN (slices_symMergeCmpFunc_int_L4 (s : Int) k4) m ((e : Int), d) = k4 d' ∧ Is N d' (moveF f s m0) := by
  intro m
  induction m with
  | zero => intro e d h; omega
  | succ m ih =>
    intro e d hm hs he hd
    rw [loopN_s, slices_symMergeCmpFunc_int_L4]
    by_cases h : s < e
    · have h1 : ((s : Nat) : Int) < ((e : Nat) : Int) := by omega
      have c1 : ((e : Nat) : Int) - 1 = ((e - 1 : Nat) : Int) := by omega
      have hl := hd.1
      have l1 : e < d.length := by omega
      have l2 : e - 1 < d.length := by omega
      have l3 : ∀ x : Int, e - 1 < (List.set d e x).length := by intro x; simp; omega
      simp only [h1, decide_true, cond_true, c1, inI_nat (j := e - 1) (by omega), Int.toNat_natCast, inB_nat l1, inB_nat l2, l1, l2, l3, chk_t]
      exact ih (e - 1) _ (by omega) (by omega) (by omega) ((hd.swap (p := e) (q := e - 1) (by omega) (by omega)).congr fun k _ => moveF_step (by omega) he k)
    · have h1 : ¬ ((s : Nat) : Int) < ((e : Nat) : Int) := by omega
      simp only [h1, decide_false, cond_false]
      have : e = s := by omega
      subst this
      exact ⟨d, rfl, hd⟩
theorem rot_id {f : Nat → Int} {s m e : Nat} (h : s = m ∨ e = m) (h1 : s ≤ m) (h2 : m ≤ e) (x : Nat) : rotF f s m e x = f x := by
  unfold rotF
  rcases h with h | h
  · subst h
    by_cases c : s ≤ x ∧ x < s + (e - s)
    · rw [if_pos c]; congr 1; omega
    · have : ¬ (s + (e - s) ≤ x ∧ x < e) := by omega
      rw [if_neg c, if_neg this]
  · subst h
    have c : ¬ (s ≤ x ∧ x < s + (e - e)) := by omega
    rw [if_neg c]
    split <;> (first | rfl | (congr 1; omega))
theorem L1_step (hc : Cmp n T W S r N) (hN : N ≤ 1000) {a m b : Nat} {d : List Int} {f : Nat → Int} (ham : a < m) (hmb : m < b) (hbN : b ≤ N) (hd : Is N d f) (hv : Vld N f) (k : Int → Option (List Int)) (back : Int × Int → Option (List Int)) (lo hi : Nat) (h1 : m ≤ lo) (h2 : lo < hi) (h3 : hi ≤ b) :
   slices_symMergeCmpFunc_int_L1 n d (a : Int) T W S k back ((lo : Int), (hi : Int)) = bif decide (r (f a) < r (f ((lo + hi) / 2))) then back ((((lo + hi) / 2 + 1 : Nat) : Int), (hi : Int)) else back ((lo : Int), (((lo + hi) / 2 : Nat) : Int)) := by
          have hl := hd.1
          have q1 : ((lo : Nat) : Int) < ((hi : Nat) : Int) := by omega
          have q2 : ((lo : Nat) : Int) + ((hi : Nat) : Int) = ((lo + hi : Nat) : Int) := by omega
          obtain ⟨c, hcc⟩ : ∃ c, c = (lo + hi) / 2 := ⟨_, rfl⟩
          have hhalf : Int.fdiv (IntKind.u64.wrap (((lo : Nat) : Int) + ((hi : Nat) : Int))) (2 ^ (min 1 64)) = ((c : Nat) : Int) := by rw [half_eq (by omega), hcc]
          have l1 : c < d.length := by omega
          have l2 : a < d.length := by omega
          have v1 := hv c (by omega)
          have v2 := hv a (by omega)
          have q3 : (c : Int) + 1 = ((c + 1 : Nat) : Int) := by omega
          rw [slices_symMergeCmpFunc_int_L1, ← hcc]
          simp only [q1, decide_true, cond_true, hhalf, Int.toNat_natCast, inB_nat l1, inB_nat l2, l1, l2, chk_t, inI_nat (j := c) (by omega), hd.2 _ (show c < N by omega), hd.2 a (by omega), hc _ _ v1.1 v1.2 v2.1 v2.2, Option.bind_some, cv_neg]
          rw [q2, chk_of (inI_nat (by omega)), q3, chk_of (inI_nat (by omega))]
theorem L3_step (hc : Cmp n T W S r N) (hN : N ≤ 1000) {a m b : Nat} {d : List Int} {f : Nat → Int} (ham : a < m) (hmb : m < b) (hbN : b ≤ N) (hd : Is N d f) (hv : Vld N f) (k : Int → Option (List Int)) (back : Int × Int → Option (List Int)) (lo hi : Nat) (h1 : a ≤ lo) (h2 : lo < hi) (h3 : hi ≤ m) :
    slices_symMergeCmpFunc_int_L3 n d (m : Int) T W S k back ((lo : Int), (hi : Int)) = bif !decide (r (f ((lo + hi) / 2)) < r (f m)) then back ((((lo + hi) / 2 + 1 : Nat) : Int), (hi : Int)) else back ((lo : Int), (((lo + hi) / 2 : Nat) : Int)) := by
  have hl := hd.1
  have q1 : ((lo : Nat) : Int) < ((hi : Nat) : Int) := by omega
  have q2 : ((lo : Nat) : Int) + ((hi : Nat) : Int) = ((lo + hi : Nat) : Int) := by omega
  obtain ⟨c, hcc⟩ : ∃ c, c = (lo + hi) / 2 := ⟨_, rfl⟩
  have hhalf : Int.fdiv (IntKind.u64.wrap (((lo : Nat) : Int) + ((hi : Nat) : Int))) (2 ^ (min 1 64)) = ((c : Nat) : Int) := by rw [half_eq (by omega), hcc]
  have l1 : c < d.length := by omega
  have l2 : m < d.length := by omega
  have v1 := hv c (by omega)
  have v2 := hv m (by omega)
  have q3 : (c : Int) + 1 = ((c + 1 : Nat) : Int) := by omega
  rw [slices_symMergeCmpFunc_int_L3, ← hcc]
  simp only [q1, decide_true, cond_true, hhalf, Int.toNat_natCast, inB_nat l1, inB_nat l2, l1, l2, chk_t, inI_nat (j := c) (by omega), hd.2 _ (show c < N by omega), hd.2 m (by omega), hc _ _ v2.1 v2.2 v1.1 v1.2, Option.bind_some, cv_neg]
  rw [q2, chk_of (inI_nat (by omega)), q3, chk_of (inI_nat (by omega))]
theorem L5_step (hc : Cmp n T W S r N) (hN : N ≤ 1000) {a m b : Nat} {d : List Int} {f : Nat → Int} (hbN : b ≤ N) (hd : Is N d f) (hv : Vld N f) {mid : Nat} (hmid' : Int.fdiv (IntKind.u64.wrap (((a : Nat) : Int) + ((b : Nat) : Int))) (2 ^ (min 1 64)) = ((mid : Nat) : Int)) (K : Int → Option (List Int)) (back : Int × Int → Option (List Int)) (lo hi : Nat) (h2 : lo < hi) (h3 : hi ≤ m) (h4 : hi ≤ mid) (h5 : mid + m - lo ≤ b) (hmb : m < b) :
    slices_symMergeCmpFunc_int_L5 n d (a : Int) (m : Int) (b : Int) T W S K back ((lo : Int), (hi : Int)) = bif !decide (r (f ((lo + hi) / 2)) < r (f (mid + m - 1 - (lo + hi) / 2))) then back ((((lo + hi) / 2 + 1 : Nat) : Int), (hi : Int)) else back ((lo : Int), (((lo + hi) / 2 : Nat) : Int)) := by
  have hl := hd.1
  have q1 : ((lo : Nat) : Int) < ((hi : Nat) : Int) := by omega
  have q2 : ((lo : Nat) : Int) + ((hi : Nat) : Int) = ((lo + hi : Nat) : Int) := by omega
  have cnn : ((mid : Nat) : Int) + ((m : Nat) : Int) = ((mid + m : Nat) : Int) := by omega
  obtain ⟨c, hcc⟩ : ∃ c, c = (lo + hi) / 2 := ⟨_, rfl⟩
  have hhalf : Int.fdiv (IntKind.u64.wrap (((lo : Nat) : Int) + ((hi : Nat) : Int))) (2 ^ (min 1 64)) = ((c : Nat) : Int) := by rw [half_eq (by omega), hcc]
  have l1 : c < d.length := by omega
  have l2 : mid + m - 1 - c < d.length := by omega
  have v1 := hv c (by omega)
  have v2 := hv (mid + m - 1 - c) (by omega)
  have q3 : (c : Int) + 1 = ((c + 1 : Nat) : Int) := by omega
  have q4 : ((mid + m : Nat) : Int) - 1 - ((c : Nat) : Int) = ((mid + m - 1 - c : Nat) : Int) := by omega
  rw [slices_symMergeCmpFunc_int_L5, ← hcc]
  simp only [q1, decide_true, cond_true, hhalf, hmid', cnn, q4, Int.toNat_natCast, inB_nat l1, inB_nat l2, l1, l2, chk_t, inI_nat (j := c) (by omega), inI_nat (j := mid + m - 1 - c) (by omega), hd.2 c (by omega), hd.2 (mid + m - 1 - c) (by omega), hc _ _ v2.1 v2.2 v1.1 v1.2, Option.bind_some, cv_neg]
  rw [q2, chk_of (inI_nat (by omega)), q3, chk_of (inI_nat (by omega))]
theorem sym1 (hc : Cmp n T W S r N) (hN : N ≤ 1000) (hn : 1000 < n) {a m b : Nat} {d : List Int} {f : Nat → Int} (ham : a < m) (hmb : m < b) (hbN : b ≤ N) (hd : Is N d f) (hv : Vld N f) (hs1 : Srt r f a m) (hs2 : Srt r f m b) (hx : Crs f a m b) (c1 : m - a = 1) :
    ∃ d' g, loopN (slices_symMergeCmpFunc_int_L1 n d (a : Int) T W S (fun v5 => loopN (slices_symMergeCmpFunc_int_L2 v5 fun v8 => some v8) n ((a : Int), d))) n ((m : Int), (b : Int)) = some d' ∧ Rslt r N f a b d' g := by
  have hl := hd.1
  obtain ⟨s, b1, b2, b3, b4, b5⟩ := bsearch (F := slices_symMergeCmpFunc_int_L1 n d (a : Int) T W S (fun v5 => loopN (slices_symMergeCmpFunc_int_L2 v5 fun v8 => some v8) n ((a : Int), d))) (P := fun h => r (f a) < r (f h)) (k := fun v5 => loopN (slices_symMergeCmpFunc_int_L2 v5 fun v8 => some v8) n ((a : Int), d)) (L := m) (H := b)
    (fun back lo hi h1 h2 h3 => by
      rw [L1_step hc hN ham hmb hbN hd hv _ back lo hi h1 h2 h3]
      exact ⟨fun hP => by rw [decide_eq_true hP]; rfl, fun hP => by rw [decide_eq_false hP]; rfl⟩)
    (fun back lo => by rw [slices_symMergeCmpFunc_int_L1]; simp only [Int.lt_irrefl, decide_false, cond_false])
    (fun x y h1 h2 h3 hP => by have := hs2.key h1 h2 h3; omega) n m b (Nat.le_refl _) (by omega) (Nat.le_refl _) (by omega) (fun x _ _ => by omega) (fun x _ _ => by omega)
  rw [b3]
  obtain ⟨d', u1, u2⟩ := up_loop (f := f) (a := a) (s := s) hN (by omega) (by omega) (fun v8 => some v8) n a d (by omega) (Nat.le_refl _) (by omega) (hd.congr fun k _ => by
    unfold upF
    have g : ¬ (a ≤ k ∧ k < a) := by omega
    rw [if_neg g]
    split
    · rename_i e; rw [e]
    · rfl)
  have hout : OutF f (upF f a (s - 1)) a b := by
    intro k hk
    unfold upF
    have g1 : ¬ (a ≤ k ∧ k < s - 1) := by omega
    have g2 : ¬ k = s - 1 := by omega
    rw [if_neg g1, if_neg g2]
  have hsub : SubF f (upF f a (s - 1)) a b := by
    intro k h1 h2
    unfold upF
    split
    · exact ⟨k + 1, by omega, by omega, rfl⟩
    · split
      · exact ⟨a, by omega, by omega, rfl⟩
      · exact ⟨k, h1, h2, rfl⟩
  have before : ∀ h, m ≤ h → h < s → ltR r (f h) (f a) := fun h h1 h2 => .inl (b4 h h1 h2)
  have behind : ∀ h, s ≤ h → h < b → ltR r (f a) (f h) := by
    intro h h1 h2
    have q1 := b5 h h1 h2
    have q2 := hx a h (Nat.le_refl _) ham (by omega) h2
    unfold ltR; omega
  refine ⟨d', _, u1, u2, vld_sub hv hbN hout hsub, hout, hsub, fun p q h1 h2 h3 => ?_⟩
  unfold upF
  by_cases p1 : a ≤ p ∧ p < s - 1
  · rw [if_pos p1]
    by_cases q1 : a ≤ q ∧ q < s - 1
    · rw [if_pos q1]; exact hs2 _ _ (by omega) (by omega) (by omega)
    · rw [if_neg q1]
      by_cases q2 : q = s - 1
      · rw [if_pos q2]; exact before _ (by omega) (by omega)
      · rw [if_neg q2]; exact hs2 _ _ (by omega) (by omega) (by omega)
  · have q1 : ¬ (a ≤ q ∧ q < s - 1) := by omega
    have q2 : ¬ q = s - 1 := by omega
    rw [if_neg p1, if_neg q1, if_neg q2]
    by_cases p2 : p = s - 1
    · rw [if_pos p2]; exact behind _ (by omega) h3
    · rw [if_neg p2]; exact hs2 _ _ (by omega) (by omega) (by omega)
theorem sym2 (hc : Cmp n T W S r N) (hN : N ≤ 1000) (hn : 1000 < n) {a m b : Nat} {d : List Int} {f : Nat → Int} (ham : a < m) (hmb : m < b) (hbN : b ≤ N) (hd : Is N d f) (hv : Vld N f) (hs1 : Srt r f a m) (hs2 : Srt r f m b) (hx : Crs f a m b) (c2 : b - m = 1) :
    ∃ d' g, loopN (slices_symMergeCmpFunc_int_L3 n d (m : Int) T W S (fun v13 => loopN (slices_symMergeCmpFunc_int_L4 v13 fun v16 => some v16) n ((m : Int), d))) n ((a : Int), (m : Int)) = some d' ∧ Rslt r N f a b d' g := by
  have hl := hd.1
  obtain ⟨s, b1, b2, b3, b4, b5⟩ := bsearch (F := slices_symMergeCmpFunc_int_L3 n d (m : Int) T W S (fun v13 => loopN (slices_symMergeCmpFunc_int_L4 v13 fun v16 => some v16) n ((m : Int), d))) (P := fun h => ¬ r (f h) < r (f m)) (k := fun v13 => loopN (slices_symMergeCmpFunc_int_L4 v13 fun v16 => some v16) n ((m : Int), d)) (L := a) (H := m)
    (fun back lo hi h1 h2 h3 => by
      rw [L3_step hc hN ham hmb hbN hd hv _ back lo hi h1 h2 h3]
      exact ⟨fun hP => by rw [decide_eq_false hP]; rfl, fun hP => by rw [decide_eq_true (Classical.not_not.1 hP)]; rfl⟩)
    (fun back lo => by rw [slices_symMergeCmpFunc_int_L3]; simp only [Int.lt_irrefl, decide_false, cond_false])
    (fun x y h1 h2 h3 hP => by have := hs1.key h1 h2 h3; omega) n a m (Nat.le_refl _) (by omega) (Nat.le_refl _) (by omega) (fun x _ _ => by omega) (fun x _ _ => by omega)
  rw [b3]
  obtain ⟨d', u1, u2⟩ := down_loop (f := f) (s := s) (m0 := m) hN (by omega) (fun v16 => some v16) n m d (by omega) b2 (Nat.le_refl _) (hd.congr fun k _ => (moveF_self f m k).symm)
  have hout : OutF f (moveF f s m) a b := by
    intro k hk
    unfold moveF
    rcases hk with hk | hk
    · have : k < s := by omega
      rw [if_pos this]
    · have g1 : ¬ k < s := by omega
      have g2 : ¬ k = s := by omega
      have g3 : ¬ k ≤ m := by omega
      rw [if_neg g1, if_neg g2, if_neg g3]
  have hsub : SubF f (moveF f s m) a b := by
    intro k h1 h2
    unfold moveF
    split
    · exact ⟨k, h1, h2, rfl⟩
    · split
      · exact ⟨m, by omega, by omega, rfl⟩
      · split
        · exact ⟨k - 1, by omega, by omega, rfl⟩
        · exact ⟨k, h1, h2, rfl⟩
  have before : ∀ h, a ≤ h → h < s → ltR r (f h) (f m) := by
    intro h h1 h2
    have q1 := b4 h h1 h2
    have q2 := hx h m h1 (by omega) (Nat.le_refl _) hmb
    unfold ltR; omega
  have behind : ∀ h, s ≤ h → h < m → ltR r (f m) (f h) := by
    intro h h1 h2
    have q1 := b5 h h1 h2
    unfold ltR; omega
  refine ⟨d', _, u1, u2, vld_sub hv hbN hout hsub, hout, hsub, fun p q h1 h2 h3 => ?_⟩
  unfold moveF
  by_cases p1 : p < s
  · rw [if_pos p1]
    by_cases q1 : q < s
    · rw [if_pos q1]; exact hs1 _ _ h1 h2 (by omega)
    · rw [if_neg q1]
      by_cases q2 : q = s
      · rw [if_pos q2]; exact before _ h1 p1
      · have q3 : q ≤ m := by omega
        rw [if_neg q2, if_pos q3]; exact hs1 _ _ h1 (by omega) (by omega)
  · have q1 : ¬ q < s := by omega
    have q2 : ¬ q = s := by omega
    have q3 : q ≤ m := by omega
    rw [if_neg p1, if_neg q1, if_neg q2, if_pos q3]
    by_cases p2 : p = s
    · rw [if_pos p2]; exact behind _ (by omega) (by omega)
    · have p3 : p ≤ m := by omega
      rw [if_neg p2, if_pos p3]; exact hs1 _ _ (by omega) (by omega) (by omega)
theorem symSearch (hc : Cmp n T W S r N) (hN : N ≤ 1000) (hn : 1000 < n) {a m b : Nat} {d : List Int} {f : Nat → Int} (ham : a < m) (hmb : m < b) (hbN : b ≤ N) (hd : Is N d f) (hv : Vld N f) (hs1 : Srt r f a m) (hs2 : Srt r f m b) (hx : Crs f a m b) {mid : Nat} (hmid : mid = (a + b) / 2) (hmid' : Int.fdiv (IntKind.u64.wrap (((a : Nat) : Int) + ((b : Nat) : Int))) (2 ^ (min 1 64)) = ((mid : Nat) : Int)) (K : Int → Option (List Int)) :
    ∀ lo hi : Nat, (mid < m → lo = mid + m - b ∧ hi = mid) → (¬ mid < m → lo = a ∧ hi = m) →
            ∃ s : Nat, lo ≤ s ∧ s ≤ hi ∧ loopN (slices_symMergeCmpFunc_int_L5 n d (a : Int) (m : Int) (b : Int) T W S K) n ((lo : Int), (hi : Int)) = K (s : Int) ∧ (∀ x, lo ≤ x → x < s → ¬ r (f x) < r (f (mid + m - 1 - x))) ∧ (∀ x, s ≤ x → x < hi → r (f x) < r (f (mid + m - 1 - x))) := by
  have hl := hd.1
  have cab : ((a : Nat) : Int) + ((b : Nat) : Int) = ((a + b : Nat) : Int) := by omega
  have cnn : ((mid : Nat) : Int) + ((m : Nat) : Int) = ((mid + m : Nat) : Int) := by omega
  intro lo hi g1 g2
  have hlo : a ≤ lo ∧ hi ≤ m ∧ hi ≤ mid ∧ lo ≤ hi ∧ mid + m - lo ≤ b := by
    by_cases q : mid < m
    · obtain ⟨q1, q2⟩ := g1 q; omega
    · obtain ⟨q1, q2⟩ := g2 q; omega
  obtain ⟨s, b1, b2, b3, b4, b5⟩ := bsearch (F := slices_symMergeCmpFunc_int_L5 n d (a : Int) (m : Int) (b : Int) T W S K) (P := fun x => ¬ r (f x) < r (f (mid + m - 1 - x))) (k := K) (L := lo) (H := hi)
    (fun back x y h1 h2 h3 => by
      rw [L5_step hc hN hbN hd hv hmid' K back x y h2 (by omega) (by omega) (by omega) hmb]
      exact ⟨fun hP => by rw [decide_eq_false hP]; rfl, fun hP => by rw [decide_eq_true (Classical.not_not.1 hP)]; rfl⟩)
    (fun back x => by rw [slices_symMergeCmpFunc_int_L5]; simp only [Int.lt_irrefl, decide_false, cond_false])
    (fun x y h1 h2 h3 hP => by
      have k1 := hs1.key (x := x) (y := y) (by omega) h2 (by omega)
      have k2 := hs2.key (x := mid + m - 1 - y) (y := mid + m - 1 - x) (by omega) (by omega) (by omega)
      omega) n lo hi (Nat.le_refl _) hlo.2.2.2.1 (Nat.le_refl _) (by omega) (fun x _ _ => by omega) (fun x _ _ => by omega)
  exact ⟨s, b1, b2, b3, b4, fun x h1 h2 => by have := b5 x h1 h2; omega⟩
def symK8 (n fu mid m b : Nat) (T : Int) (W : List Int) (S : Int) (v23 : Int) (v27 : List Int) : Option (List Int) :=
  bif (decide ((mid : Int) < (((mid + m : Nat) : Int) - v23))) && (decide ((((mid + m : Nat) : Int) - v23) < (b : Int))) then
    (loopN (slices_symMergeCmpFunc_int_F n) fu (v27, (mid : Int), ((mid + m : Nat) : Int) - v23, (b : Int), T, W, S)).bind fun y28 =>
    chk (decide (v27.length = y28.length)) (some y28)
  else some v27
def symK7 (n fu mid m a b : Nat) (T : Int) (W : List Int) (S : Int) (v23 : Int) (v25 : List Int) : Option (List Int) :=
  bif (decide ((a : Int) < v23)) && (decide (v23 < (mid : Int))) then
    (loopN (slices_symMergeCmpFunc_int_F n) fu (v25, (a : Int), v23, (mid : Int), T, W, S)).bind fun y26 =>
    chk (decide (v25.length = y26.length)) (symK8 n fu mid m b T W S v23 y26)
  else symK8 n fu mid m b T W S v23 v25
def symK (n fu mid m a b : Nat) (T : Int) (W : List Int) (S : Int) (d : List Int) (v23 : Int) : Option (List Int) :=
  chk (inI (((mid + m : Nat) : Int) - v23)) <|
  bif (decide (v23 < (m : Int))) && (decide ((m : Int) < (((mid + m : Nat) : Int) - v23))) then
    (slices_rotateCmpFunc_int n d v23 (m : Int) (((mid + m : Nat) : Int) - v23) T W S).bind fun y24 =>
    chk (decide (d.length = y24.length)) (symK7 n fu mid m a b T W S v23 y24)
  else symK7 n fu mid m a b T W S v23 d
theorem symRest (hc : Cmp n T W S r N) (hN : N ≤ 1000) (hn : 1000 < n) {fu : Nat}
    (ih : ∀ (a m b : Nat) (d : List Int) (f : Nat → Int), b - a < fu → a < m → m < b → b ≤ N → Is N d f → Vld N f → Srt r f a m → Srt r f m b → Crs f a m b → ∃ d' g, loopN (slices_symMergeCmpFunc_int_F n) fu (d, (a : Int), (m : Int), (b : Int), T, W, S) = some d' ∧ Rslt r N f a b d' g)
    {a m b : Nat} {d : List Int} {f : Nat → Int} (ham : a < m) (hmb : m < b) (hbN : b ≤ N) (hd : Is N d f) (hv : Vld N f) (hs1 : Srt r f a m) (hs2 : Srt r f m b) (hx : Crs f a m b) {mid : Nat} (hmid : mid = (a + b) / 2) (hfu : b - a < fu + 1) :
    ∀ s : Nat, a ≤ s → s ≤ m → s ≤ mid → mid + m - s ≤ b → (∀ i j, a ≤ i → i < s → mid + m - s ≤ j → j < b → ltR r (f i) (f j)) → (∀ i j, m ≤ i → i < mid + m - s → s ≤ j → j < m → ltR r (f i) (f j)) →
            ∃ d' g, symK n fu mid m a b T W S d (s : Int) = some d' ∧ Rslt r N f a b d' g := by
  have hl := hd.1
  intro s s1 s2 s3 s4 hA hB
  obtain ⟨e, he⟩ : ∃ e, e = mid + m - s := ⟨_, rfl⟩
  rw [← he] at s4 hA hB
  have ce : ((mid + m : Nat) : Int) - ((s : Nat) : Int) = ((e : Nat) : Int) := by omega
  rw [symK]
  simp only [ce]
  rw [chk_of (inI_nat (by omega))]
  have hrot : ∃ d1, (bif (decide (((s : Nat) : Int) < ((m : Nat) : Int))) && (decide (((m : Nat) : Int) < ((e : Nat) : Int))) then (slices_rotateCmpFunc_int n d ((s : Nat) : Int) (m : Int) ((e : Nat) : Int) T W S).bind fun y24 => chk (decide (d.length = y24.length)) (some y24) else some d) = some d1 ∧ Is N d1 (rotF f s m e) := by
    by_cases q : s < m ∧ m < e
    · have q1 : ((s : Nat) : Int) < ((m : Nat) : Int) := by omega
      have q2 : ((m : Nat) : Int) < ((e : Nat) : Int) := by omega
      obtain ⟨d1, w1, w2⟩ := rotate_eq (n := n) (f := f) (a := s) (m := m) (b := e) hN hn q.1 q.2 (by omega) T S W hd
      refine ⟨d1, ?_, w2⟩
      simp only [q1, q2, decide_true, Bool.and_self, cond_true, w1, Option.bind_some]
      rw [chk_of (by rw [hd.1, w2.1]; simp)]
    · refine ⟨d, ?_, hd.congr fun x _ => (rot_id (by omega) s2 (by omega) x).symm⟩
      by_cases q1 : s < m
      · have q2 : ¬ ((m : Nat) : Int) < ((e : Nat) : Int) := by omega
        simp [q2]
      · have q1 : ¬ ((s : Nat) : Int) < ((m : Nat) : Int) := by omega
        simp [q1]
  obtain ⟨d1, hr1, hd1⟩ := hrot
  have hk7 : ∀ k7 : List Int → Option (List Int), (bif (decide (((s : Nat) : Int) < ((m : Nat) : Int))) && (decide (((m : Nat) : Int) < ((e : Nat) : Int))) then (slices_rotateCmpFunc_int n d ((s : Nat) : Int) (m : Int) ((e : Nat) : Int) T W S).bind fun y24 => chk (decide (d.length = y24.length)) (k7 y24) else k7 d) = k7 d1 := by
    intro k7
    by_cases q : ((decide (((s : Nat) : Int) < ((m : Nat) : Int))) && (decide (((m : Nat) : Int) < ((e : Nat) : Int)))) = true
    · rw [q, cond_true] at hr1 ⊢
      cases hq : slices_rotateCmpFunc_int n d ((s : Nat) : Int) (m : Int) ((e : Nat) : Int) T W S with
      | none => rw [hq] at hr1; cases hr1
      | some y =>
        rw [hq] at hr1
        simp only [Option.bind_some] at hr1 ⊢
        cases hq2 : decide (d.length = y.length)
        · rw [hq2] at hr1; cases hr1
        · rw [hq2] at hr1
          simp only [chk_t, Option.some.injEq] at hr1
          rw [hr1]; rfl
    · rw [Bool.not_eq_true] at q
      rw [q, cond_false] at hr1 ⊢
      simp only [Option.some.injEq] at hr1
      rw [hr1]
  rw [hk7, symK7]
  obtain ⟨f1, hf1⟩ : ∃ f1, f1 = rotF f s m e := ⟨_, rfl⟩
  rw [← hf1] at hd1
  have emid : s + (e - m) = mid := by omega
  have r1 : ∀ i, i < s → f1 i = f i := fun i h => by
    rw [hf1]; unfold rotF
    have g1 : ¬ (s ≤ i ∧ i < s + (e - m)) := by omega
    have g2 : ¬ (s + (e - m) ≤ i ∧ i < e) := by omega
    rw [if_neg g1, if_neg g2]
  have r2 : ∀ i, s ≤ i → i < mid → f1 i = f (i + (m - s)) := fun i h1 h2 => by
    rw [hf1]; unfold rotF
    have g1 : (s ≤ i ∧ i < s + (e - m)) := by omega
    rw [if_pos g1]
  have r3 : ∀ i, mid ≤ i → i < e → f1 i = f (i - (e - m)) := fun i h1 h2 => by
    rw [hf1]; unfold rotF
    have g1 : ¬ (s ≤ i ∧ i < s + (e - m)) := by omega
    have g2 : (s + (e - m) ≤ i ∧ i < e) := by omega
    rw [if_neg g1, if_pos g2]
  have r4 : ∀ i, e ≤ i → f1 i = f i := fun i h => by
    rw [hf1]; unfold rotF
    have g1 : ¬ (s ≤ i ∧ i < s + (e - m)) := by omega
    have g2 : ¬ (s + (e - m) ≤ i ∧ i < e) := by omega
    rw [if_neg g1, if_neg g2]
  have hv1 : Vld N f1 := by
    intro i hi
    by_cases q1 : i < s
    · rw [r1 i q1]; exact hv i hi
    · by_cases q2 : i < mid
      · rw [r2 i (by omega) q2]; exact hv _ (by omega)
      · by_cases q3 : i < e
        · rw [r3 i (by omega) q3]; exact hv _ (by omega)
        · rw [r4 i (by omega)]; exact hv i hi
  have t1 : Srt r f1 a s := fun i j h1 h2 h3 => by rw [r1 i (by omega), r1 j h3]; exact hs1 i j h1 h2 (by omega)
  have t2 : Srt r f1 s mid := fun i j h1 h2 h3 => by rw [r2 i h1 (by omega), r2 j (by omega) h3]; exact hs2 _ _ (by omega) (by omega) (by omega)
  have t3 : Srt r f1 mid e := fun i j h1 h2 h3 => by rw [r3 i h1 (by omega), r3 j (by omega) h3]; exact hs1 _ _ (by omega) (by omega) (by omega)
  have t4 : Srt r f1 e b := fun i j h1 h2 h3 => by rw [r4 i h1, r4 j (by omega)]; exact hs2 i j (by omega) h2 h3
  have x1 : Crs f1 a s mid := fun i j h1 h2 h3 h4 => by rw [r1 i h2, r2 j h3 h4]; exact hx _ _ h1 (by omega) (by omega) (by omega)
  have x2 : Crs f1 mid e b := fun i j h1 h2 h3 h4 => by rw [r3 i h1 h2, r4 j h3]; exact hx _ _ (by omega) (by omega) (by omega) h4
  have lower : ∀ i j, a ≤ i → i < mid → mid ≤ j → j < b → ltR r (f1 i) (f1 j) := by
    intro i j h1 h2 h3 h4
    by_cases q1 : i < s
    · rw [r1 i q1]
      by_cases q2 : j < e
      · rw [r3 j h3 q2]; exact hs1 _ _ h1 (by omega) (by omega)
      · rw [r4 j (by omega)]; exact hA i j h1 q1 (by omega) h4
    · rw [r2 i (by omega) h2]
      by_cases q2 : j < e
      · rw [r3 j h3 q2]; exact hB _ _ (by omega) (by omega) (by omega) (by omega)
      · rw [r4 j (by omega)]; exact hs2 _ _ (by omega) (by omega) h4
  have from1 : ∀ i, a ≤ i → i < b → ∃ j, a ≤ j ∧ j < b ∧ f1 i = f j := by
    intro i h1 h2
    by_cases q1 : i < s
    · exact ⟨i, h1, h2, r1 i q1⟩
    · by_cases q2 : i < mid
      · exact ⟨_, by omega, by omega, r2 i (by omega) q2⟩
      · by_cases q3 : i < e
        · exact ⟨_, by omega, by omega, r3 i (by omega) q3⟩
        · exact ⟨i, h1, h2, r4 i (by omega)⟩
  have half1 : ∃ d2 g1, (∀ k8 : List Int → Option (List Int), (bif (decide (((a : Nat) : Int) < ((s : Nat) : Int))) && (decide (((s : Nat) : Int) < ((mid : Nat) : Int))) then (loopN (slices_symMergeCmpFunc_int_F n) fu (d1, (a : Int), ((s : Nat) : Int), ((mid : Nat) : Int), T, W, S)).bind fun y26 => chk (decide (d1.length = y26.length)) (k8 y26) else k8 d1) = k8 d2) ∧ Rslt r N f1 a mid d2 g1 := by
    by_cases q : a < s ∧ s < mid
    · have q1 : ((a : Nat) : Int) < ((s : Nat) : Int) := by omega
      have q2 : ((s : Nat) : Int) < ((mid : Nat) : Int) := by omega
      obtain ⟨d2, g1, w1, w2⟩ := ih a s mid d1 f1 (by omega) q.1 q.2 (by omega) hd1 hv1 t1 t2 x1
      refine ⟨d2, g1, fun k8 => ?_, w2⟩
      simp only [q1, q2, decide_true, Bool.and_self, cond_true, w1, Option.bind_some]
      rw [chk_of (by rw [hd1.1, w2.1.1]; simp)]
    · refine ⟨d1, f1, fun k8 => ?_, hd1, hv1, fun _ _ => rfl, fun i h1 h2 => ⟨i, h1, h2, rfl⟩, ?_⟩
      · by_cases q1 : a < s
        · have q2 : ¬ ((s : Nat) : Int) < ((mid : Nat) : Int) := by omega
          simp [q2]
        · have q1 : ¬ ((a : Nat) : Int) < ((s : Nat) : Int) := by omega
          simp [q1]
      · by_cases q1 : a < s
        · have : s = mid := by omega
          rw [← this]; exact t1
        · have : s = a := by omega
          rw [← this]; exact t2
  obtain ⟨d2, g1, hk8, hd2, hv2, ho2, hsub2, hsrt2⟩ := half1
  rw [hk8, symK8]
  simp only [ce]
  have g1mid : ∀ i, mid ≤ i → g1 i = f1 i := fun i h => ho2 i (.inr h)
  have half2 : ∃ d3 g2, (bif (decide (((mid : Nat) : Int) < ((e : Nat) : Int))) && (decide (((e : Nat) : Int) < ((b : Nat) : Int))) then (loopN (slices_symMergeCmpFunc_int_F n) fu (d2, ((mid : Nat) : Int), ((e : Nat) : Int), ((b : Nat) : Int), T, W, S)).bind fun y28 => chk (decide (d2.length = y28.length)) (some y28) else some d2) = some d3 ∧ Rslt r N g1 mid b d3 g2 := by
    have u3 : Srt r g1 mid e := fun i j h1 h2 h3 => by rw [g1mid i h1, g1mid j (by omega)]; exact t3 i j h1 h2 h3
    have u4 : Srt r g1 e b := fun i j h1 h2 h3 => by rw [g1mid i (by omega), g1mid j (by omega)]; exact t4 i j h1 h2 h3
    by_cases q : mid < e ∧ e < b
    · have q1 : ((mid : Nat) : Int) < ((e : Nat) : Int) := by omega
      have q2 : ((e : Nat) : Int) < ((b : Nat) : Int) := by omega
      have u5 : Crs g1 mid e b := fun i j h1 h2 h3 h4 => by rw [g1mid i h1, g1mid j (by omega)]; exact x2 i j h1 h2 h3 h4
      obtain ⟨d3, g2, w1, w2⟩ := ih mid e b d2 g1 (by omega) q.1 q.2 hbN hd2 hv2 u3 u4 u5
      refine ⟨d3, g2, ?_, w2⟩
      simp only [q1, q2, decide_true, Bool.and_self, cond_true, w1, Option.bind_some]
      rw [chk_of (by rw [hd2.1, w2.1.1]; simp)]
    · refine ⟨d2, g1, ?_, hd2, hv2, fun _ _ => rfl, fun i h1 h2 => ⟨i, h1, h2, rfl⟩, ?_⟩
      · by_cases q1 : mid < e
        · have q2 : ¬ ((e : Nat) : Int) < ((b : Nat) : Int) := by omega
          simp [q2]
        · have q1 : ¬ ((mid : Nat) : Int) < ((e : Nat) : Int) := by omega
          simp [q1]
      · by_cases q1 : mid < e
        · have : e = b := by omega
          rw [← this]; exact u3
        · have : e = mid := by omega
          rw [← this]; exact u4
  obtain ⟨d3, g2, hk9, hd3, hv3, ho3, hsub3, hsrt3⟩ := half2
  rw [hk9]
  refine ⟨d3, g2, rfl, hd3, hv3, fun i hi => ?_, fun i h1 h2 => ?_, fun i j h1 h2 h3 => ?_⟩
  · rw [ho3 i (by omega), ho2 i (by omega)]
    rcases hi with hi | hi
    · exact r1 i (by omega)
    · exact r4 i (by omega)
  · by_cases q : i < mid
    · rw [ho3 i (.inl q)]
      obtain ⟨j, w1, w2, w3⟩ := hsub2 i h1 q
      rw [w3]; exact from1 j w1 (by omega)
    · obtain ⟨j, w1, w2, w3⟩ := hsub3 i (by omega) h2
      rw [w3, g1mid j w1]; exact from1 j (by omega) w2
  · by_cases q1 : j < mid
    · rw [ho3 i (.inl (by omega)), ho3 j (.inl q1)]; exact hsrt2 i j h1 h2 q1
    · by_cases q2 : i < mid
      · rw [ho3 i (.inl q2)]
        obtain ⟨i', w1, w2, w3⟩ := hsub2 i h1 q2
        obtain ⟨j', z1, z2, z3⟩ := hsub3 j (by omega) h3
        rw [w3, z3, g1mid j' z1]
        exact lower i' j' w1 w2 z1 z2
      · exact hsrt3 i j (by omega) h2 h3
theorem symMerge (hc : Cmp n T W S r N) (hN : N ≤ 1000) (hn : 1000 < n) : ∀ (fu : Nat) (a m b : Nat) (d : List Int) (f : Nat → Int), b - a < fu → a < m → m < b → b ≤ N → Is N d f → Vld N f → Srt r f a m → Srt r f m b → Crs f a m b →
    ∃ d' g, loopN (slices_symMergeCmpFunc_int_F n) fu (d, (a : Int), (m : Int), (b : Int), T, W, S) = some d' ∧ Rslt r N f a b d' g := by
  intro fu
  induction fu with
  | zero => intro a m b d f h; omega
  | succ fu ih =>
    intro a m b d f hfu ham hmb hbN hd hv hs1 hs2 hx
    rw [loopN_s]
    simp only [slices_symMergeCmpFunc_int_F]
    have cma : ((m : Nat) : Int) - ((a : Nat) : Int) = ((m - a : Nat) : Int) := by omega
    have cbm : ((b : Nat) : Int) - ((m : Nat) : Int) = ((b - m : Nat) : Int) := by omega
    rw [cma, cbm, chk_of (inI_nat (by omega))]
    by_cases c1 : m - a = 1
    · have e1 : (((m - a : Nat) : Int) == 1) = true := by rw [c1]; rfl
      simp only [e1, cond_true, withK_eq]
      exact sym1 hc hN hn ham hmb hbN hd hv hs1 hs2 hx c1
    · have e1 : (((m - a : Nat) : Int) == 1) = false := by
        rw [Bool.eq_false_iff]; intro h; have := eq_of_beq h; omega
      simp only [e1, cond_false]
      rw [chk_of (inI_nat (by omega))]
      by_cases c2 : b - m = 1
      · have e2 : (((b - m : Nat) : Int) == 1) = true := by rw [c2]; rfl
        simp only [e2, cond_true, withK_eq]
        exact sym2 hc hN hn ham hmb hbN hd hv hs1 hs2 hx c2
      · have e2 : (((b - m : Nat) : Int) == 1) = false := by
          rw [Bool.eq_false_iff]; intro h; have := eq_of_beq h; omega
        obtain ⟨mid, hmid⟩ : ∃ mid, mid = (a + b) / 2 := ⟨_, rfl⟩
        have hmid' : Int.fdiv (IntKind.u64.wrap (((a : Nat) : Int) + ((b : Nat) : Int))) (2 ^ (min 1 64)) = ((mid : Nat) : Int) := by rw [half_eq (by omega), hmid]
        have cab : ((a : Nat) : Int) + ((b : Nat) : Int) = ((a + b : Nat) : Int) := by omega
        have cnn : ((mid : Nat) : Int) + ((m : Nat) : Int) = ((mid + m : Nat) : Int) := by omega
        simp only [e2, cond_false, hmid', cnn, withK_eq]
        rw [cab, chk_of (inI_nat (by omega)), chk_of (inI_nat (by omega)), chk_of (inI_nat (by omega))]
        generalize hK : (fun v23 : Int => chk (inI (((mid + m : Nat) : Int) - v23)) _) = K
        have hK' : K = symK n fu mid m a b T W S d := hK.symm
        subst hK'
        have cp : ((mid + m : Nat) : Int) - 1 = ((mid + m - 1 : Nat) : Int) := by omega
        have search := symSearch hc hN hn ham hmb hbN hd hv hs1 hs2 hx hmid hmid' (symK n fu mid m a b T W S d)
        have rest := symRest hc hN hn ih ham hmb hbN hd hv hs1 hs2 hx hmid hfu
        clear hK ih
        by_cases q : mid < m
        · have q1 : ((mid : Nat) : Int) < ((m : Nat) : Int) := by omega
          have q2 : ((mid + m : Nat) : Int) - ((b : Nat) : Int) = ((mid + m - b : Nat) : Int) := by omega
          simp only [q1, decide_true, cond_true, q2]
          rw [chk_of (inI_nat (by omega)), cp, chk_of (inI_nat (by omega))]
          obtain ⟨s, b1, b2, b3, b4, b5⟩ := search (mid + m - b) mid (fun _ => ⟨rfl, rfl⟩) (fun h => absurd q h)
          rw [b3]
          refine rest s (by omega) (by omega) b2 (by omega) (fun i j h1 h2 h3 h4 => ?_) (fun i j h1 h2 h3 h4 => ?_)
          ·
            have w1 := b4 (s - 1) (by omega) (by omega)
            have w2 : mid + m - 1 - (s - 1) = mid + m - s := by omega
            rw [w2] at w1
            have k1 := hs1.key (x := i) (y := s - 1) h1 (by omega) (by omega)
            have k2 := hs2.key (x := mid + m - s) (y := j) (by omega) h3 h4
            have k3 := hx i j h1 (by omega) (by omega) h4
            unfold ltR; omega
          · have w1 := b5 s (Nat.le_refl _) (by omega)
            have k1 := hs1.key (x := s) (y := j) (by omega) h3 h4
            have k2 := hs2.key (x := i) (y := mid + m - 1 - s) h1 (by omega) (by omega)
            unfold ltR; omega
        · have q1 : ¬ ((mid : Nat) : Int) < ((m : Nat) : Int) := by omega
          simp only [q1, decide_false, cond_false]
          rw [cp, chk_of (inI_nat (by omega))]
          obtain ⟨s, b1, b2, b3, b4, b5⟩ := search a m (fun h => absurd h q) (fun _ => ⟨rfl, rfl⟩)
          rw [b3]
          refine rest s b1 b2 (by omega) (by omega) (fun i j h1 h2 h3 h4 => ?_) (fun i j h1 h2 h3 h4 => ?_)
          · have w1 := b4 (s - 1) (by omega) (by omega)
            have w2 : mid + m - 1 - (s - 1) = mid + m - s := by omega
            rw [w2] at w1
            have k1 := hs1.key (x := i) (y := s - 1) h1 (by omega) (by omega)
            have k2 := hs2.key (x := mid + m - s) (y := j) (by omega) h3 h4
            have k3 := hx i j h1 (by omega) (by omega) h4
            unfold ltR; omega
          · have w1 := b5 s (Nat.le_refl _) (by omega)
            have k1 := hs1.key (x := s) (y := j) (by omega) h3 h4
            have k2 := hs2.key (x := i) (y := mid + m - 1 - s) h1 (by omega) (by omega)
            unfold ltR; omega
end
section
set_option maxRecDepth 4000
open Go
variable {n : Nat} {T S : Int} {W : List Int} {r : Int → Int} {N : Nat}
def BlkAt (r : Int → Int) (N B q : Nat) (f : Nat → Int) : Prop := (∀ i, q * B ≤ i → i < q * B + B → i < N → ((q * B : Nat) : Int) ≤ f i ∧ f i < ((q * B + B : Nat) : Int)) ∧ Srt r f (q * B) (min (q * B + B) N)
theorem BlkAt.same {B q : Nat} {f g : Nat → Int} (h : BlkAt r N B q f) (e : ∀ i, q * B ≤ i → i < q * B + B → i < N → g i = f i) : BlkAt r N B q g := by
  refine ⟨fun i h1 h2 h3 => by rw [e i h1 h2 h3]; exact h.1 i h1 h2 h3, fun i j h1 h2 h3 => ?_⟩
  rw [e i h1 (by omega) (by omega), e j (by omega) (by omega) (by omega)]
  exact h.2 i j h1 h2 h3
theorem BlkAt.void {B q : Nat} {f : Nat → Int} (h : N ≤ q * B) : BlkAt r N B q f := ⟨fun i h1 _ h3 => by omega, fun i j h1 h2 h3 => by omega⟩
theorem blocks20 (hc : Cmp n T W S r N) (hN : N ≤ 900) (hn : 1000 < n) (k1 : Int × List Int → Option (List Int)) : ∀ (m t : Nat) (d : List Int) (f : Nat → Int), N - t * 20 < m → t * 20 ≤ N → Is N d f → Vld N f → (∀ q, q < t → BlkAt r N 20 q f) → (∀ i, t * 20 ≤ i → i < N → f i = (i : Int)) →
    ∃ d' g t', loopN (slices_stableCmpFunc_int_L1 n (N : Int) T W S k1) m (((t * 20 : Nat) : Int), t * 20 + 20, d) = k1 (((t' * 20 : Nat) : Int), d') ∧ Is N d' g ∧ Vld N g ∧ N < t' * 20 + 20 ∧ t' * 20 ≤ N ∧ (∀ q, q < t' → BlkAt r N 20 q g) ∧ ∀ i, t' * 20 ≤ i → i < N → g i = (i : Int) := by
  intro m
  induction m with
  | zero => intro t d f h; omega
  | succ m ih =>
    intro t d f hm ht hd hv hq hid
    rw [loopN_s, slices_stableCmpFunc_int_L1]
    by_cases h : t * 20 + 20 ≤ N
    · have h1 : ((t * 20 + 20 : Nat) : Int) ≤ ((N : Nat) : Int) := by omega
      obtain ⟨d', g, e1, e2, e3, e4, e5, e6⟩ := insertion (n := n) hc (by omega) hn hv (a := t * 20) (b := t * 20 + 20) h (by omega) (fun i j a1 a2 a3 => by rw [hid i a1 (by omega), hid j (by omega) (by omega)]; omega) hd
      simp only [h1, decide_true, cond_true, e1, Option.bind_some]
      rw [chk_of (by rw [hd.1, e2.1]; simp), chk_of (nI_of (by omega))]
      have ht1 : (t + 1) * 20 = t * 20 + 20 := by omega
      have := ih (t + 1) d' g (by omega) (by omega) e2 e3 (fun q hqt => ?_) (fun i h1 h2 => by rw [e4 i (by omega)]; exact hid i (by omega) h2)
      · rw [ht1] at this
        exact this
      · by_cases e : q = t
        · subst e
          refine ⟨fun i a1 a2 a3 => ?_, ?_⟩
          · obtain ⟨j, b1, b2, b3⟩ := e5 i a1 a2
            rw [b3, hid j b1 (by omega)]
            omega
          · have : min (q * 20 + 20) N = q * 20 + 20 := by omega
            rw [this]; exact e6
        · exact (hq q (by omega)).same fun i a1 a2 a3 => e4 i (by omega)
    · have h1 : ¬ ((t * 20 + 20 : Nat) : Int) ≤ ((N : Nat) : Int) := by omega
      simp only [h1, decide_false, cond_false]
      exact ⟨d, f, t, rfl, hd, hv, by omega, ht, hq, hid⟩
theorem pass (hc : Cmp n T W S r N) (hN : N ≤ 900) (hn : 1000 < n) {B : Nat} (hB : 0 < B) (hBN : B < N) (k2 : Int × List Int → Option (List Int)) : ∀ (m t : Nat) (d : List Int) (f : Nat → Int), N - t * (2 * B) < m → t * (2 * B) ≤ N → Is N d f → Vld N f → (∀ q, q < t → BlkAt r N (2 * B) q f) → (∀ q, t * (2 * B) ≤ q * B → BlkAt r N B q f) →
    ∃ d' g t', loopN (slices_stableCmpFunc_int_L2 n (N : Int) T W S (B : Int) k2) m (((t * (2 * B) : Nat) : Int), ((t * (2 * B) + 2 * B : Nat) : Int), d) = k2 (((t' * (2 * B) : Nat) : Int), d') ∧ Is N d' g ∧ Vld N g ∧ N < t' * (2 * B) + 2 * B ∧ t' * (2 * B) ≤ N ∧ (∀ q, q < t' → BlkAt r N (2 * B) q g) ∧ ∀ q, t' * (2 * B) ≤ q * B → BlkAt r N B q g := by
  intro m
  induction m with
  | zero => intro t d f h; omega
  | succ m ih =>
    intro t d f hm ht hd hv hq hid
    obtain ⟨A, hA⟩ : ∃ A, A = t * (2 * B) := ⟨_, rfl⟩
    have a0 : (2 * t) * B = A := by rw [hA, Nat.mul_comm 2 t, Nat.mul_assoc]
    have a1 : (2 * t + 1) * B = A + B := by rw [Nat.succ_mul, a0]
    have a2 : (t + 1) * (2 * B) = A + 2 * B := by rw [Nat.succ_mul, hA]
    rw [← hA] at hm ht hid ⊢
    rw [loopN_s, slices_stableCmpFunc_int_L2]
    by_cases h : A + 2 * B ≤ N
    · have h1 : ((A + 2 * B : Nat) : Int) ≤ ((N : Nat) : Int) := by omega
      have c1 : ((A : Nat) : Int) + ((B : Nat) : Int) = ((A + B : Nat) : Int) := by omega
      have c2 : ((A + 2 * B : Nat) : Int) + 2 * ((B : Nat) : Int) = ((A + 2 * B + 2 * B : Nat) : Int) := by omega
      have b1 := hid (2 * t) (by omega)
      have b2 := hid (2 * t + 1) (by omega)
      unfold BlkAt at b1 b2
      rw [a0] at b1
      rw [a1] at b2
      have m1 : min (A + B) N = A + B := by omega
      have m2 : min (A + B + B) N = A + 2 * B := by omega
      rw [m1] at b1
      rw [m2] at b2
      obtain ⟨d', g, e1, e2, e3, e4, e5, e6⟩ := symMerge (n := n) hc (by omega) hn n A (A + B) (A + 2 * B) d f (by omega) (by omega) (by omega) h hd hv b1.2 b2.2 (fun i j x1 x2 x3 x4 => by
        have y1 := b1.1 i x1 x2 (by omega)
        have y2 := b2.1 j x3 (by omega) (by omega)
        omega)
      simp only [h1, decide_true, cond_true, c1, c2, inI_nat (j := A + B) (by omega), inI_nat (j := A + 2 * B + 2 * B) (by omega), chk_t]
      have e1' : slices_symMergeCmpFunc_int n d ((A : Nat) : Int) ((A + B : Nat) : Int) ((A + 2 * B : Nat) : Int) T W S = some d' := e1
      have c3 : inI (2 * ((B : Nat) : Int)) = true := inI_of (by omega) (by omega)
      simp only [e1', Option.bind_some, c3, chk_t]
      rw [chk_of (by rw [hd.1, e2.1]; simp)]
      have := ih (t + 1) d' g (by omega) (by omega) e2 e3 (fun q hqt => ?_) (fun q hq2 => (hid q (by omega)).same fun i x1 x2 x3 => e4 i (by omega))
      · rw [a2] at this
        exact this
      · by_cases e : q = t
        · subst e
          unfold BlkAt
          rw [← hA]
          refine ⟨fun i x1 x2 x3 => ?_, ?_⟩
          · obtain ⟨j, z1, z2, z3⟩ := e5 i x1 x2
            rw [z3]
            by_cases hj : j < A + B
            · have := b1.1 j z1 hj (by omega); omega
            · have := b2.1 j (by omega) (by omega) (by omega); omega
          · have : min (A + 2 * B) N = A + 2 * B := by omega
            rw [this]; exact e6
        · have hlt : q < t := by omega
          have hle : (q + 1) * (2 * B) ≤ t * (2 * B) := Nat.mul_le_mul_right _ (by omega)
          rw [Nat.succ_mul] at hle
          exact (hq q hlt).same fun i x1 x2 x3 => e4 i (by omega)
    · have h1 : ¬ ((A + 2 * B : Nat) : Int) ≤ ((N : Nat) : Int) := by omega
      simp only [h1, decide_false, cond_false]
      exact ⟨d, f, t, by rw [hA], hd, hv, by omega, by omega, hq, by rw [← hA]; exact hid⟩
theorem passes (hc : Cmp n T W S r N) (hN : N ≤ 900) (hn : 1000 < n) : ∀ (m B : Nat) (d : List Int) (f : Nat → Int), 0 < B → B ≤ 1800 → N - B < m → Is N d f → Vld N f → (∀ q, BlkAt r N B q f) →
    ∃ d' g, loopN (slices_stableCmpFunc_int_L3 n (N : Int) T W S) m ((B : Int), d) = some d' ∧ Is N d' g ∧ Vld N g ∧ Srt r g 0 N := by
  intro m
  induction m with
  | zero => intro B d f _ _ h; omega
  | succ m ih =>
    intro B d f hB hB2 hm hd hv hblk
    rw [loopN_s, slices_stableCmpFunc_int_L3]
    by_cases h : B < N
    · have h1 : ((B : Nat) : Int) < ((N : Nat) : Int) := by omega
      have c0 : 2 * ((B : Nat) : Int) = ((0 * (2 * B) + 2 * B : Nat) : Int) := by omega
      have c3 : inI (2 * ((B : Nat) : Int)) = true := inI_of (by omega) (by omega)
      simp only [h1, decide_true, cond_true, c3, chk_t, withK_eq]
      have z : (0 : Int) = ((0 * (2 * B) : Nat) : Int) := by simp
      rw [c0]
      have hp := pass (n := n) hc hN hn hB h (fun t => match t with
        | (v25, v26) => chk (inI (v25 + ((B : Nat) : Int))) <| bif decide ((v25 + ((B : Nat) : Int)) < ((N : Nat) : Int)) then (slices_symMergeCmpFunc_int n v26 v25 (v25 + ((B : Nat) : Int)) ((N : Nat) : Int) T W S).bind fun y27 => chk (decide (v26.length = y27.length)) <| chk (inI (((B : Nat) : Int) * 2)) <| loopN (slices_stableCmpFunc_int_L3 n (N : Int) T W S) m (((B : Nat) : Int) * 2, y27) else chk (inI (((B : Nat) : Int) * 2)) <| loopN (slices_stableCmpFunc_int_L3 n (N : Int) T W S) m (((B : Nat) : Int) * 2, v26)) n 0 d f (by omega) (by omega) hd hv (fun q hq => by omega) (fun q _ => hblk q)
      obtain ⟨d', g, t, e1, e2, e3, e4, e5, e6, e7⟩ := hp
      rw [← z] at e1
      rw [e1]
      obtain ⟨A, hA⟩ : ∃ A, A = t * (2 * B) := ⟨_, rfl⟩
      have a0 : (2 * t) * B = A := by rw [hA, Nat.mul_comm 2 t, Nat.mul_assoc]
      have a1 : (2 * t + 1) * B = A + B := by rw [Nat.succ_mul, a0]
      rw [← hA] at e4 e5 e7 ⊢
      have c1 : ((A : Nat) : Int) + ((B : Nat) : Int) = ((A + B : Nat) : Int) := by omega
      have c2 : ((B : Nat) : Int) * 2 = ((2 * B : Nat) : Int) := by omega
      simp only [c1, c2]
      rw [chk_of (inI_nat (by omega)), chk_of (inI_nat (by omega))]
      have b1 := e7 (2 * t) (by omega)
      have b2 := e7 (2 * t + 1) (by omega)
      unfold BlkAt at b1 b2
      rw [a0] at b1
      rw [a1] at b2
      have fin : ∀ (d2 : List Int) (g2 : Nat → Int), Is N d2 g2 → Vld N g2 → OutF g g2 A N → SubF g g2 A N → Srt r g2 A N → ∃ d' g, loopN (slices_stableCmpFunc_int_L3 n (N : Int) T W S) m (((2 * B : Nat) : Int), d2) = some d' ∧ Is N d' g ∧ Vld N g ∧ Srt r g 0 N := by
        intro d2 g2 w1 w2 w3 w4 w5
        refine ih (2 * B) d2 g2 (by omega) (by omega) (by omega) w1 w2 fun q => ?_
        rcases Nat.lt_trichotomy q t with hq | hq | hq
        · have hle : (q + 1) * (2 * B) ≤ t * (2 * B) := Nat.mul_le_mul_right _ (by omega)
          rw [Nat.succ_mul, ← hA] at hle
          exact (e6 q hq).same fun i x1 x2 x3 => w3 i (by omega)
        · subst hq
          unfold BlkAt
          rw [← hA]
          refine ⟨fun i x1 x2 x3 => ?_, ?_⟩
          · obtain ⟨j, z1, z2, z3⟩ := w4 i x1 x3
            rw [z3]
            by_cases hj : j < A + B
            · have := b1.1 j z1 hj z2; omega
            · have := b2.1 j (by omega) (by omega) z2; omega
          · have : min (A + 2 * B) N = N := by omega
            rw [this]; exact w5
        · have hle : (t + 1) * (2 * B) ≤ q * (2 * B) := Nat.mul_le_mul_right _ (by omega)
          rw [Nat.succ_mul, ← hA] at hle
          exact BlkAt.void (by omega)
      by_cases hh : A + B < N
      · have h2 : ((A + B : Nat) : Int) < ((N : Nat) : Int) := by omega
        have m1 : min (A + B) N = A + B := by omega
        have m2 : min (A + B + B) N = N := by omega
        rw [m1] at b1
        rw [m2] at b2
        obtain ⟨d2, g2, u1, u2, u3, u4, u5, u6⟩ := symMerge (n := n) hc (by omega) hn n A (A + B) N d' g (by omega) (by omega) hh (Nat.le_refl _) e2 e3 b1.2 b2.2 (fun i j x1 x2 x3 x4 => by
          have y1 := b1.1 i x1 x2 (by omega)
          have y2 := b2.1 j x3 (by omega) x4
          omega)
        have u1' : slices_symMergeCmpFunc_int n d' ((A : Nat) : Int) ((A + B : Nat) : Int) ((N : Nat) : Int) T W S = some d2 := u1
        simp only [h2, decide_true, cond_true, u1', Option.bind_some]
        rw [chk_of (by rw [e2.1, u2.1]; simp), chk_of (inI_nat (by omega))]
        exact fin d2 g2 u2 u3 u4 u5 u6
      · have h2 : ¬ ((A + B : Nat) : Int) < ((N : Nat) : Int) := by omega
        simp only [h2, decide_false, cond_false]
        refine fin d' g e2 e3 (fun _ _ => rfl) (fun i x1 x2 => ⟨i, x1, x2, rfl⟩) ?_
        have m1 : min (A + B) N = N := by omega
        rw [m1] at b1
        exact b1.2
    · have h1 : ¬ ((B : Nat) : Int) < ((N : Nat) : Int) := by omega
      simp only [h1, decide_false, cond_false]
      refine ⟨d, f, rfl, hd, hv, ?_⟩
      have := (hblk 0).2
      rw [Nat.zero_mul, Nat.zero_add, show min B N = N by omega] at this
      exact this
theorem stable (hc : Cmp n T W S r N) (hN : N ≤ 900) (hn : 1000 < n) {d : List Int} (hd : Is N d fun i => (i : Int)) : ∃ d' g, slices_SortStableFunc_int n d T W S = some d' ∧ Is N d' g ∧ Vld N g ∧ Srt r g 0 N := by
  have hl := hd.1
  rw [slices_SortStableFunc_int, slices_stableCmpFunc_int, withK_eq, hl]
  have hv : Vld N fun i => (i : Int) := fun i hi => ⟨by show (0 : Int) ≤ (i : Int); omega, by show (i : Int) < (N : Int); omega⟩
  have h0 := blocks20 (n := n) hc hN hn (fun t => match t with
      | (v6, v7) => (slices_insertionSortCmpFunc_int n v7 v6 ((N : Nat) : Int) T W S).bind fun y8 => chk (decide (v7.length = y8.length)) <| loopN (slices_stableCmpFunc_int_L3 n ((N : Nat) : Int) T W S) n (20, y8)) n 0 d (fun i => (i : Int)) (by omega) (by omega) hd hv (fun q hq => by omega) (fun i _ _ => rfl)
  obtain ⟨d1, f, t, e1, e2, e3, e4, e5, e6, e7⟩ := h0
  have z1 : ((0 * 20 : Nat) : Int) = 0 := by simp
  rw [z1] at e1
  have e1' : loopN (slices_stableCmpFunc_int_L1 n ((N : Nat) : Int) T W S (fun t => match t with
      | (v6, v7) => (slices_insertionSortCmpFunc_int n v7 v6 ((N : Nat) : Int) T W S).bind fun y8 => chk (decide (v7.length = y8.length)) <| loopN (slices_stableCmpFunc_int_L3 n ((N : Nat) : Int) T W S) n (20, y8))) n (0, 20, d) = _ := e1
  rw [e1']
  obtain ⟨d2, g, u1, u2, u3, u4, u5, u6⟩ := insertion (n := n) hc (by omega) hn e3 (a := t * 20) (b := N) (Nat.le_refl _) e5 (fun i j a1 a2 a3 => by rw [e7 i a1 (by omega), e7 j (by omega) a3]; omega) e2
  simp only [u1, Option.bind_some]
  rw [chk_of (by rw [e2.1, u2.1]; simp)]
  obtain ⟨d3, g3, w1, w2, w3, w4⟩ := passes (n := n) hc hN hn n 20 d2 g (by omega) (by omega) (by omega) u2 u3 (fun q => by
    rcases Nat.lt_trichotomy q t with hq | hq | hq
    · exact (e6 q hq).same fun i x1 x2 x3 => u4 i (by omega)
    · subst hq
      refine ⟨fun i x1 x2 x3 => ?_, ?_⟩
      · obtain ⟨j, y1, y2, y3⟩ := u5 i x1 x3
        rw [y3, e7 j y1 y2]
        omega
      · rw [show min (q * 20 + 20) N = N by omega]; exact u6
    · exact BlkAt.void (by omega))
  have w1' : loopN (slices_stableCmpFunc_int_L3 n ((N : Nat) : Int) T W S) n (20, d2) = some d3 := w1
  rw [w1']
  simp only [Option.bind_some]
  rw [chk_of (by rw [w2.1]; simp)]
  exact ⟨d3, g3, rfl, w2, w3, w4⟩
end
section
set_option maxRecDepth 4000
open Go
theorem nodup_len {α : Type} [DecidableEq α] : ∀ (l m : List α), l.Nodup → (∀ x ∈ l, x ∈ m) → l.length ≤ m.length
  | [], _, _, _ => Nat.zero_le _
  | a :: l, m, h, hs => by
    have ha : a ∈ m := hs a (by simp)
    have h2 := List.nodup_cons.1 h
    have := nodup_len l (m.erase a) h2.2 fun x hx => (List.mem_erase_of_ne (by rintro rfl; exact h2.1 hx)).2 (hs x (by simp [hx]))
    rw [List.length_erase_of_mem ha] at this
    have hm := List.length_pos_of_mem ha
    simp only [List.length_cons]; omega
theorem loop_inv {σ R : Type} {F : (σ → Option R) → σ → Option R} {P : Nat → σ → Prop} {len : Nat} (h1 : ∀ back v s, v < len → P v s → ∃ s', P (v + 1) s' ∧ F back s = back s') : ∀ n v s, v ≤ len → len - v < n → P v s → ∃ s' back, P len s' ∧ loopN F n s = F back s' := by
  intro n
  induction n with
  | zero => intro v s _ h; omega
  | succ n ih =>
    intro v s hv hn hp
    rw [loopN_s]
    by_cases h : v < len
    · obtain ⟨s', p, e⟩ := h1 (loopN F n) v s h hp
      rw [e]
      exact ih (v + 1) s' (by omega) (by omega) p
    · have : v = len := by omega
      subst this
      exact ⟨s, loopN F n, hp, rfl⟩
def sm (f : Nat → Int) : Nat → Int
  | 0 => 0
  | k + 1 => sm f k + f k
theorem sm_le {f : Nat → Int} {c : Int} : ∀ n, (∀ i, i < n → f i ≤ c) → sm f n ≤ n * c
  | 0, _ => by simp [sm]
  | k + 1, h => by
    have h1 := sm_le k fun i hi => h i (by omega)
    have h2 := h k (by omega)
    have e : ((k + 1 : Nat) : Int) * c = k * c + c := by rw [Int.natCast_add, Int.add_mul]; simp
    rw [e, sm]; omega
theorem sm_nn {f : Nat → Int} : ∀ n, (∀ i, i < n → 0 ≤ f i) → 0 ≤ sm f n
  | 0, _ => by simp [sm]
  | k + 1, h => by
    have h1 := sm_nn k fun i hi => h i (by omega)
    have h2 := h k (by omega)
    rw [sm]; omega
theorem sm_mono {f : Nat → Int} {a : Nat} : ∀ n, (∀ i, i < n → 0 ≤ f i) → a ≤ n → sm f a ≤ sm f n
  | 0, _, h => by have : a = 0 := by omega
                  subst this; exact Int.le_refl _
  | k + 1, h, ha => by
    by_cases e : a = k + 1
    · subst e; exact Int.le_refl _
    · have h1 := sm_mono k (fun i hi => h i (by omega)) (by omega : a ≤ k)
      have h2 := h k (by omega)
      rw [sm]; omega
theorem sm_mem {f : Nat → Int} {n i : Nat} (h : ∀ i, i < n → 0 ≤ f i) (hi : i < n) : f i ≤ sm f n := by
  have h1 := sm_mono n h (by omega : i + 1 ≤ n)
  have h2 := sm_nn i fun j hj => h j (by omega)
  rw [sm] at h1; omega
theorem sm_congr {f g : Nat → Int} : ∀ n, (∀ i, i < n → f i = g i) → sm f n = sm g n
  | 0, _ => rfl
  | k + 1, h => by rw [sm, sm, sm_congr k fun i hi => h i (by omega), h k (by omega)]
theorem sm_bump {f f' : Nat → Int} {j : Nat} : ∀ n, (∀ i, i < n → f' i = f i + if i = j then 1 else 0) → sm f' n = sm f n + if j < n then 1 else 0
  | 0, _ => by simp [sm]
  | k + 1, h => by
    have h1 := sm_bump k fun i hi => h i (by omega)
    have h2 := h k (by omega)
    rw [sm, sm, h1, h2]
    by_cases e : k = j
    · subst e; simp; omega
    · by_cases e2 : j < k
      · have : j < k + 1 := by omega
        simp [e, e2, this]; omega
      · have : ¬ j < k + 1 := by omega
        simp [e, e2, this]
theorem sm_div {w q m : Nat → Int} {T S : Int} : ∀ n, (∀ i, i < n → T * w i = S * q i + m i) → T * sm w n = S * sm q n + sm m n
  | 0, _ => by simp [sm]
  | k + 1, h => by
    have h1 := sm_div k fun i hi => h i (by omega)
    have h2 := h k (by omega)
    rw [sm, sm, sm, Int.mul_add, Int.mul_add, h1, h2]; omega
def topB (g : Nat → Int) (v i : Nat) : Bool := (List.range v).any fun p => g p == (i : Int)
theorem topB_iff {g : Nat → Int} {v i : Nat} : topB g v i = true ↔ ∃ p, p < v ∧ g p = (i : Int) := by
  unfold topB
  rw [List.any_eq_true]
  constructor
  · rintro ⟨p, h1, h2⟩; exact ⟨p, by simpa using h1, by simpa using h2⟩
  · rintro ⟨p, h1, h2⟩; exact ⟨p, by simpa using h1, by simpa using h2⟩
theorem topB_succ {g : Nat → Int} {v i : Nat} : topB g (v + 1) i = (topB g v i || (g v == (i : Int))) := by
  unfold topB
  rw [List.range_succ, List.any_append]; simp
def tI (g : Nat → Int) (v i : Nat) : Int := bif topB g v i then 1 else 0
theorem tI_zero {g : Nat → Int} {i : Nat} : tI g 0 i = 0 := rfl
theorem tI_01 (g : Nat → Int) (v i : Nat) : 0 ≤ tI g v i ∧ tI g v i ≤ 1 := by
  unfold tI; cases topB g v i <;> simp
section
variable {r : Int → Int} {g : Nat → Int} {N : Nat}
theorem srt_inj (hs : Srt r g 0 N) {p p' : Nat} (h : p < N) (h' : p' < N) (e : g p = g p') : p = p' := by
  rcases Nat.lt_trichotomy p p' with x | x | x
  · have := hs p p' (by omega) x h'
    rw [e] at this; exact this.irr.elim
  · exact x
  · have := hs p' p (by omega) x h
    rw [e] at this; exact this.irr.elim
theorem srt_onto (hs : Srt r g 0 N) (hv : Vld N g) {i : Nat} (hi : i < N) : ∃ p, p < N ∧ g p = (i : Int) := by
  by_cases hc : (i : Int) ∈ (List.range N).map g
  · rw [List.mem_map] at hc
    obtain ⟨p, h1, h2⟩ := hc
    exact ⟨p, by simpa using h1, h2⟩
  · exfalso
    have hn : ((List.range N).map g).Nodup := by
      rw [List.nodup_iff_pairwise_ne, List.pairwise_map]
      refine List.Pairwise.imp_of_mem ?_ List.nodup_range
      intro a b ha hb hab e
      exact hab (srt_inj hs (by simpa using ha) (by simpa using hb) e)
    have hn2 : ((i : Int) :: (List.range N).map g).Nodup := List.nodup_cons.2 ⟨hc, hn⟩
    have := nodup_len _ ((List.range N).map fun i : Nat => (i : Int)) hn2 (fun x hx => by
      rw [List.mem_map]
      rcases List.mem_cons.1 hx with e | e
      · exact ⟨i, by simpa using hi, e.symm⟩
      · rw [List.mem_map] at e
        obtain ⟨p, h1, h2⟩ := e
        have h3 := hv p (by simpa using h1)
        rw [h2] at h3
        exact ⟨x.toNat, by simp; omega, by omega⟩)
    simp at this
    omega
theorem top_new (hs : Srt r g 0 N) {v a : Nat} (hv : v < N) (e : g v = (a : Int)) : topB g v a = false := by
  cases h : topB g v a with
  | false => rfl
  | true =>
    obtain ⟨p, h1, h2⟩ := topB_iff.1 h
    have := srt_inj hs (by omega : p < N) hv (by rw [h2, e])
    omega
theorem tI_succ (hs : Srt r g 0 N) {v a i : Nat} (hv : v < N) (e : g v = (a : Int)) : tI g (v + 1) i = tI g v i + if i = a then 1 else 0 := by
  unfold tI
  rw [topB_succ, e]
  by_cases h : i = a
  · subst h; simp [top_new hs hv e]
  · have : ((a : Int) == (i : Int)) = false := by
      rw [beq_eq_false_iff_ne]; omega
    simp [this, h]
theorem pick (hs : Srt r g 0 N) (hg : Vld N g) {mm rest : Nat → Int} (hm : ∀ i, i < N → mm i = r (i : Int)) (h0 : ∀ i, i < N → 0 ≤ mm i) {k b : Nat} (hk : k < N) (hb : b < N) (hr : ∀ i, i < N → rest i = bif topB g k i then -1 else mm i) (hmax : ∀ i, i < N → rest i ≤ rest b) (hfst : ∀ i, i < b → rest i < rest b) : g k = (b : Int) := by
  have v1 := hg k hk
  obtain ⟨a, ha⟩ : ∃ a : Nat, g k = (a : Int) := ⟨(g k).toNat, by omega⟩
  have haN : a < N := by omega
  have ta := top_new hs hk ha
  have ra := hr a haN
  rw [ta] at ra
  have ra : rest a = mm a := ra
  have g0 := h0 a haN
  have mx := hmax a haN
  have rb := hr b hb
  cases tb : topB g k b with
  | true =>
    rw [tb] at rb
    have rb : rest b = -1 := rb
    omega
  | false =>
    rw [tb] at rb
    have rb : rest b = mm b := rb
    obtain ⟨p, hp, ep⟩ := srt_onto hs hg hb
    rcases Nat.lt_trichotomy p k with x | x | x
    · have : topB g k b = true := topB_iff.2 ⟨p, x, ep⟩
      rw [tb] at this; cases this
    · rw [← x]; exact ep
    · have := hs k p (by omega) x hp
      rw [ha, ep] at this
      have e1 := hm a haN
      have e2 := hm b hb
      rcases this with y | ⟨y, z⟩
      · omega
      · have := hfst a (by omega)
        omega
theorem fair (hs : Srt r g 0 N) (hg : Vld N g) {L i k : Nat} (hL : L ≤ N) (hi : i < k) (hk : k < N) (e : r (i : Int) = r (k : Int)) (h : topB g L k = true) : topB g L i = true := by
  obtain ⟨p, h1, h2⟩ := topB_iff.1 h
  obtain ⟨p', h3, h4⟩ := srt_onto hs hg (by omega : i < N)
  rcases Nat.lt_trichotomy p p' with x | x | x
  · have := hs p p' (by omega) x h3
    rw [h2, h4] at this
    unfold ltR at this
    omega
  · subst x; omega
  · exact topB_iff.2 ⟨p', by omega, h4⟩
theorem top_sum (hs : Srt r g 0 N) (hg : Vld N g) : ∀ v, v ≤ N → sm (tI g v) N = v
  | 0, _ => by
    rw [sm_congr (g := fun _ => 0) N fun i _ => tI_zero]
    have h1 := sm_le (f := fun _ => (0 : Int)) (c := 0) N (fun _ _ => Int.le_refl _)
    have h2 := sm_nn (f := fun _ => (0 : Int)) N (fun _ _ => Int.le_refl _)
    simp at h1 ⊢; omega
  | v + 1, h => by
    have v1 := hg v (by omega)
    obtain ⟨a, ha⟩ : ∃ a : Nat, g v = (a : Int) := ⟨(g v).toNat, by omega⟩
    rw [sm_bump (f := tI g v) (j := a) N fun i hi => tI_succ hs (by omega) ha, top_sum hs hg v (by omega)]
    have : a < N := by omega
    simp [this]
end
theorem Is.ext {N : Nat} {a b : List Int} {f : Nat → Int} (h1 : Is N a f) (h2 : Is N b f) : a = b := by
  refine List.ext_getElem (by rw [h1.1, h2.1]) fun i x y => ?_
  have e1 := h1.2 i (by rw [← h1.1]; exact x)
  have e2 := h2.2 i (by rw [← h1.1]; exact x)
  rw [ix_eq x] at e1
  rw [ix_eq y] at e2
  rw [e1, e2]
theorem Is.put {N : Nat} {d : List Int} {f f' : Nat → Int} {j : Nat} {x : Int} (h : Is N d f) (hj : j < N) (e1 : f' j = x) (e2 : ∀ i, i < N → i ≠ j → f' i = f i) : Is N (List.set d j x) f' := by
  refine ⟨by simp [h.1], fun i hi => ?_⟩
  rw [ix_set (by rw [h.1]; exact hj)]
  by_cases c : j = i
  · subst c; simp [e1]
  · rw [if_neg c, h.2 i hi, e2 i hi (fun z => c z.symm)]
theorem Is.snoc {N : Nat} {d : List Int} {f : Nat → Int} {x : Int} (h : Is N d f) (e : f N = x) : Is (N + 1) (d ++ [x]) f := by
  refine ⟨by simp [h.1], fun i hi => ?_⟩
  have hl := h.1
  by_cases c : i < N
  · rw [ix_eq (by simp; omega), List.getElem_append_left (by omega), ← ix_eq (by omega), h.2 i c]
  · have : i = N := by omega
    subst this
    rw [ix_eq (by simp; omega), List.getElem_append_right (by omega)]
    simp [e]
end
section
set_option maxRecDepth 4000
open Go
variable {n : Nat}
def okW (x : Int) : Bool := decide (0 ≤ x) && decide (x ≤ 1000000)
theorem bad_eq (W : List Int) (hl : W.length ≤ 60) (hn : 100 < n) : slices_ContainsFunc_int n W = some (W.any fun x => !okW x) := by
  rw [slices_ContainsFunc_int, slices_IndexFunc_int]
  simp only [withK_eq]
  rw [loop_findI (l := W) (p := fun x => !okW x) (fun back v hv => by
    simp only [slices_IndexFunc_int_L1, hv, decide_true, cond_true, restore_Split_f1, restore_within, Option.bind_some, okW]
    rw [nI_of (by omega)]; rfl) (fun back => by simp [slices_IndexFunc_int_L1]) n (by omega)]
  simp only [Option.bind_some, findI_any]
theorem max_loop (W : List Int) (hl : W.length ≤ 60) : ∀ n v m, v ≤ W.length → W.length - v < n → ∃ M, loopN (slices_Max_int_L1 W fun v3 => some v3) n (m, v) = some M ∧ m ≤ M ∧ (∀ i, v ≤ i → i < W.length → ix W i ≤ M) ∧ (M = m ∨ ∃ i, i < W.length ∧ M = ix W i) := by
  intro n
  induction n with
  | zero => intro v m _ h; omega
  | succ n ih =>
    intro v m hv hn
    rw [loopN_s, slices_Max_int_L1]
    by_cases h : v < W.length
    · obtain ⟨M, e, h1, h2, h3⟩ := ih (v + 1) (iMax m (ix W v)) (by omega) (by omega)
      simp only [h, decide_true, cond_true, nI_of (show v + 1 ≤ 9223372036854775807 by omega), chk_t]
      refine ⟨M, e, ?_, fun i a b => ?_, ?_⟩
      · unfold iMax at h1; split at h1 <;> omega
      · by_cases c : i = v
        · subst c; unfold iMax at h1; split at h1 <;> omega
        · exact h2 i (by omega) b
      · rcases h3 with h3 | h3
        · unfold iMax at h3
          split at h3
          · exact Or.inr ⟨v, h, h3⟩
          · exact Or.inl h3
        · exact Or.inr h3
    · simp only [h, decide_false, cond_false]
      exact ⟨m, rfl, Int.le_refl _, fun i a b => by omega, Or.inl rfl⟩
theorem max_eq (W : List Int) (hl : W.length ≤ 60) (h1 : 1 ≤ W.length) (h0 : ∀ i, i < W.length → 0 ≤ ix W i) (hn : 100 < n) : ∃ M, slices_Max_int n W = some M ∧ (M = 0 ↔ sm (ix W) W.length = 0) := by
  obtain ⟨M, e, a1, a2, a3⟩ := max_loop W hl n 1 (ix W 0) h1 (by omega)
  refine ⟨M, ?_, ?_⟩
  · rw [slices_Max_int]
    have c1 : ¬ W.length < 1 := by omega
    have c2 : 0 < W.length := by omega
    simp only [c1, c2, decide_true, decide_false, cond_false, withK_eq, chk_t]
    exact e
  · constructor
    · intro hM
      have u1 := sm_le (f := ix W) (c := 0) W.length fun i hi => by
        by_cases c : i = 0
        · subst c; omega
        · have := a2 i (by omega) hi; omega
      have u2 := sm_nn (f := ix W) W.length h0
      rw [Int.mul_zero] at u1; omega
    · intro hS
      have : ∀ i, i < W.length → ix W i = 0 := fun i hi => by
        have u1 := sm_mem (f := ix W) h0 hi
        have u2 := h0 i hi
        omega
      rcases a3 with c | ⟨i, hi, c⟩
      · rw [c]; exact this 0 (by omega)
      · rw [c]; exact this i hi
structure Sp (T : Int) (W : List Int) (S : Int) (N : Nat) : Prop where
  len : W.length = N
  n1 : 1 ≤ N
  n60 : N ≤ 60
  t0 : 0 ≤ T
  t1 : T ≤ 1000000000000
  w0 : ∀ i, i < N → 0 ≤ ix W i
  w1 : ∀ i, i < N → ix W i ≤ 1000000
  s : S = sm (ix W) N
  pos : 0 < S
def qf (T : Int) (W : List Int) (S : Int) (i : Nat) : Int := Int.tdiv (T * ix W i) S
def mf (T : Int) (W : List Int) (S : Int) (i : Nat) : Int := Int.tmod (T * ix W i) S
def rf (T : Int) (W : List Int) (S : Int) (x : Int) : Int := Int.tmod (T * ix W x.toNat) S
variable {T S : Int} {W : List Int} {N : Nat}
theorem Sp.prod (h : Sp T W S N) {i : Nat} (hi : i < N) : 0 ≤ T * ix W i ∧ T * ix W i ≤ 1000000000000000000 := by
  have a := h.w0 i hi
  have b := h.w1 i hi
  refine ⟨Int.mul_nonneg h.t0 a, ?_⟩
  have := Int.mul_le_mul h.t1 b a (by decide)
  exact this
theorem Sp.s1 (h : Sp T W S N) : S ≤ 60000000 := by
  have := sm_le (f := ix W) (c := 1000000) N h.w1
  rw [← h.s] at this
  have := h.n60
  omega
theorem Sp.q0 (h : Sp T W S N) {i : Nat} (hi : i < N) : 0 ≤ qf T W S i ∧ qf T W S i ≤ 1000000000000 := by
  have p := h.prod hi
  have hp := h.pos
  unfold qf
  rw [Int.tdiv_eq_ediv_of_nonneg p.1]
  refine ⟨Int.ediv_nonneg p.1 (by omega), ?_⟩
  have w := sm_mem (f := ix W) h.w0 hi
  rw [← h.s] at w
  have := Int.mul_le_mul_of_nonneg_left w h.t0
  exact Int.le_trans (Int.ediv_le_of_le_mul hp this) h.t1
theorem Sp.m0 (h : Sp T W S N) {i : Nat} (hi : i < N) : 0 ≤ mf T W S i ∧ mf T W S i ≤ S - 1 := by
  have p := h.prod hi
  have hp := h.pos
  unfold mf
  rw [Int.tmod_eq_emod_of_nonneg p.1]
  have := Int.emod_lt_of_pos (T * ix W i) hp
  exact ⟨Int.emod_nonneg _ (by omega), by omega⟩
theorem Sp.qm (h : Sp T W S N) {i : Nat} (hi : i < N) : T * ix W i = S * qf T W S i + mf T W S i := by
  unfold qf mf
  have := Int.mul_tdiv_add_tmod (T * ix W i) S
  exact this.symm
theorem Sp.sums (h : Sp T W S N) {v : Nat} (hv : v ≤ N) : 0 ≤ sm (qf T W S) v ∧ sm (qf T W S) v ≤ 60000000000000 := by
  refine ⟨sm_nn v fun i hi => (h.q0 (by omega)).1, ?_⟩
  have := sm_le (f := qf T W S) (c := 1000000000000) v fun i hi => (h.q0 (by omega)).2
  have := h.n60
  omega
theorem Sp.left (h : Sp T W S N) : ∃ L : Nat, L < N ∧ T - sm (qf T W S) N = (L : Int) := by
  have e := sm_div (w := ix W) (q := qf T W S) (m := mf T W S) (T := T) (S := S) N fun i hi => h.qm hi
  have a1 := sm_nn (f := mf T W S) N fun i hi => (h.m0 hi).1
  have a2 := sm_le (f := mf T W S) (c := S - 1) N fun i hi => (h.m0 hi).2
  have hp := h.pos
  have hn := h.n1
  rw [← h.s] at e
  obtain ⟨L, hL⟩ : ∃ L, L = T - sm (qf T W S) N := ⟨_, rfl⟩
  have hT : T = L + sm (qf T W S) N := by omega
  have e2 : L * S = sm (mf T W S) N := by
    have t : T * S = (L + sm (qf T W S) N) * S := congrArg (· * S) hT
    rw [Int.add_mul, Int.mul_comm (sm (qf T W S) N) S] at t
    omega
  have b1 : 0 ≤ L := by
    by_cases c : 0 ≤ L
    · exact c
    · have : L * S < 0 := Int.mul_neg_of_neg_of_pos (by omega) hp
      omega
  have b2 : L < N := by
    refine Int.lt_of_mul_lt_mul_right (a := S) ?_ (by omega)
    rw [e2]
    have : (N : Int) * (S - 1) = N * S - N := by rw [Int.mul_sub, Int.mul_one]
    omega
  exact ⟨L.toNat, by omega, by omega⟩
theorem Sp.cmp (h : Sp T W S N) : Cmp n T W S (rf T W S) N := by
  intro x y x0 x1 y0 y1
  have hl := h.len
  have hp := h.pos
  have px := h.prod (i := x.toNat) (by omega)
  have py := h.prod (i := y.toNat) (by omega)
  have s0 : ¬ S = 0 := by omega
  rw [restore_Split_f2, cmp_Compare_int]
  simp only [inB_of (q := y) (n := W.length) y0 (by omega), inB_of (q := x) (n := W.length) x0 (by omega), show y.toNat < W.length by omega, show x.toNat < W.length by omega, decide_true, chk_t, bne_t s0, inI_of (n := T * ix W x.toNat) (by omega) (by omega), inI_of (n := T * ix W y.toNat) (by omega) (by omega), cmp_isNaN_int, Option.bind_some, bne_self_eq_false, cond_false]
  rw [cv, rf, rf]
  cases decide (Int.tmod (T * ix W y.toNat) S < Int.tmod (T * ix W x.toNat) S)
  · cases decide (Int.tmod (T * ix W x.toNat) S < Int.tmod (T * ix W y.toNat) S) <;> rfl
  · rfl
theorem Sp.rm (h : Sp T W S N) (i : Nat) : mf T W S i = rf T W S (i : Int) := by
  unfold mf rf; simp
def outF (T : Int) (W : List Int) (S : Int) (g : Nat → Int) (L i : Nat) : Int := qf T W S i + tI g L i
theorem outF_succ {g : Nat → Int} (hs : Srt (rf T W S) g 0 N) {v a i : Nat} (hv : v < N) (e : g v = (a : Int)) : outF T W S g (v + 1) i = outF T W S g v i + if i = a then 1 else 0 := by
  unfold outF
  rw [tI_succ hs hv e]; omega
theorem Sp.outb (h : Sp T W S N) (g : Nat → Int) (v : Nat) {i : Nat} (hi : i < N) : 0 ≤ outF T W S g v i ∧ outF T W S g v i ≤ 1000000000001 := by
  have a := h.q0 hi
  have b := tI_01 g v i
  unfold outF; omega
theorem prog_eq (h : Sp T W S N) (hbad : (W.any fun x => !okW x) = false) (hn : 1000 < n) : ∃ g out L, restore_Split n T W = some (0, out) ∧ Is N out (outF T W S g L) ∧ Vld N g ∧ Srt (rf T W S) g 0 N ∧ L < N ∧ T - sm (qf T W S) N = (L : Int) := by
  have hl := h.len
  have n1 := h.n1
  have n60 := h.n60
  have t0 := h.t0
  have t1 := h.t1
  have hp := h.pos
  obtain ⟨M, e1, e2⟩ := max_eq (n := n) W (by omega) (by omega) (by rw [hl]; exact h.w0) (by omega)
  have hM : (M == (0 : Int)) = false := by
    rw [beq_eq_false_iff_ne]
    intro c
    have := e2.1 c
    rw [hl, ← h.s] at this; omega
  have c1 : ¬ W.length = 0 := by omega
  have c2 : ¬ 60 < W.length := by omega
  rw [restore_Split, bad_eq W (by omega) (by omega), hbad]
  simp only [restore_within, Option.bind_some, t0, t1, decide_true, Bool.and_self, Bool.not_true, cond_false, c1, c2, decide_false, e1, hM, withK_eq]
  have l1 : ∀ kk, loopN (restore_Split_L1 W kk) n (0, 0) = kk S := fun kk => by
    refine loop_fold' (st := fun v => sm (ix W) v) (len := W.length) (fun back v hv => ?_) (fun back => ?_) n (by omega) rfl
    · have a1 := sm_nn (f := ix W) (v + 1) fun i hi => h.w0 i (by omega)
      have a2 := sm_le (f := ix W) (c := 1000000) (v + 1) fun i hi => h.w1 i (by omega)
      rw [sm] at a1 a2
      simp only [restore_Split_L1, hv, decide_true, cond_true, sm]
      rw [chk_of (inI_of (by omega) (by omega)), chk_of (nI_of (by omega))]
    · simp only [restore_Split_L1, Nat.lt_irrefl, decide_false, cond_false]
      rw [hl, ← h.s]
  rw [l1, chk_of (by simp [mkroom]; omega)]
  have l2 : ∀ kk, ∃ ord out, Is N ord (fun i => (i : Int)) ∧ Is N out (qf T W S) ∧ loopN (restore_Split_L2 T W S kk) n (T, 0, List.replicate W.length (0 : Int), List.replicate W.length (0 : Int)) = kk (T - sm (qf T W S) N, ord, out) := fun kk => by
    obtain ⟨s', back, ⟨ord, out, e, o1, o2, o3, o4⟩, e'⟩ := loop_inv (F := restore_Split_L2 T W S kk) (len := N) (P := fun v s => ∃ ord out, s = (T - sm (qf T W S) v, v, ord, out) ∧ ord.length = N ∧ out.length = N ∧ (∀ i, i < v → ix ord i = (i : Int)) ∧ (∀ i, i < v → ix out i = qf T W S i)) (fun back v s hv hP => by
      obtain ⟨ord, out, e, o1, o2, o3, o4⟩ := hP
      subst e
      have p := h.prod hv
      have q := h.q0 hv
      have s1 := h.sums (by omega : v ≤ N)
      have es : ix (List.set out v (Int.tdiv (T * ix W v) S)) v = qf T W S v := by rw [ix_set (by omega), if_pos rfl]; rfl
      refine ⟨(T - sm (qf T W S) (v + 1), v + 1, List.set ord v ((v : Nat) : Int), List.set out v (Int.tdiv (T * ix W v) S)), ⟨_, _, rfl, by simp [o1], by simp [o2], fun i hi => ?_, fun i hi => ?_⟩, ?_⟩
      · rw [ix_set (by omega)]
        by_cases c : v = i
        · simp [c]
        · rw [if_neg c]; exact o3 i (by omega)
      · rw [ix_set (by omega)]
        by_cases c : v = i
        · subst c; simp [qf]
        · rw [if_neg c]; exact o4 i (by omega)
      · simp only [restore_Split_L2, show v < W.length by omega, decide_true, cond_true, es]
        have qq : Int.tdiv (T * ix W v) S = qf T W S v := rfl
        rw [chk_of (inI_of (by omega) (by omega)), chk_of (by rw [bne_t (by omega), qq, inI_of (by omega) (by omega)]; rfl), chk_of (by simp; omega), chk_of (by simp; omega), chk_of (by simp; omega), chk_of (inI_of (by omega) (by omega)), chk_of (nI_of (by omega)), show T - sm (qf T W S) v - qf T W S v = T - sm (qf T W S) (v + 1) by rw [sm]; omega]) n 0 (T, 0, List.replicate W.length (0 : Int), List.replicate W.length (0 : Int)) (by omega) (by omega) ⟨List.replicate W.length (0 : Int), List.replicate W.length (0 : Int), by simp [sm], by simp [hl], by simp [hl], fun i hi => by omega, fun i hi => by omega⟩
    subst e
    refine ⟨ord, out, ⟨o1, o3⟩, ⟨o2, o4⟩, ?_⟩
    rw [e']
    simp [restore_Split_L2, hl]
  obtain ⟨L, hL, eL⟩ := h.left
  obtain ⟨ord, out, i1, i2, e3⟩ : ∃ ord out, Is N ord (fun i => (i : Int)) ∧ Is N out (qf T W S) ∧ ∀ kk, loopN (restore_Split_L2 T W S kk) n (T, 0, List.replicate W.length (0 : Int), List.replicate W.length (0 : Int)) = kk (T - sm (qf T W S) N, ord, out) := by
    obtain ⟨ord, out, i1, i2, _⟩ := l2 fun _ => none
    refine ⟨ord, out, i1, i2, fun kk => ?_⟩
    obtain ⟨ord', out', j1, j2, e⟩ := l2 kk
    rw [e, j1.ext i1, j2.ext i2]
  rw [e3]
  obtain ⟨d, g, w1, w2, w3, w4⟩ := stable (n := n) h.cmp (by omega) hn i1
  have wl := w2.1
  have ol := i1.1
  simp only [w1, Option.bind_some, eL]
  rw [chk_of (by simp [ol, wl]), chk_of (inC_of (by omega) (by omega))]
  obtain ⟨s', back, ⟨out', e, o⟩, e'⟩ := loop_inv (F := restore_Split_L3 (L : Int) d fun v17 => some (0, v17)) (len := L) (P := fun v s => ∃ out, s = (v, out) ∧ Is N out (outF T W S g v)) (fun back v s hv hP => by
    obtain ⟨out, e, o⟩ := hP
    subst e
    have v1 := w3 v (by omega)
    obtain ⟨a, ha⟩ : ∃ a : Nat, g v = (a : Int) := ⟨(g v).toNat, by omega⟩
    have ol := o.1
    have xa : ix d v = (a : Int) := by rw [w2.2 v (by omega), ha]
    have oa := o.2 a (by omega)
    have ob := h.outb g v (i := a) (by omega)
    refine ⟨(v + 1, List.set out a (ix out a + 1)), ⟨_, rfl, o.put (by omega) ?_ fun i hi hne => ?_⟩, ?_⟩
    · rw [outF_succ w4 (by omega) ha, oa]; simp
    · rw [outF_succ w4 (by omega) ha]; simp [hne]
    · simp only [restore_Split_L3, xa, Int.toNat_natCast, hv, decide_true, cond_true]
      rw [chk_of (by simp; omega), chk_of (inB_nat (by omega)), chk_of (by simp; omega), chk_of (inI_of (by omega) (by omega)), chk_of (nI_of (by omega))]) n 0 (0, out) (by omega) (by omega) ⟨_, rfl, i2.congr fun i hi => by rw [outF, tI_zero]; omega⟩
  subst e
  refine ⟨g, out', L, ?_, o, w3, w4, hL, rfl⟩
  rw [e']
  simp [restore_Split_L3]
end
section
set_option maxRecDepth 4000
open Go
variable {n : Nat} {T S : Int} {W : List Int} {N : Nat}
theorem argmax {R : Type} {rest : List Int} (h1 : 1 ≤ rest.length) (hl : rest.length ≤ 60) (hn : 100 < n) : ∃ b, b < rest.length ∧ (∀ i, i < rest.length → ix rest i ≤ ix rest b) ∧ (∀ i, i < b → ix rest i < ix rest b) ∧ ∀ kk, loopN (agrafferef08_Split_L3 rest kk) n (0, 1) = kk ((b : Nat) : Int) := by
  have main : ∀ kk, ∃ b, b < rest.length ∧ (∀ i, i < rest.length → ix rest i ≤ ix rest b) ∧ (∀ i, i < b → ix rest i < ix rest b) ∧ loopN (agrafferef08_Split_L3 rest kk) n (0, 1) = kk ((b : Nat) : Int) := fun kk => by
    obtain ⟨s', back, ⟨b, e, b1, b2, b3⟩, e'⟩ := loop_inv (F := agrafferef08_Split_L3 rest kk) (len := rest.length) (P := fun v s => ∃ b : Nat, s = ((b : Int), v) ∧ b < rest.length ∧ (∀ i, i < v → ix rest i ≤ ix rest b) ∧ (∀ i, i < b → ix rest i < ix rest b)) (fun back v s hv hP => by
      obtain ⟨b, e, b1, b2, b3⟩ := hP
      subst e
      simp only [agrafferef08_Split_L3, hv, decide_true, cond_true, withK_eq, Int.toNat_natCast]
      rw [chk_of (inB_nat (by omega)), chk_of (by simp; omega)]
      by_cases c : ix rest b < ix rest v
      · refine ⟨((v : Int), v + 1), ⟨v, rfl, hv, fun i hi => ?_, fun i hi => ?_⟩, ?_⟩
        · by_cases z : i = v
          · subst z; exact Int.le_refl _
          · have := b2 i (by omega); omega
        · have := b2 i hi; omega
        · simp only [c, decide_true, cond_true]
          rw [chk_of (nI_of (by omega))]
      · refine ⟨((b : Int), v + 1), ⟨b, rfl, b1, fun i hi => ?_, b3⟩, ?_⟩
        · by_cases z : i = v
          · subst z; omega
          · exact b2 i (by omega)
        · simp only [c, decide_false, cond_false]
          rw [chk_of (nI_of (by omega))]) n 1 ((0 : Int), 1) (by omega) (by omega) ⟨0, by simp, by omega, fun i hi => by
            have : i = 0 := by omega
            subst this; exact Int.le_refl _, fun i hi => by omega⟩
    subst e
    refine ⟨b, b1, b2, b3, ?_⟩
    rw [e']
    simp [agrafferef08_Split_L3]
  obtain ⟨b, b1, b2, b3, _⟩ := main fun _ => none
  refine ⟨b, b1, b2, b3, fun kk => ?_⟩
  obtain ⟨b', c1, c2, c3, e⟩ := main kk
  have : b' = b := by
    have x1 := b2 b' c1
    have x2 := c2 b b1
    rcases Nat.lt_trichotomy b b' with x | x | x
    · have := c3 b x; omega
    · exact x.symm
    · have := b3 b' x; omega
  rw [e, this]
theorem first_eq (hl : W.length ≤ 60) (hn : 100 < n) (hbad : (W.any fun x => !okW x) = false) (kk : Int → Option (Int × List Int)) : loopN (agrafferef08_Split_L1 n W kk) n (0, 0) = kk (sm (ix W) W.length) := by
  have hk : ∀ i, i < W.length → okW (ix W i) = true := fun i hi => by
    have := List.any_eq_false.1 hbad (ix W i) (ix_mem hi)
    simpa using this
  have hb : ∀ i, i < W.length → 0 ≤ ix W i ∧ ix W i ≤ 1000000 := fun i hi => by
    have := hk i hi
    simpa [okW] using this
  refine loop_fold (st := fun v => sm (ix W) v) (len := W.length) (fun back v hv => ?_) (fun back => ?_) n (by omega) rfl
  · have a1 := sm_nn (f := ix W) (v + 1) fun i hi => (hb i (by omega)).1
    have a2 := sm_le (f := ix W) (c := 1000000) (v + 1) fun i hi => (hb i (by omega)).2
    have a3 := hb v hv
    rw [sm] at a1 a2
    simp only [agrafferef08_Split_L1, agraffebase_Within, Option.bind_some, hv, decide_true, cond_true, sm, a3.1, a3.2, Bool.and_self, Bool.not_true, cond_false]
    rw [chk_of (inI_of (by omega) (by omega)), chk_of (nI_of (by omega))]
  · simp only [agrafferef08_Split_L1, Nat.lt_irrefl, decide_false, cond_false]
theorem first_bad (hl : W.length ≤ 60) (hn : 100 < n) (hbad : (W.any fun x => !okW x) = true) (kk : Int → Option (Int × List Int)) : loopN (agrafferef08_Split_L1 n W kk) n (0, 0) = some (2, []) := by
  obtain ⟨b, hbm, hb⟩ := List.any_eq_true.1 hbad
  obtain ⟨j, hj, ej⟩ := List.getElem_of_mem hbm
  have eb : okW (ix W j) = false := by rw [ix_eq hj, ej]; simpa using hb
  have go : ∀ m v s, v ≤ j → W.length - v < m → 0 ≤ s → s ≤ (v : Int) * 1000000 → loopN (agrafferef08_Split_L1 n W kk) m (s, v) = some (2, []) := by
    intro m
    induction m with
    | zero => intro v s _ h; omega
    | succ m ih =>
      intro v s hv hm h0 h1
      rw [loopN_s]
      simp only [agrafferef08_Split_L1, agraffebase_Within, Option.bind_some, show v < W.length by omega, decide_true, cond_true]
      rw [show (decide (0 ≤ ix W v) && decide (ix W v ≤ 1000000)) = okW (ix W v) from rfl]
      cases c : okW (ix W v) with
      | false => rfl
      | true =>
        have vj : v ≠ j := by rintro rfl; rw [eb] at c; cases c
        have c2 : 0 ≤ ix W v ∧ ix W v ≤ 1000000 := by simpa [okW] using c
        simp only [Bool.not_true, cond_false]
        rw [chk_of (inI_of (by omega) (by omega)), chk_of (nI_of (by omega))]
        exact ih (v + 1) (s + ix W v) (by omega) (by omega) (by omega) (by omega)
  exact go n 0 0 (by omega) (by omega) (Int.le_refl _) (by simp)
theorem Floor_eq {a b : Int} (h0 : 0 ≤ a) (h1 : a ≤ 1000000000000000000) (hb : 0 < b) : agraffebase_Floor n a b = some (Int.tdiv a b) := by
  have e := Int.tdiv_eq_ediv_of_nonneg h0 (b := b)
  have q0 : 0 ≤ Int.tdiv a b := by rw [e]; exact Int.ediv_nonneg h0 (by omega)
  have q1 : Int.tdiv a b ≤ a := by rw [e]; exact Int.ediv_le_self b h0
  have m0 : ¬ Int.tmod a b < 0 := by
    rw [Int.tmod_eq_emod_of_nonneg h0]
    have := Int.emod_nonneg a (b := b) (by omega)
    omega
  have hz : ¬ b = 0 := by omega
  rw [agraffebase_Floor, chk_of (by rw [bne_t hz, inI_of (by omega) (by omega)]; rfl)]
  simp only [withK_eq, bne_t hz, chk_t, m0, decide_false, cond_false]
theorem ref_eq (h : Sp T W S N) (hbad : (W.any fun x => !okW x) = false) (hn : 1000 < n) {g : Nat → Int} {L : Nat} (hv : Vld N g) (hs : Srt (rf T W S) g 0 N) (hL : L < N) (eL : T - sm (qf T W S) N = (L : Int)) : ∃ out, agrafferef08_Split n T W = some (0, out) ∧ Is N out (outF T W S g L) := by
  have hl := h.len
  have n1 := h.n1
  have n60 := h.n60
  have t0 := h.t0
  have t1 := h.t1
  have hp := h.pos
  have s1 := h.s1
  have c1 : ¬ W.length = 0 := by omega
  have c2 : ¬ 60 < W.length := by omega
  have hS : (S == (0 : Int)) = false := by
    rw [beq_eq_false_iff_ne]; omega
  rw [agrafferef08_Split]
  simp only [agraffebase_Within, Option.bind_some, t0, t1, decide_true, Bool.and_self, Bool.not_true, cond_false, c1, c2, decide_false, withK_eq, first_eq (n := n) (W := W) (by omega) (by omega) hbad, hl, ← h.s, hS]
  have l2 : ∀ kk, ∃ rest out, Is N rest (mf T W S) ∧ Is N out (qf T W S) ∧ loopN (agrafferef08_Split_L2 n T W S kk) n (([] : List Int), ([] : List Int), T, 0) = kk (T - sm (qf T W S) N, rest, out) := fun kk => by
    obtain ⟨s', back, ⟨out, rest, e, o1, o2⟩, e'⟩ := loop_inv (F := agrafferef08_Split_L2 n T W S kk) (len := N) (P := fun v s => ∃ out rest, s = (out, rest, T - sm (qf T W S) v, v) ∧ Is v out (qf T W S) ∧ Is v rest (mf T W S)) (fun back v s hv hP => by
      obtain ⟨out, rest, e, o1, o2⟩ := hP
      subst e
      have p := h.prod hv
      have q := h.q0 hv
      have mm := h.m0 hv
      have qm := h.qm hv
      have s1 := h.sums (by omega : v ≤ N)
      have a1 := o1.1
      have a2 := o2.1
      have f1 := o1.snoc (x := Int.tdiv (T * ix W v) S) rfl
      have f2 := o2.snoc (x := mf T W S v) rfl
      have es : ix (out ++ [Int.tdiv (T * ix W v) S]) v = qf T W S v := f1.2 v (by omega)
      have er : (T * ix W v) - (qf T W S v * S) = mf T W S v := by rw [Int.mul_comm (qf T W S v) S]; omega
      have eq : 0 ≤ qf T W S v * S ∧ qf T W S v * S ≤ 1000000000000000000 := by
        have := Int.mul_nonneg q.1 (by omega : 0 ≤ S)
        rw [Int.mul_comm (qf T W S v) S] at this ⊢; omega
      refine ⟨(out ++ [Int.tdiv (T * ix W v) S], rest ++ [mf T W S v], T - sm (qf T W S) (v + 1), v + 1), ⟨_, _, rfl, f1, f2⟩, ?_⟩
      simp only [agrafferef08_Split_L2, show v < W.length by omega, decide_true, cond_true, Floor_eq p.1 p.2 hp, Option.bind_some, es, er]
      rw [chk_of (inI_of (by omega) (by omega)), chk_of (room_of (by simp; omega) (by simp; omega)), chk_of (by simp; omega), chk_of (by simp; omega), chk_of (inI_of (by omega) (by omega)), chk_of (inI_of (by omega) (by omega)), chk_of (room_of (by simp; omega) (by simp; omega)), chk_of (inI_of (by omega) (by omega)), chk_of (nI_of (by omega)), show T - sm (qf T W S) v - qf T W S v = T - sm (qf T W S) (v + 1) by rw [sm]; omega]) n 0 (([] : List Int), ([] : List Int), T, 0) (by omega) (by omega) ⟨[], [], by simp [sm], ⟨rfl, fun i hi => by omega⟩, ⟨rfl, fun i hi => by omega⟩⟩
    subst e
    refine ⟨rest, out, o2, o1, ?_⟩
    rw [e']
    simp [agrafferef08_Split_L2, hl]
  obtain ⟨rest, out, i1, i2, e3⟩ : ∃ rest out, Is N rest (mf T W S) ∧ Is N out (qf T W S) ∧ ∀ kk, loopN (agrafferef08_Split_L2 n T W S kk) n (([] : List Int), ([] : List Int), T, 0) = kk (T - sm (qf T W S) N, rest, out) := by
    obtain ⟨rest, out, i1, i2, _⟩ := l2 fun _ => none
    refine ⟨rest, out, i1, i2, fun kk => ?_⟩
    obtain ⟨rest', out', j1, j2, e⟩ := l2 kk
    rw [e, j1.ext i1, j2.ext i2]
  rw [e3]
  simp only [eL]
  obtain ⟨s', back, ⟨rest', out', e, o, o'⟩, e'⟩ := loop_inv (F := agrafferef08_Split_L4 n fun v29 => some (0, v29)) (len := L) (P := fun v s => ∃ rest out, s = ((L : Int) - (v : Int), rest, out) ∧ Is N rest (fun i => bif topB g v i then -1 else mf T W S i) ∧ Is N out (outF T W S g v)) (fun back v s hvL hP => by
    obtain ⟨rest, out, e, r, o⟩ := hP
    subst e
    have rl := r.1
    have ol := o.1
    obtain ⟨b, b1, b2, b3, b4⟩ := argmax (n := n) (R := Int × List Int) (rest := rest) (by omega) (by omega) (by omega)
    have ha : g v = (b : Int) := pick hs hv (mm := mf T W S) (rest := fun i => ix rest i) (fun i _ => h.rm i) (fun i hi => (h.m0 hi).1) (by omega) (by omega) (fun i hi => r.2 i hi) (fun i hi => b2 i (by omega)) b3
    have oa := o.2 b (by omega)
    have ob := h.outb g v (i := b) (by omega)
    refine ⟨((L : Int) - (v : Int) - 1, List.set rest b (-1), List.set out b (ix out b + 1)), ⟨_, _, by rw [show ((L : Int) - (v : Int) - 1) = (L : Int) - ((v + 1 : Nat) : Int) by omega], r.put (by omega) ?_ fun i hi hne => ?_, o.put (by omega) ?_ fun i hi hne => ?_⟩, ?_⟩
    · show (bif topB g (v + 1) b then (-1 : Int) else mf T W S b) = -1
      rw [topB_succ, ha]; simp
    · show (bif topB g (v + 1) i then (-1 : Int) else mf T W S i) = bif topB g v i then (-1 : Int) else mf T W S i
      have : ((b : Int) == (i : Int)) = false := by rw [beq_eq_false_iff_ne]; omega
      rw [topB_succ, ha, this, Bool.or_false]
    · rw [outF_succ hs (by omega) ha, oa]; simp
    · rw [outF_succ hs (by omega) ha]; simp [hne]
    · simp only [agrafferef08_Split_L4, show (0 : Int) < (L : Int) - (v : Int) by omega, decide_true, cond_true, withK_eq, b4, Int.toNat_natCast]
      rw [chk_of (inB_nat (by omega)), chk_of (by simp; omega), chk_of (inI_of (by omega) (by omega)), chk_of (inB_nat (by omega)), chk_of (by simp; omega), chk_of (inI_of (by omega) (by omega))]) n 0 ((L : Int), rest, out) (by omega) (by omega) ⟨_, _, by simp, i1.congr fun i hi => rfl, i2.congr fun i hi => by rw [outF, tI_zero]; omega⟩
  subst e
  refine ⟨out', ?_, o'⟩
  rw [e']
  simp [agrafferef08_Split_L4, show ¬ N = 0 by omega, show ¬ 60 < N by omega]
theorem Ints_eq {l : List Int} (hl : l.length ≤ 1000) (hn : 1000 < n) : agraffebase_Ints n l l = some true := by
  rw [agraffebase_Ints]
  simp only [decide_true, Bool.not_true, cond_false, withK_eq]
  refine loop_through (st := fun v => v) (len := l.length) (fun back v hv => ?_) (fun back => ?_) n (by omega)
  · simp only [agraffebase_Ints_L1, hv, decide_true, cond_true, chk_t, bne_self_eq_false, cond_false]
    rw [chk_of (nI_of (by omega))]
  · simp only [agraffebase_Ints_L1, Nat.lt_irrefl, decide_false, cond_false]
theorem law_loops (h : Sp T W S N) (hn : 1000 < n) {g : Nat → Int} {L : Nat} {out : List Int} (hv : Vld N g) (hs : Srt (rf T W S) g 0 N) (hL : L < N) (eL : T - sm (qf T W S) N = (L : Int)) (o : Is N out (outF T W S g L)) : loopN (agraffelaw08_RestoreSplits_L2 n W (0, out) fun v11 => some (v11 == T)) n (0, 0) = some true := by
  have ol := o.1
  have hl := h.len
  have n60 := h.n60
  refine loop_fold (st := fun v => sm (outF T W S g L) v) (len := out.length) (fun back v hvo => ?_) (fun back => ?_) n (by omega) rfl
  · have a0 := sm_nn (f := outF T W S g L) v fun i hi => (h.outb g L (by omega)).1
    have a1 := sm_le (f := outF T W S g L) (c := 1000000000001) v fun i hi => (h.outb g L (by omega)).2
    have b := h.outb g L (i := v) (by omega)
    simp only [agraffelaw08_RestoreSplits_L2, hvo, decide_true, cond_true, withK_eq, o.2 v (by omega)]
    rw [chk_of (inI_of (by omega) (by omega))]
    refine loop_through (st := fun i => i) (len := v) (fun back2 i hi => ?_) (fun back2 => ?_) n (by omega)
    · have b2 := h.outb g L (i := i) (by omega)
      simp only [agraffelaw08_RestoreSplits_L1, hi, decide_true, cond_true, chk_t, show i < W.length by omega, show v < W.length by omega, show i < out.length by omega, Bool.or_true, o.2 v (by omega), o.2 i (by omega), agraffebase_Within, gcall_some_, Option.bind_some, inI_of (n := outF T W S g L i - outF T W S g L v) (by omega) (by omega)]
      cases c : (ix W i == ix W v) with
      | false => simp only [Bool.false_and, cond_false]; rw [chk_of (nI_of (by omega))]
      | true =>
        have c : ix W i = ix W v := eq_of_beq c
        have cq : qf T W S i = qf T W S v := by unfold qf; rw [c]
        have cr : rf T W S (i : Int) = rf T W S (v : Int) := by unfold rf; simp [c]
        have ft := fair hs hv (L := L) (by omega) hi (by omega) cr
        have : 0 ≤ outF T W S g L i - outF T W S g L v ∧ outF T W S g L i - outF T W S g L v ≤ 1 := by
          unfold outF tI
          rw [cq]
          cases x : topB g L v
          · cases topB g L i <;> simp only [cond_true, cond_false] <;> omega
          · rw [ft x]; simp only [cond_true]; omega
        simp only [this.1, this.2, decide_true, Bool.and_self, Bool.not_true, Bool.and_false, cond_false]
        rw [chk_of (nI_of (by omega))]
    · simp only [agraffelaw08_RestoreSplits_L1, Nat.lt_irrefl, decide_false, cond_false]
      rw [chk_of (nI_of (by omega)), sm]
  · simp only [agraffelaw08_RestoreSplits_L2, Nat.lt_irrefl, decide_false, cond_false]
    have : sm (outF T W S g L) N = T := by
      have e1 : ∀ k, sm (outF T W S g L) k = sm (qf T W S) k + sm (tI g L) k := by
        intro k
        induction k with
        | zero => rfl
        | succ k ih => rw [sm, sm, sm, ih, outF]; omega
      rw [e1, top_sum hs hv L (by omega)]; omega
    rw [ol, this]; simp
theorem pure_RestoreSplits (a0 : Int) (a1 : List Int) : agraffelaw08_RestoreSplits 2000 a0 a1 = some true := by
  rw [agraffelaw08_RestoreSplits]
  by_cases h65 : 65 < a1.length
  · simp [agraffelaw08_awake, h65]
  simp only [agraffelaw08_awake, Option.bind_some, Bool.not_true, cond_false, h65, decide_false, agraffebase_CopyInts, room_of (b := 8) (n := a1.length) (by omega) (by omega), chk_t]
  have err : ∀ e : Int, e ≠ 0 → restore_Split 2000 a0 a1 = some (e, []) → agrafferef08_Split 2000 a0 a1 = some (e, []) → ((restore_Split 2000 a0 a1).bind fun y3 =>
      (agrafferef08_Split 2000 a0 a1).bind fun y4 =>
      (gcall (!(y3.1 != y4.1)) (agraffebase_Ints 2000 y3.2 y4.2)).bind fun y5 =>
      bif (y3.1 != y4.1) || (!y5) then
        some false
      else
        bif (y4.1 != (0 : Int)) then
          some true
        else
          loopN (agraffelaw08_RestoreSplits_L2 2000 a1 y3 fun v11 => some (v11 == a0)) 2000 (0, 0)) = some true := fun e he h1 h2 => by
    rw [h1, h2]
    have : (e != 0) = true := bne_t he
    simp [Ints_eq (n := 2000) (l := []) (by simp) (by omega), gcall, this]
  simp only [withK_eq]
  by_cases ht0 : ¬ 0 ≤ a0
  · exact err 2 (by decide) (by simp [restore_Split, restore_within, ht0]) (by simp [agrafferef08_Split, agraffebase_Within, ht0])
  replace ht0 : 0 ≤ a0 := Decidable.not_not.1 ht0
  by_cases ht1 : ¬ a0 ≤ 1000000000000
  · exact err 2 (by decide) (by simp [restore_Split, restore_within, ht1]) (by simp [agrafferef08_Split, agraffebase_Within, ht1])
  replace ht1 : a0 ≤ 1000000000000 := Decidable.not_not.1 ht1
  by_cases hz : a1.length = 0
  · exact err 10 (by decide) (by simp only [restore_Split, restore_within, Option.bind_some, ht0, ht1, hz, decide_true, Bool.and_self, Bool.not_true, cond_false, cond_true]) (by simp only [agrafferef08_Split, agraffebase_Within, Option.bind_some, ht0, ht1, hz, decide_true, Bool.and_self, Bool.not_true, cond_false, cond_true])
  by_cases h60 : 60 < a1.length
  · exact err 8 (by decide) (by simp only [restore_Split, restore_within, Option.bind_some, ht0, ht1, hz, h60, decide_true, decide_false, Bool.and_self, Bool.not_true, cond_false, cond_true]) (by simp only [agrafferef08_Split, agraffebase_Within, Option.bind_some, ht0, ht1, hz, h60, decide_true, decide_false, Bool.and_self, Bool.not_true, cond_false, cond_true])
  cases hbad : a1.any fun x => !okW x with
  | true =>
    exact err 2 (by decide) (by
      rw [restore_Split, bad_eq a1 (by omega) (by omega), hbad]
      simp only [restore_within, Option.bind_some, ht0, ht1, hz, h60, decide_true, decide_false, Bool.and_self, Bool.not_true, cond_false, cond_true]) (by
      rw [agrafferef08_Split]
      simp only [agraffebase_Within, Option.bind_some, ht0, ht1, hz, h60, decide_true, decide_false, Bool.and_self, Bool.not_true, cond_false, cond_true, withK_eq, first_bad (n := 2000) (W := a1) (by omega) (by omega) hbad])
  | false =>
    have hb : ∀ i, i < a1.length → 0 ≤ ix a1 i ∧ ix a1 i ≤ 1000000 := fun i hi => by
      have := List.any_eq_false.1 hbad (ix a1 i) (ix_mem hi)
      simpa [okW] using this
    by_cases hS : sm (ix a1) a1.length = 0
    · exact err 11 (by decide) (by
        obtain ⟨M, e1, e2⟩ := max_eq (n := 2000) a1 (by omega) (by omega) (fun i hi => (hb i hi).1) (by omega)
        rw [restore_Split, bad_eq a1 (by omega) (by omega), hbad]
        simp only [restore_within, Option.bind_some, ht0, ht1, hz, h60, decide_true, decide_false, Bool.and_self, Bool.not_true, cond_false, cond_true, e1, e2.2 hS, BEq.rfl]) (by
        rw [agrafferef08_Split]
        simp only [agraffebase_Within, Option.bind_some, ht0, ht1, hz, h60, decide_true, decide_false, Bool.and_self, Bool.not_true, cond_false, cond_true, withK_eq, first_eq (n := 2000) (W := a1) (by omega) (by omega) hbad, hS, BEq.rfl])
    · have hp := sm_nn (f := ix a1) a1.length fun i hi => (hb i hi).1
      have h : Sp a0 a1 (sm (ix a1) a1.length) a1.length := ⟨rfl, by omega, by omega, ht0, ht1, fun i hi => (hb i hi).1, fun i hi => (hb i hi).2, rfl, by omega⟩
      obtain ⟨g, out, L, e1, o1, hv, hs, hL, eL⟩ := prog_eq (n := 2000) h hbad (by omega)
      obtain ⟨out', e2, o2⟩ := ref_eq (n := 2000) h hbad (by omega) hv hs hL eL
      have := o2.ext o1
      subst this
      have ol := o1.1
      simp only [e1, e2, Option.bind_some, bne_self_eq_false, Bool.not_false, gcall, cond_true, Ints_eq (n := 2000) (l := out') (by omega) (by omega), Bool.false_or, Bool.not_true, cond_false]
      exact law_loops h (by omega) hv hs hL eL o1
end
end Go.Proofs.Ytcdcpambkdlhjaa.As
