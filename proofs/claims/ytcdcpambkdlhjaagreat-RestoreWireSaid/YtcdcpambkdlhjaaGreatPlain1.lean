/- What the functions compute, on plain data, and what follows from it, part 1: no condition. -/
import Derived.Test.YtcdcpambkdlhjaaGreatGround2
namespace Go.Proofs.YtcdcpambkdlhjaaGreat.As
open Go
section
set_option maxRecDepth 4000
open Go
structure Coil where
  Name : Str
  Gauge : Int
  Length : Int
  deriving Inhabited, DecidableEq
def eCoil (x : Coil) : V := .agg [vt x.Name, vi x.Gauge, vi x.Length]
theorem eCoil_frz (x : Coil) : (eCoil x).frz = true := rfl
theorem eCoil_frzE (x : Coil) : frzE (eCoil x) = true := rfl
structure WirePiece where
  Gauge : Int
  Length : Int
  Count : Int
  deriving Inhabited, DecidableEq
def eWirePiece (x : WirePiece) : V := .agg [vi x.Gauge, vi x.Length, vi x.Count]
theorem eWirePiece_frz (x : WirePiece) : (eWirePiece x).frz = true := rfl
theorem eWirePiece_frzE (x : WirePiece) : frzE (eWirePiece x) = true := rfl
structure PartCount where
  Part : Str
  Count : Int
  deriving Inhabited, DecidableEq
def ePartCount (x : PartCount) : V := .agg [vt x.Part, vi x.Count]
theorem ePartCount_frz (x : PartCount) : (ePartCount x).frz = true := rfl
theorem ePartCount_frzE (x : PartCount) : frzE (ePartCount x) = true := rfl
structure Task where
  Name : Str
  Cents : Int
  Hours : Int
  Needs : List Str
  OneOf : List (List Str)
  Parts : List PartCount
  deriving Inhabited, DecidableEq
def eTask (x : Task) : V := .agg [vt x.Name, vi x.Cents, vi x.Hours, eS 1 vt x.Needs, eS 1 (eS 1 vt) x.OneOf, eS 2 ePartCount x.Parts]
theorem eTask_frz (x : Task) : (eTask x).frz = true := rfl
theorem eTask_frzE (x : Task) : frzE (eTask x) = true := rfl
structure Stocked where
  Part : Str
  Cents : Int
  Count : Int
  deriving Inhabited, DecidableEq
def eStocked (x : Stocked) : V := .agg [vt x.Part, vi x.Cents, vi x.Count]
theorem eStocked_frz (x : Stocked) : (eStocked x).frz = true := rfl
theorem eStocked_frzE (x : Stocked) : frzE (eStocked x) = true := rfl
def agraffelaw08_Works (n : Nat)  : Option Unit :=
  some ()
def agraffelaw08_Shelf (n : Nat)  : Option Unit :=
  some ()
def restore_isName_L1 (a0 : Str) (k1 : (Unit → Option Bool)) (back : Nat → Option Bool) : Nat → Option Bool
  | v1 =>
  bif decide (v1 < a0.length) then
    bif (!(((decide ((97 : Int) ≤ (((ix a0 v1).toNat : Nat) : Int))) && (decide ((((ix a0 v1).toNat : Nat) : Int) ≤ (122 : Int)))) || ((decide ((65 : Int) ≤ (((ix a0 v1).toNat : Nat) : Int))) && (decide ((((ix a0 v1).toNat : Nat) : Int) ≤ (90 : Int)))))) && ((decide (v1 = 0)) || (((((ix a0 v1).toNat : Nat) : Int) != (45 : Int)) && ((decide ((((ix a0 v1).toNat : Nat) : Int) < (48 : Int))) || (decide ((57 : Int) < (((ix a0 v1).toNat : Nat) : Int)))))) then
      some false
    else
      chk (nI (v1 + 1)) <|
      back (v1 + 1)
  else
    k1 ()
def restore_isName (n : Nat) (a0 : Str) : Option Bool :=
  withK (fun (_ : Unit) =>
      some ((!(a0 == ([] : Str))) && (decide (a0.length ≤ 12)))) fun k1 =>
  loopN (restore_isName_L1 a0 k1) n 0
def restore_list_find_f1 (n : Nat) (a0 : Task) (a1 : Str) : Option Unit :=
  some ()
def slices_IndexFunc_Task_L1 (n : Nat) (a0 : List Task) (a1 : Str) (k1 : (Unit → Option Int)) (back : Nat → Option Int) : Nat → Option Int
  | v2 =>
  bif decide (v2 < a0.length) then
    (restore_list_find_f1 n (ix a0 v2) a1).bind fun y3 =>
    bif ((ix a0 v2).Name == a1) then
      some ((v2 : Nat) : Int)
    else
      chk (nI (v2 + 1)) <|
      back (v2 + 1)
  else
    k1 ()
def slices_IndexFunc_Task (n : Nat) (a0 : List Task) (a1 : Str) : Option Int :=
  withK (fun (_ : Unit) =>
      some (-1)) fun k1 =>
  loopN (slices_IndexFunc_Task_L1 n a0 a1 k1) n 0
def restore_list_find (n : Nat) (a0 : List Task) (a1 : Str) : Option Int :=
  (slices_IndexFunc_Task n a0 a1).bind fun y1 =>
  some y1
def restore_within (n : Nat) (a0 : Int) (a1 : Int) (a2 : Int) : Option Unit :=
  some ()
def restore_list_checkTask_f1 (n : Nat) (a0 : List Str) : Option Unit :=
  some ()
def slices_IndexFunc_string_L1 (n : Nat) (a0 : List (List Str)) (k1 : (Unit → Option Int)) (back : Nat → Option Int) : Nat → Option Int
  | v2 =>
  bif decide (v2 < a0.length) then
    (restore_list_checkTask_f1 n (ix a0 v2)).bind fun y3 =>
    bif decide (6 < (ix a0 v2).length) then
      some ((v2 : Nat) : Int)
    else
      chk (nI (v2 + 1)) <|
      back (v2 + 1)
  else
    k1 ()
def slices_IndexFunc_string (n : Nat) (a0 : List (List Str)) : Option Int :=
  withK (fun (_ : Unit) =>
      some (-1)) fun k1 =>
  loopN (slices_IndexFunc_string_L1 n a0 k1) n 0
def slices_ContainsFunc_string (n : Nat) (a0 : List (List Str)) : Option Bool :=
  (slices_IndexFunc_string n a0).bind fun y1 =>
  some (decide ((0 : Int) ≤ y1))
def slices_Index_string_L1 (a0 : List Str) (a1 : Str) (k1 : (Unit → Option Int)) (back : Nat → Option Int) : Nat → Option Int
  | v1 =>
  bif decide (v1 < a0.length) then
    bif (a1 == (ix a0 v1)) then
      some ((v1 : Nat) : Int)
    else
      chk (nI (v1 + 1)) <|
      back (v1 + 1)
  else
    k1 ()
def slices_Index_string (n : Nat) (a0 : List Str) (a1 : Str) : Option Int :=
  withK (fun (_ : Unit) =>
      some (-1)) fun k1 =>
  loopN (slices_Index_string_L1 a0 a1 k1) n 0
def slices_Contains_string (n : Nat) (a0 : List Str) (a1 : Str) : Option Bool :=
  (slices_Index_string n a0 a1).bind fun y1 =>
  some (decide ((0 : Int) ≤ y1))
def restore_list_known_L1 (n : Nat) (a0 : List Task) (a1 : List Str) (k1 : (Unit → Option Int)) (back : Nat → Option Int) : Nat → Option Int
  | v3 =>
  bif decide (v3 < a1.length) then
    (restore_list_find n a0 (ix a1 v3)).bind fun y4 =>
    bif decide (y4 < (0 : Int)) then
      some 6
    else
      chk (decide (v3 ≤ a1.length)) <|
      (slices_Contains_string n (List.take v3 a1) (ix a1 v3)).bind fun y5 =>
      bif y5 then
        some 5
      else
        chk (nI (v3 + 1)) <|
        back (v3 + 1)
  else
    k1 ()
def restore_list_known (n : Nat) (a0 : List Task) (a1 : List Str) : Option Int :=
  withK (fun (_ : Unit) =>
      some 0) fun k1 =>
  loopN (restore_list_known_L1 n a0 a1 k1) n 0
def restore_checkCounts_f1 (n : Nat) (a0 : PartCount) (a1 : Str) (a2 : Int) : Option Unit :=
  some ()
def slices_IndexFunc_PartCount_L1 (n : Nat) (a0 : List PartCount) (a1 : Str) (a2 : Int) (k1 : (Unit → Option Int)) (back : Nat → Option Int) : Nat → Option Int
  | v2 =>
  bif decide (v2 < a0.length) then
    (restore_checkCounts_f1 n (ix a0 v2) a1 a2).bind fun y3 =>
    bif ((ix a0 v2).Part == a1) then
      some ((v2 : Nat) : Int)
    else
      chk (nI (v2 + 1)) <|
      back (v2 + 1)
  else
    k1 ()
def slices_IndexFunc_PartCount (n : Nat) (a0 : List PartCount) (a1 : Str) (a2 : Int) : Option Int :=
  withK (fun (_ : Unit) =>
      some (-1)) fun k1 =>
  loopN (slices_IndexFunc_PartCount_L1 n a0 a1 a2 k1) n 0
def slices_ContainsFunc_PartCount (n : Nat) (a0 : List PartCount) (a1 : Str) (a2 : Int) : Option Bool :=
  (slices_IndexFunc_PartCount n a0 a1 a2).bind fun y1 =>
  some (decide ((0 : Int) ≤ y1))
def restore_checkCounts_L1 (n : Nat) (a0 : List PartCount) (a1 : Int) (k1 : (Unit → Option Int)) (back : Nat → Option Int) : Nat → Option Int
  | v4 =>
  bif decide (v4 < a0.length) then
    (restore_isName n ((ix a0 v4).Part)).bind fun y5 =>
    bif !y5 then
      some 4
    else
      chk (decide (v4 ≤ a0.length)) <|
      (slices_ContainsFunc_PartCount n (List.take v4 a0) ((ix a0 v4).Part) ((ix a0 v4).Count)).bind fun y6 =>
      bif y6 then
        some 5
      else
        (restore_within n ((ix a0 v4).Count) 1 a1).bind fun y7 =>
        bif !((decide (1 ≤ ((ix a0 v4).Count))) && (decide (((ix a0 v4).Count) ≤ a1))) then
          some 2
        else
          chk (nI (v4 + 1)) <|
          back (v4 + 1)
  else
    k1 ()
def restore_checkCounts (n : Nat) (a0 : List PartCount) (a1 : Int) : Option Int :=
  withK (fun (_ : Unit) =>
      some 0) fun k1 =>
  loopN (restore_checkCounts_L1 n a0 a1 k1) n 0
def restore_list_checkTask_L1 (n : Nat) (a0 : List Task) (a1 : Int) (k1 : (Unit → Option Int)) (back : Nat → Option Int) : Nat → Option Int
  | v8 =>
  bif decide (v8 < (((ix a0 a1.toNat).OneOf).length)) then
    chk (decide (v8 < ((ix a0 a1.toNat).OneOf).length)) <|
    bif decide (((ix ((ix a0 a1.toNat).OneOf) v8).length) = 0) then
      some 10
    else
      (restore_list_known n a0 (ix ((ix a0 a1.toNat).OneOf) v8)).bind fun y9 =>
      bif (y9 != (0 : Int)) then
        some y9
      else
        chk (nI (v8 + 1)) <|
        back (v8 + 1)
  else
    k1 ()
def restore_list_checkTask (n : Nat) (a0 : List Task) (a1 : Int) : Option Int :=
  chk (inB a1 a0.length) <|
  chk (decide (a1.toNat < a0.length)) <|
  (restore_isName n ((ix a0 a1.toNat).Name)).bind fun y1 =>
  bif !y1 then
    some 4
  else
    (restore_list_find n a0 ((ix a0 a1.toNat).Name)).bind fun y2 =>
    bif decide (y2 < a1) then
      some 5
    else
      (restore_within n ((ix a0 a1.toNat).Cents) 0 1000000000).bind fun y3 =>
      (gcall (!(!((decide (0 ≤ ((ix a0 a1.toNat).Cents))) && (decide (((ix a0 a1.toNat).Cents) ≤ 1000000000))))) (restore_within n ((ix a0 a1.toNat).Hours) 0 10000)).bind fun y4 =>
      bif (!((decide (0 ≤ ((ix a0 a1.toNat).Cents))) && (decide (((ix a0 a1.toNat).Cents) ≤ 1000000000)))) || (!((decide (0 ≤ ((ix a0 a1.toNat).Hours))) && (decide (((ix a0 a1.toNat).Hours) ≤ 10000)))) then
        some 2
      else
        (gcall (!((decide (10 < (((ix a0 a1.toNat).Needs).length))) || (decide (6 < (((ix a0 a1.toNat).OneOf).length))))) (slices_ContainsFunc_string n ((ix a0 a1.toNat).OneOf))).bind fun y5 =>
        bif (((decide (10 < (((ix a0 a1.toNat).Needs).length))) || (decide (6 < (((ix a0 a1.toNat).OneOf).length)))) || y5) || (decide (10 < (((ix a0 a1.toNat).Parts).length))) then
          some 8
        else
          (restore_list_known n a0 ((ix a0 a1.toNat).Needs)).bind fun y6 =>
          bif (y6 != (0 : Int)) then
            some y6
          else
            withK (fun (_ : Unit) =>
                (restore_checkCounts n ((ix a0 a1.toNat).Parts) 1000).bind fun y10 =>
                some y10) fun k1 =>
            loopN (restore_list_checkTask_L1 n a0 a1 k1) n 0
def restore_CheckTasks_f1 (n : Nat) (a0 : Str) : Option Unit :=
  some ()
def restore_list_order_f1 (n : Nat) (a0 : Str) : Option Bool :=
  (restore_CheckTasks_f1 n a0).bind fun y1 =>
  (gcall true (slices_Contains_string n ([] : List Str) a0)).bind fun y2 =>
  some (true && (!y2))
def slices_Grow_string (n : Nat) (a0 : Int) : Option (List Str) :=
  bif decide (a0 < (0 : Int)) then
    none
  else
    withK (fun (v1 : (List Str)) =>
        some v1) fun k1 =>
    chk (inI (0 - 0)) <|
    chk (inI (a0 - (0 - 0))) <|
    bif decide ((0 : Int) < (a0 - (0 - 0))) then
      chk (decide (0 ≤ (a0 - (0 - 0)))) <|
      chk (decide (0 < (a0 - (0 - 0)).toNat)) <|
      chk (room 16 ((a0 - (0 - 0)).toNat)) <|
      chk (decide (0 ≤ ((a0 - (0 - 0)).toNat))) <|
      k1 ([] : List Str)
    else
      k1 ([] : List Str)
def slices_Concat_string_L2 (a0 : List (List Str)) (k2 : ((List Str) → Option (List Str))) (back : Nat × (List Str) → Option (List Str)) : Nat × (List Str) → Option (List Str)
  | (v5, v6) =>
  bif decide (v5 < a0.length) then
    chk (room 16 (v6 ++ (ix a0 v5)).length) <|
    chk (nI (v5 + 1)) <|
    back (v5 + 1, (v6 ++ (ix a0 v5)))
  else
    k2 v6
def slices_Concat_string_L1 (a0 : List (List Str)) (k1 : (Nat → Option (List Str))) (back : Nat × Nat → Option (List Str)) : Nat × Nat → Option (List Str)
  | (v1, v2) =>
  bif decide (v2 < a0.length) then
    chk (nI (v1 + ((ix a0 v2).length))) <|
    bif decide ((v1 + ((ix a0 v2).length)) < 0) then
      none
    else
      chk (nI (v2 + 1)) <|
      back (v1 + ((ix a0 v2).length), v2 + 1)
  else
    k1 v1
def slices_Concat_string (n : Nat) (a0 : List (List Str)) : Option (List Str) :=
  withK (fun (v3 : Nat) =>
      (slices_Grow_string n ((v3 : Nat) : Int)).bind fun y4 =>
      withK (fun (v7 : (List Str)) =>
          some v7) fun k2 =>
      loopN (slices_Concat_string_L2 a0 k2) n (0, y4)) fun k1 =>
  loopN (slices_Concat_string_L1 a0 k1) n (0, 0)
def restore_leads (n : Nat) (a0 : Task) : Option (List Str) :=
  chk (room 24 (([a0.Needs] : List (List Str)) ++ a0.OneOf).length) <|
  (slices_Concat_string n (([a0.Needs] : List (List Str)) ++ a0.OneOf)).bind fun y1 =>
  some y1
def slices_IndexFunc_string_2_L1 (n : Nat) (a0 : List Str) (k1 : (Unit → Option Int)) (back : Nat → Option Int) : Nat → Option Int
  | v2 =>
  bif decide (v2 < a0.length) then
    (restore_list_order_f1 n (ix a0 v2)).bind fun y3 =>
    bif y3 then
      some ((v2 : Nat) : Int)
    else
      chk (nI (v2 + 1)) <|
      back (v2 + 1)
  else
    k1 ()
def slices_IndexFunc_string_2 (n : Nat) (a0 : List Str) : Option Int :=
  withK (fun (_ : Unit) =>
      some (-1)) fun k1 =>
  loopN (slices_IndexFunc_string_2_L1 n a0 k1) n 0
def slices_ContainsFunc_string_2 (n : Nat) (a0 : List Str) : Option Bool :=
  (slices_IndexFunc_string_2 n a0).bind fun y1 =>
  some (decide ((0 : Int) ≤ y1))
def restore_list_order_f2 (n : Nat) (a0 : Task) : Option Bool :=
  (restore_list_order_f1 n a0.Name).bind fun y1 =>
  (gcall y1 (restore_leads n a0)).bind fun y2 =>
  (gcall y1 (slices_ContainsFunc_string_2 n y2)).bind fun y3 =>
  some (y1 && (!y3))
def slices_IndexFunc_Task_2_L1 (n : Nat) (a0 : List Task) (k1 : (Unit → Option Int)) (back : Nat → Option Int) : Nat → Option Int
  | v2 =>
  bif decide (v2 < a0.length) then
    (restore_list_order_f2 n (ix a0 v2)).bind fun y3 =>
    bif y3 then
      some ((v2 : Nat) : Int)
    else
      chk (nI (v2 + 1)) <|
      back (v2 + 1)
  else
    k1 ()
def slices_IndexFunc_Task_2 (n : Nat) (a0 : List Task) : Option Int :=
  withK (fun (_ : Unit) =>
      some (-1)) fun k1 =>
  loopN (slices_IndexFunc_Task_2_L1 n a0 k1) n 0
def slices_Index_string_2_L1 (a0 : List Str) (a1 : Str) (k1 : (Unit → Option Int)) (back : Nat → Option Int) : Nat → Option Int
  | v1 =>
  bif decide (v1 < a0.length) then
    bif (a1 == (ix a0 v1)) then
      some ((v1 : Nat) : Int)
    else
      chk (nI (v1 + 1)) <|
      back (v1 + 1)
  else
    k1 ()
def slices_Index_string_2 (n : Nat) (a0 : List Str) (a1 : Str) : Option Int :=
  withK (fun (_ : Unit) =>
      some (-1)) fun k1 =>
  loopN (slices_Index_string_2_L1 a0 a1 k1) n 0
def slices_Contains_string_2 (n : Nat) (a0 : List Str) (a1 : Str) : Option Bool :=
  (slices_Index_string_2 n a0 a1).bind fun y1 =>
  some (decide ((0 : Int) ≤ y1))
def restore_list_order_f1_2 (n : Nat) (a0 : Str) (a1 : List Str) : Option Bool :=
  (restore_CheckTasks_f1 n a0).bind fun y1 =>
  (gcall true (slices_Contains_string_2 n a1 a0)).bind fun y2 =>
  some (true && (!y2))
def slices_IndexFunc_string_3_L1 (n : Nat) (a0 : List Str) (a1 : List Str) (k1 : (Unit → Option Int)) (back : Nat → Option Int) : Nat → Option Int
  | v2 =>
  bif decide (v2 < a0.length) then
    (restore_list_order_f1_2 n (ix a0 v2) a1).bind fun y3 =>
    bif y3 then
      some ((v2 : Nat) : Int)
    else
      chk (nI (v2 + 1)) <|
      back (v2 + 1)
  else
    k1 ()
def slices_IndexFunc_string_3 (n : Nat) (a0 : List Str) (a1 : List Str) : Option Int :=
  withK (fun (_ : Unit) =>
      some (-1)) fun k1 =>
  loopN (slices_IndexFunc_string_3_L1 n a0 a1 k1) n 0
def slices_ContainsFunc_string_3 (n : Nat) (a0 : List Str) (a1 : List Str) : Option Bool :=
  (slices_IndexFunc_string_3 n a0 a1).bind fun y1 =>
  some (decide ((0 : Int) ≤ y1))
def restore_list_order_f2_2 (n : Nat) (a0 : Task) (a1 : List Str) : Option Bool :=
  (restore_list_order_f1_2 n a0.Name a1).bind fun y1 =>
  (gcall y1 (restore_leads n a0)).bind fun y2 =>
  (gcall y1 (slices_ContainsFunc_string_3 n y2 a1)).bind fun y3 =>
  some (y1 && (!y3))
def slices_IndexFunc_Task_3_L1 (n : Nat) (a0 : List Task) (a1 : List Str) (k1 : (Unit → Option Int)) (back : Nat → Option Int) : Nat → Option Int
  | v2 =>
  bif decide (v2 < a0.length) then
    (restore_list_order_f2_2 n (ix a0 v2) a1).bind fun y3 =>
    bif y3 then
      some ((v2 : Nat) : Int)
    else
      chk (nI (v2 + 1)) <|
      back (v2 + 1)
  else
    k1 ()
def slices_IndexFunc_Task_3 (n : Nat) (a0 : List Task) (a1 : List Str) : Option Int :=
  withK (fun (_ : Unit) =>
      some (-1)) fun k1 =>
  loopN (slices_IndexFunc_Task_3_L1 n a0 a1 k1) n 0
def restore_list_order_L1 (n : Nat) (a0 : List Task) (back : (List Str) → Option (List Str)) : (List Str) → Option (List Str)
  | v2 =>
  (slices_IndexFunc_Task_3 n a0 v2).bind fun y3 =>
  bif decide (y3 < (0 : Int)) then
    some v2
  else
    chk (inB y3 a0.length) <|
    chk (decide (y3.toNat < a0.length)) <|
    chk (room 16 (v2 ++ ([(ix a0 y3.toNat).Name] : List Str)).length) <|
    back (v2 ++ ([(ix a0 y3.toNat).Name] : List Str))
def restore_list_order (n : Nat) (a0 : List Task) : Option (List Str) :=
  loopN (restore_list_order_L1 n a0) n ([] : List Str)
def restore_CheckTasks_L1 (n : Nat) (a0 : List Task) (k1 : (Unit → Option Int)) (back : Nat → Option Int) : Nat → Option Int
  | v2 =>
  bif decide (v2 < a0.length) then
    (restore_list_checkTask n a0 ((v2 : Nat) : Int)).bind fun y3 =>
    bif (y3 != (0 : Int)) then
      some y3
    else
      chk (nI (v2 + 1)) <|
      back (v2 + 1)
  else
    k1 ()
def restore_CheckTasks (n : Nat) (a0 : List Task) : Option Int :=
  bif decide (60 < a0.length) then
    some 8
  else
    withK (fun (_ : Unit) =>
        (restore_list_order n a0).bind fun y4 =>
        bif decide (y4.length < a0.length) then
          some 21
        else
          some 0) fun k1 =>
    loopN (restore_CheckTasks_L1 n a0 k1) n 0
def restore_stocked_f1 (n : Nat) (a0 : Stocked) (a1 : Str) : Option Unit :=
  some ()
def slices_IndexFunc_Stocked_L1 (n : Nat) (a0 : List Stocked) (a1 : Str) (k1 : (Unit → Option Int)) (back : Nat → Option Int) : Nat → Option Int
  | v2 =>
  bif decide (v2 < a0.length) then
    (restore_stocked_f1 n (ix a0 v2) a1).bind fun y3 =>
    bif ((ix a0 v2).Part == a1) then
      some ((v2 : Nat) : Int)
    else
      chk (nI (v2 + 1)) <|
      back (v2 + 1)
  else
    k1 ()
def slices_IndexFunc_Stocked (n : Nat) (a0 : List Stocked) (a1 : Str) : Option Int :=
  withK (fun (_ : Unit) =>
      some (-1)) fun k1 =>
  loopN (slices_IndexFunc_Stocked_L1 n a0 a1 k1) n 0
def restore_stocked (n : Nat) (a0 : List Stocked) (a1 : Str) : Option Int :=
  (slices_IndexFunc_Stocked n a0 a1).bind fun y1 =>
  some y1
def restore_CheckStock_L1 (n : Nat) (a0 : List Stocked) (k1 : (Unit → Option Int)) (back : Nat → Option Int) : Nat → Option Int
  | v5 =>
  bif decide (v5 < a0.length) then
    (restore_isName n ((ix a0 v5).Part)).bind fun y6 =>
    bif !y6 then
      some 4
    else
      chk (decide (v5 ≤ a0.length)) <|
      (restore_stocked n (List.take v5 a0) ((ix a0 v5).Part)).bind fun y7 =>
      bif decide ((0 : Int) ≤ y7) then
        some 5
      else
        (restore_within n ((ix a0 v5).Cents) 0 1000000000).bind fun y8 =>
        (gcall (!(!((decide (0 ≤ ((ix a0 v5).Cents))) && (decide (((ix a0 v5).Cents) ≤ 1000000000))))) (restore_within n ((ix a0 v5).Count) 0 10000)).bind fun y9 =>
        bif (!((decide (0 ≤ ((ix a0 v5).Cents))) && (decide (((ix a0 v5).Cents) ≤ 1000000000)))) || (!((decide (0 ≤ ((ix a0 v5).Count))) && (decide (((ix a0 v5).Count) ≤ 10000)))) then
          some 2
        else
          chk (nI (v5 + 1)) <|
          back (v5 + 1)
  else
    k1 ()
def restore_CheckStock (n : Nat) (a0 : List Stocked) : Option Int :=
  bif decide (60 < a0.length) then
    some 8
  else
    withK (fun (_ : Unit) =>
        some 0) fun k1 =>
    loopN (restore_CheckStock_L1 n a0 k1) n 0
def restore_list_checkSet_L2 (a1 : List Str) (k2 : (Unit → Option Int)) (back : Nat → Option Int) : Nat → Option Int
  | v4 =>
  bif decide (v4 < a1.length) then
    chk (inI (((v4 : Nat) : Int) - 1)) <|
    chk (inB (((v4 : Nat) : Int) - 1) a1.length) <|
    chk (decide ((((v4 : Nat) : Int) - 1).toNat < a1.length)) <|
    bif (bLt (ix a1 v4) (ix a1 ((((v4 : Nat) : Int) - 1).toNat)) || ((ix a1 v4) == (ix a1 ((((v4 : Nat) : Int) - 1).toNat)))) then
      some 9
    else
      chk (nI (v4 + 1)) <|
      back (v4 + 1)
  else
    k2 ()
def restore_list_checkSet_L1 (n : Nat) (a0 : List Task) (a1 : List Str) (k1 : (Unit → Option Int)) (back : Nat → Option Int) : Nat → Option Int
  | v2 =>
  bif decide (v2 < a1.length) then
    (restore_list_find n a0 (ix a1 v2)).bind fun y3 =>
    bif decide (y3 < (0 : Int)) then
      some 6
    else
      chk (nI (v2 + 1)) <|
      back (v2 + 1)
  else
    k1 ()
def restore_list_checkSet (n : Nat) (a0 : List Task) (a1 : List Str) : Option Int :=
  withK (fun (_ : Unit) =>
      withK (fun (_ : Unit) =>
          some 0) fun k2 =>
      loopN (restore_list_checkSet_L2 a1 k2) n 1) fun k1 =>
  loopN (restore_list_checkSet_L1 n a0 a1 k1) n 0
def restore_costOf_L1 (n : Nat) (a0 : Task) (a1 : List Stocked) (k1 : (Int → Option (Int × Bool))) (back : Int × Nat → Option (Int × Bool)) : Int × Nat → Option (Int × Bool)
  | (v2, v3) =>
  bif decide (v3 < a0.Parts.length) then
    (restore_stocked n a1 ((ix a0.Parts v3).Part)).bind fun y4 =>
    bif decide (y4 < (0 : Int)) then
      some (0, false)
    else
      chk (inB y4 a1.length) <|
      chk (decide (y4.toNat < a1.length)) <|
      chk (inI (((ix a0.Parts v3).Count) * ((ix a1 y4.toNat).Cents))) <|
      chk (inI (v2 + (((ix a0.Parts v3).Count) * ((ix a1 y4.toNat).Cents)))) <|
      chk (nI (v3 + 1)) <|
      back (v2 + (((ix a0.Parts v3).Count) * ((ix a1 y4.toNat).Cents)), v3 + 1)
  else
    k1 v2
def restore_costOf (n : Nat) (a0 : Task) (a1 : List Stocked) : Option (Int × Bool) :=
  withK (fun (v5 : Int) =>
      some (v5, true)) fun k1 =>
  loopN (restore_costOf_L1 n a0 a1 k1) n (a0.Cents, 0)
def restore_list_bits_L1 (n : Nat) (a0 : List Task) (a1 : List Str) (k1 : (Int → Option Int)) (back : Int × Nat → Option Int) : Int × Nat → Option Int
  | (v2, v3) =>
  bif decide (v3 < a1.length) then
    (restore_list_find n a0 (ix a1 v3)).bind fun y4 =>
    chk (decide (0 ≤ y4)) <|
    chk (nI (v3 + 1)) <|
    back (iOr .u64 v2 (IntKind.u64.wrap (1 * 2 ^ (min y4.toNat 64))), v3 + 1)
  else
    k1 v2
def restore_list_bits (n : Nat) (a0 : List Task) (a1 : List Str) : Option Int :=
  withK (fun (v5 : Int) =>
      some v5) fun k1 =>
  loopN (restore_list_bits_L1 n a0 a1 k1) n (0, 0)
def restore_choice_closed_f1 (n : Nat) (a0 : Int) (a1 : Int) : Option Unit :=
  some ()
def slices_IndexFunc_bitset_L1 (n : Nat) (a0 : List Int) (a1 : Int) (k1 : (Unit → Option Int)) (back : Nat → Option Int) : Nat → Option Int
  | v2 =>
  bif decide (v2 < a0.length) then
    (restore_choice_closed_f1 n (ix a0 v2) a1).bind fun y3 =>
    bif ((iAnd .u64 (ix a0 v2) a1) == (0 : Int)) then
      some ((v2 : Nat) : Int)
    else
      chk (nI (v2 + 1)) <|
      back (v2 + 1)
  else
    k1 ()
def slices_IndexFunc_bitset (n : Nat) (a0 : List Int) (a1 : Int) : Option Int :=
  withK (fun (_ : Unit) =>
      some (-1)) fun k1 =>
  loopN (slices_IndexFunc_bitset_L1 n a0 a1 k1) n 0
def slices_ContainsFunc_bitset (n : Nat) (a0 : List Int) (a1 : Int) : Option Bool :=
  (slices_IndexFunc_bitset n a0 a1).bind fun y1 =>
  some (decide ((0 : Int) ≤ y1))
def restore_choice_closed_L1 (n : Nat) (a0 : List Int) (a1 : List (List Int)) (a3 : Int) (k2 : (Unit → Option Bool)) (back : Nat → Option Bool) : Nat → Option Bool
  | v2 =>
  bif decide (v2 < a0.length) then
    withK (fun (_ : Unit) =>
        chk (nI (v2 + 1)) <|
        back (v2 + 1)) fun k1 =>
    chk (decide (0 ≤ ((v2 : Nat) : Int))) <|
    bif ((iAnd .u64 (Int.fdiv a3 (2 ^ (min ((v2 : Nat) : Int).toNat 64))) 1) == (0 : Int)) then
      k1 ()
    else
      chk (!(!((iAndNot .u64 (ix a0 v2) a3) != (0 : Int))) || decide (v2 < a1.length)) <|
      chk (!(!((iAndNot .u64 (ix a0 v2) a3) != (0 : Int))) || decide (v2 < a1.length)) <|
      (gcall (!((iAndNot .u64 (ix a0 v2) a3) != (0 : Int))) (slices_ContainsFunc_bitset n (ix a1 v2) a3)).bind fun y3 =>
      bif ((iAndNot .u64 (ix a0 v2) a3) != (0 : Int)) || y3 then
        some false
      else
        k1 ()
  else
    k2 ()
def restore_choice_closed (n : Nat) (a0 : List Int) (a1 : List (List Int)) (a2 : List Int) (a3 : Int) : Option Bool :=
  withK (fun (_ : Unit) =>
      some true) fun k2 =>
  loopN (restore_choice_closed_L1 n a0 a1 a3 k2) n 0
def math_bits_Len64 (n : Nat) (a0 : Int) : Option Int :=
  withK (fun (v1, v2) =>
      withK (fun (v3, v4) =>
          withK (fun (v5, v6) =>
              chk (inB (IntKind.u8.wrap v5) (([0, 1, 2, 2, 3, 3, 3, 3, 4, 4, 4, 4, 4, 4, 4, 4, 5, 5, 5, 5, 5, 5, 5, 5, 5, 5, 5, 5, 5, 5, 5, 5, 6, 6, 6, 6, 6, 6, 6, 6, 6, 6, 6, 6, 6, 6, 6, 6, 6, 6, 6, 6, 6, 6, 6, 6, 6, 6, 6, 6, 6, 6, 6, 6, 7, 7, 7, 7, 7, 7, 7, 7, 7, 7, 7, 7, 7, 7, 7, 7, 7, 7, 7, 7, 7, 7, 7, 7, 7, 7, 7, 7, 7, 7, 7, 7, 7, 7, 7, 7, 7, 7, 7, 7, 7, 7, 7, 7, 7, 7, 7, 7, 7, 7, 7, 7, 7, 7, 7, 7, 7, 7, 7, 7, 7, 7, 7, 7, 8, 8, 8, 8, 8, 8, 8, 8, 8, 8, 8, 8, 8, 8, 8, 8, 8, 8, 8, 8, 8, 8, 8, 8, 8, 8, 8, 8, 8, 8, 8, 8, 8, 8, 8, 8, 8, 8, 8, 8, 8, 8, 8, 8, 8, 8, 8, 8, 8, 8, 8, 8, 8, 8, 8, 8, 8, 8, 8, 8, 8, 8, 8, 8, 8, 8, 8, 8, 8, 8, 8, 8, 8, 8, 8, 8, 8, 8, 8, 8, 8, 8, 8, 8, 8, 8, 8, 8, 8, 8, 8, 8, 8, 8, 8, 8, 8, 8, 8, 8, 8, 8, 8, 8, 8, 8, 8, 8, 8, 8, 8, 8, 8, 8, 8, 8, 8, 8, 8, 8, 8, 8, 8, 8, 8, 8, 8, 8] : Str).length)) <|
              chk (inI (v6 + (((List.getD ([0, 1, 2, 2, 3, 3, 3, 3, 4, 4, 4, 4, 4, 4, 4, 4, 5, 5, 5, 5, 5, 5, 5, 5, 5, 5, 5, 5, 5, 5, 5, 5, 6, 6, 6, 6, 6, 6, 6, 6, 6, 6, 6, 6, 6, 6, 6, 6, 6, 6, 6, 6, 6, 6, 6, 6, 6, 6, 6, 6, 6, 6, 6, 6, 7, 7, 7, 7, 7, 7, 7, 7, 7, 7, 7, 7, 7, 7, 7, 7, 7, 7, 7, 7, 7, 7, 7, 7, 7, 7, 7, 7, 7, 7, 7, 7, 7, 7, 7, 7, 7, 7, 7, 7, 7, 7, 7, 7, 7, 7, 7, 7, 7, 7, 7, 7, 7, 7, 7, 7, 7, 7, 7, 7, 7, 7, 7, 7, 8, 8, 8, 8, 8, 8, 8, 8, 8, 8, 8, 8, 8, 8, 8, 8, 8, 8, 8, 8, 8, 8, 8, 8, 8, 8, 8, 8, 8, 8, 8, 8, 8, 8, 8, 8, 8, 8, 8, 8, 8, 8, 8, 8, 8, 8, 8, 8, 8, 8, 8, 8, 8, 8, 8, 8, 8, 8, 8, 8, 8, 8, 8, 8, 8, 8, 8, 8, 8, 8, 8, 8, 8, 8, 8, 8, 8, 8, 8, 8, 8, 8, 8, 8, 8, 8, 8, 8, 8, 8, 8, 8, 8, 8, 8, 8, 8, 8, 8, 8, 8, 8, 8, 8, 8, 8, 8, 8, 8, 8, 8, 8, 8, 8, 8, 8, 8, 8, 8, 8, 8, 8, 8, 8, 8, 8, 8, 8] : Str) ((IntKind.u8.wrap v5).toNat) 0).toNat : Nat) : Int))) <|
              some (v6 + (((List.getD ([0, 1, 2, 2, 3, 3, 3, 3, 4, 4, 4, 4, 4, 4, 4, 4, 5, 5, 5, 5, 5, 5, 5, 5, 5, 5, 5, 5, 5, 5, 5, 5, 6, 6, 6, 6, 6, 6, 6, 6, 6, 6, 6, 6, 6, 6, 6, 6, 6, 6, 6, 6, 6, 6, 6, 6, 6, 6, 6, 6, 6, 6, 6, 6, 7, 7, 7, 7, 7, 7, 7, 7, 7, 7, 7, 7, 7, 7, 7, 7, 7, 7, 7, 7, 7, 7, 7, 7, 7, 7, 7, 7, 7, 7, 7, 7, 7, 7, 7, 7, 7, 7, 7, 7, 7, 7, 7, 7, 7, 7, 7, 7, 7, 7, 7, 7, 7, 7, 7, 7, 7, 7, 7, 7, 7, 7, 7, 7, 8, 8, 8, 8, 8, 8, 8, 8, 8, 8, 8, 8, 8, 8, 8, 8, 8, 8, 8, 8, 8, 8, 8, 8, 8, 8, 8, 8, 8, 8, 8, 8, 8, 8, 8, 8, 8, 8, 8, 8, 8, 8, 8, 8, 8, 8, 8, 8, 8, 8, 8, 8, 8, 8, 8, 8, 8, 8, 8, 8, 8, 8, 8, 8, 8, 8, 8, 8, 8, 8, 8, 8, 8, 8, 8, 8, 8, 8, 8, 8, 8, 8, 8, 8, 8, 8, 8, 8, 8, 8, 8, 8, 8, 8, 8, 8, 8, 8, 8, 8, 8, 8, 8, 8, 8, 8, 8, 8, 8, 8, 8, 8, 8, 8, 8, 8, 8, 8, 8, 8, 8, 8, 8, 8, 8, 8, 8, 8] : Str) ((IntKind.u8.wrap v5).toNat) 0).toNat : Nat) : Int))) fun k3 =>
          bif decide ((256 : Int) ≤ v3) then
            chk (inI (v4 + 8)) <|
            k3 (Int.fdiv v3 (2 ^ (min 8 64)), v4 + 8)
          else
            k3 (v3, v4)) fun k2 =>
      bif decide ((65536 : Int) ≤ v1) then
        chk (inI (v2 + 16)) <|
        k2 (Int.fdiv v1 (2 ^ (min 16 64)), v2 + 16)
      else
        k2 (v1, v2)) fun k1 =>
  bif decide ((4294967296 : Int) ≤ a0) then
    k1 (Int.fdiv a0 (2 ^ (min 32 64)), 32)
  else
    k1 (a0, 0)
def math_bits_Len (n : Nat) (a0 : Int) : Option Int :=
  (math_bits_Len64 n a0).bind fun y1 =>
  some y1
def cmp_isNaN_string (n : Nat) (a0 : Str) : Option Unit :=
  some ()
def cmp_Less_string (n : Nat) (a0 : Str) (a1 : Str) : Option Unit :=
  (cmp_isNaN_string n a0).bind fun y1 =>
  (gcall (!(a0 == a0)) (cmp_isNaN_string n a1)).bind fun y2 =>
  some ()
def slices_insertionSortOrdered_string_L1 (n : Nat) (a1 : Int) (k1 : ((List Str) → Option (List Str))) (back : Int × (List Str) → Option (List Str)) : Int × (List Str) → Option (List Str)
  | (v9, v10) =>
  chk (!(decide (a1 < v9)) || inB v9 v10.length) <|
  chk (!(decide (a1 < v9)) || decide (v9.toNat < v10.length)) <|
  chk (!(decide (a1 < v9)) || inI (v9 - 1)) <|
  chk (!(decide (a1 < v9)) || inB (v9 - 1) v10.length) <|
  chk (!(decide (a1 < v9)) || decide ((v9 - 1).toNat < v10.length)) <|
  (gcall (decide (a1 < v9)) (cmp_Less_string n (ix v10 v9.toNat) (ix v10 ((v9 - 1).toNat)))).bind fun y11 =>
  bif (decide (a1 < v9)) && (((!((ix v10 v9.toNat) == (ix v10 v9.toNat))) && (!(!((ix v10 ((v9 - 1).toNat)) == (ix v10 ((v9 - 1).toNat)))))) || (bLt (ix v10 v9.toNat) (ix v10 ((v9 - 1).toNat)))) then
    chk (inI (v9 - 1)) <|
    chk (inB (v9 - 1) v10.length) <|
    chk (decide ((v9 - 1).toNat < v10.length)) <|
    chk (inB v9 v10.length) <|
    chk (decide (v9.toNat < v10.length)) <|
    chk (decide ((v9 - 1).toNat < (List.set v10 v9.toNat (ix v10 ((v9 - 1).toNat))).length)) <|
    back (v9 - 1, (List.set (List.set v10 v9.toNat (ix v10 ((v9 - 1).toNat))) ((v9 - 1).toNat) (ix v10 v9.toNat)))
  else
    k1 v10
def slices_insertionSortOrdered_string_L2 (n : Nat) (a1 : Int) (a2 : Int) (back : Int × (List Str) → Option (List Str)) : Int × (List Str) → Option (List Str)
  | (v6, v7) =>
  bif decide (v6 < a2) then
    withK (fun (v12 : (List Str)) =>
        chk (inI (v6 + 1)) <|
        back (v6 + 1, v12)) fun k1 =>
    loopN (slices_insertionSortOrdered_string_L1 n a1 k1) n (v6, v7)
  else
    some v7
def slices_insertionSortOrdered_string (n : Nat) (a0 : List Str) (a1 : Int) (a2 : Int) : Option (List Str) :=
  chk (inI (a1 + 1)) <|
  loopN (slices_insertionSortOrdered_string_L2 n a1 a2) n (a1 + 1, a0)
def slices_pdqsortOrdered_string_L1 (n : Nat) (a0 : List Str) (a1 : Int) (a2 : Int) (a3 : Int) (back : Unit → Option (List Str)) : Unit → Option (List Str)
  | _ =>
  chk (inI (a2 - a1)) <|
  bif decide ((a2 - a1) ≤ (12 : Int)) then
    (slices_insertionSortOrdered_string n a0 a1 a2).bind fun y1 =>
    chk (decide (a0.length = y1.length)) <|
    some y1
  else
    bif (a3 == (0 : Int)) then
      none
    else
      none
def slices_pdqsortOrdered_string (n : Nat) (a0 : List Str) (a1 : Int) (a2 : Int) (a3 : Int) : Option (List Str) :=
  loopN (slices_pdqsortOrdered_string_L1 n a0 a1 a2 a3) n ()
def slices_Sort_string (n : Nat) (a0 : List Str) : Option (List Str) :=
  (math_bits_Len n (IntKind.u64.wrap ((a0.length : Nat) : Int))).bind fun y1 =>
  (slices_pdqsortOrdered_string n a0 0 ((a0.length : Nat) : Int) y1).bind fun y2 =>
  chk (decide (a0.length = y2.length)) <|
  some y2
def restore_list_names_L1 (a0 : List Task) (a1 : Int) (k2 : ((List Str) → Option (List Str))) (back : (List Str) × Nat → Option (List Str)) : (List Str) × Nat → Option (List Str)
  | (v2, v3) =>
  bif decide (v3 < a0.length) then
    withK (fun (v4 : (List Str)) =>
        chk (nI (v3 + 1)) <|
        back (v4, v3 + 1)) fun k1 =>
    chk (decide (0 ≤ ((v3 : Nat) : Int))) <|
    bif ((iAnd .u64 (Int.fdiv a1 (2 ^ (min ((v3 : Nat) : Int).toNat 64))) 1) != (0 : Int)) then
      chk (room 16 (v2 ++ ([(ix a0 v3).Name] : List Str)).length) <|
      k1 (v2 ++ ([(ix a0 v3).Name] : List Str))
    else
      k1 v2
  else
    k2 v2
def restore_list_names (n : Nat) (a0 : List Task) (a1 : Int) : Option (List Str) :=
  withK (fun (v5 : (List Str)) =>
      (slices_Sort_string n v5).bind fun y6 =>
      chk (decide (v5.length = y6.length)) <|
      some y6) fun k2 =>
  loopN (restore_list_names_L1 a0 a1 k2) n (([] : List Str), 0)
def cmp_isNaN_int (n : Nat) (a0 : Int) : Option Unit :=
  some ()
def cmp_Compare_int (n : Nat) (a0 : Int) (a1 : Int) : Option Int :=
  (cmp_isNaN_int n a0).bind fun y1 =>
  (cmp_isNaN_int n a1).bind fun y2 =>
  bif (a0 != a0) then
    bif (a1 != a1) then
      some 0
    else
      some (-1)
  else
    bif (a1 != a1) then
      some 1
    else
      bif decide (a0 < a1) then
        some (-1)
      else
        bif decide (a1 < a0) then
          some 1
        else
          some 0
def cmp_Compare_string (n : Nat) (a0 : Str) (a1 : Str) : Option Int :=
  (cmp_isNaN_string n a0).bind fun y1 =>
  (cmp_isNaN_string n a1).bind fun y2 =>
  bif !(a0 == a0) then
    bif !(a1 == a1) then
      some 0
    else
      some (-1)
  else
    bif !(a1 == a1) then
      some 1
    else
      bif bLt a0 a1 then
        some (-1)
      else
        bif !(bLt a0 a1 || (a0 == a1)) then
          some 1
        else
          some 0
def slices_Compare_string_L1 (n : Nat) (a0 : List Str) (a1 : List Str) (k1 : (Unit → Option Int)) (back : Nat → Option Int) : Nat → Option Int
  | v2 =>
  bif decide (v2 < a0.length) then
    bif decide (a1.length ≤ v2) then
      some 1
    else
      chk (decide (v2 < a1.length)) <|
      (cmp_Compare_string n (ix a0 v2) (ix a1 v2)).bind fun y3 =>
      bif (y3 != (0 : Int)) then
        some y3
      else
        chk (nI (v2 + 1)) <|
        back (v2 + 1)
  else
    k1 ()
def slices_Compare_string (n : Nat) (a0 : List Str) (a1 : List Str) : Option Int :=
  withK (fun (_ : Unit) =>
      bif decide (a0.length < a1.length) then
        some (-1)
      else
        some 0) fun k1 =>
  loopN (slices_Compare_string_L1 n a0 a1 k1) n 0
def cmp_Or_int_L1 (a0 : List Int) (k1 : (Unit → Option Int)) (back : Nat → Option Int) : Nat → Option Int
  | v1 =>
  bif decide (v1 < a0.length) then
    bif ((ix a0 v1) != (0 : Int)) then
      some (ix a0 v1)
    else
      chk (nI (v1 + 1)) <|
      back (v1 + 1)
  else
    k1 ()
def cmp_Or_int (n : Nat) (a0 : List Int) : Option Int :=
  withK (fun (_ : Unit) =>
      some 0) fun k1 =>
  loopN (cmp_Or_int_L1 a0 k1) n 0
def restore_Cheapest_L4 (v8 : List Int) (v46 : Int) (k5 : (Int → Option (Int × (List Str) × Int))) (back : Int × Nat → Option (Int × (List Str) × Int)) : Int × Nat → Option (Int × (List Str) × Int)
  | (v49, v50) =>
  bif decide (v50 < v8.length) then
    withK (fun (v51 : Int) =>
        chk (nI (v50 + 1)) <|
        back (v51, v50 + 1)) fun k4 =>
    chk (decide (0 ≤ ((v50 : Nat) : Int))) <|
    bif ((iAnd .u64 (Int.fdiv v46 (2 ^ (min ((v50 : Nat) : Int).toNat 64))) 1) != (0 : Int)) then
      chk (inI (v49 + (ix v8 v50))) <|
      k4 (v49 + (ix v8 v50))
    else
      k4 v49
  else
    k5 v49
def restore_Cheapest_L5 (n : Nat) (a0 : List Task) (v8 : List Int) (v24 : List (List Int)) (v25 : List Int) (y26 : Int) (k8 : ((List Str) × Int → Option (Int × (List Str) × Int))) (back : (List Str) × Int × Int → Option (Int × (List Str) × Int)) : (List Str) × Int × Int → Option (Int × (List Str) × Int)
  | (v44, v45, v46) =>
  bif decide (v46 < (IntKind.u64.wrap (1 * 2 ^ (min ((a0.length : Nat) : Int).toNat 64)))) then
    withK (fun (v62, v63) =>
        back (v62, v63, IntKind.u64.wrap (v46 + 1))) fun k7 =>
    (gcall (!((iAndNot .u64 y26 v46) != (0 : Int))) (restore_choice_closed n v25 v24 v8 v46)).bind fun y47 =>
    bif ((iAndNot .u64 y26 v46) != (0 : Int)) || (!y47) then
      k7 (v44, v45)
    else
      withK (fun (v52 : Int) =>
          (restore_list_names n a0 v46).bind fun y53 =>
          withK (fun (v60 : Bool) =>
              bif v60 then
                k7 (y53, v52)
              else
                k7 (v44, v45)) fun k6 =>
          (gcall (!(decide (v45 < (0 : Int)))) (cmp_Compare_int n v52 v45)).bind fun y54 =>
          (gcall (!(decide (v45 < (0 : Int)))) (cmp_Compare_int n ((y53.length : Nat) : Int) ((v44.length : Nat) : Int))).bind fun y55 =>
          (gcall (!(decide (v45 < (0 : Int)))) (slices_Compare_string n y53 v44)).bind fun y56 =>
          bif !(decide (v45 < (0 : Int))) then
            (cmp_Or_int n ([y54, y55, y56] : List Int)).bind fun y57 =>
            k6 ((decide (v45 < (0 : Int))) || (decide (y57 < (0 : Int))))
          else
            k6 ((decide (v45 < (0 : Int))) || false)) fun k5 =>
      loopN (restore_Cheapest_L4 v8 v46 k5) n (0, 0)
  else
    k8 (v44, v45)
def restore_Cheapest_L2 (n : Nat) (a0 : List Task) (v15 : Nat) (k2 : ((List Int) → Option (Int × (List Str) × Int))) (back : (List Int) × Nat → Option (Int × (List Str) × Int)) : (List Int) × Nat → Option (Int × (List Str) × Int)
  | (v19, v20) =>
  bif decide (v20 < (((ix a0 v15).OneOf).length)) then
    chk (decide (v20 < ((ix a0 v15).OneOf).length)) <|
    (restore_list_bits n a0 (ix ((ix a0 v15).OneOf) v20)).bind fun y21 =>
    chk (room 8 (v19 ++ ([y21] : List Int)).length) <|
    chk (nI (v20 + 1)) <|
    back ((v19 ++ ([y21] : List Int)), v20 + 1)
  else
    k2 v19
def restore_Cheapest_L3 (n : Nat) (a0 : List Task) (k3 : ((List (List Int)) × (List Int) → Option (Int × (List Str) × Int))) (back : Nat × (List Int) × (List (List Int)) → Option (Int × (List Str) × Int)) : Nat × (List Int) × (List (List Int)) → Option (Int × (List Str) × Int)
  | (v15, v16, v17) =>
  bif decide (v15 < a0.length) then
    withK (fun (v22 : (List Int)) =>
        (restore_list_bits n a0 ((ix a0 v15).Needs)).bind fun y23 =>
        chk (room 8 (v16 ++ ([y23] : List Int)).length) <|
        chk (room 24 (v17 ++ ([v22] : List (List Int))).length) <|
        chk (nI (v15 + 1)) <|
        back (v15 + 1, (v16 ++ ([y23] : List Int)), (v17 ++ ([v22] : List (List Int))))) fun k2 =>
    loopN (restore_Cheapest_L2 n a0 v15 k2) n (([] : List Int), 0)
  else
    k3 (v17, v16)
def restore_Cheapest_L1 (n : Nat) (a0 : List Task) (a1 : List Stocked) (k1 : ((List Int) → Option (Int × (List Str) × Int))) (back : Nat × (List Int) → Option (Int × (List Str) × Int)) : Nat × (List Int) → Option (Int × (List Str) × Int)
  | (v5, v6) =>
  bif decide (v5 < a0.length) then
    (restore_costOf n (ix a0 v5) a1).bind fun y7 =>
    bif !y7.2 then
      some (6, ([] : List Str), 0)
    else
      chk (room 8 (v6 ++ ([y7.1] : List Int)).length) <|
      chk (nI (v5 + 1)) <|
      back (v5 + 1, (v6 ++ ([y7.1] : List Int)))
  else
    k1 v6
def restore_Cheapest (n : Nat) (a0 : List Task) (a1 : List Stocked) (a2 : List Str) : Option (Int × (List Str) × Int) :=
  (restore_CheckTasks n a0).bind fun y1 =>
  bif (y1 != (0 : Int)) then
    some (y1, ([] : List Str), 0)
  else
    (restore_CheckStock n a1).bind fun y2 =>
    bif (y2 != (0 : Int)) then
      some (y2, ([] : List Str), 0)
    else
      (restore_list_checkSet n a0 a2).bind fun y3 =>
      bif (y3 != (0 : Int)) then
        some (y3, ([] : List Str), 0)
      else
        withK (fun (v8 : (List Int)) =>
            bif decide (14 < a0.length) then
              some (8, ([] : List Str), 0)
            else
              withK (fun (v24, v25) =>
                  (restore_list_bits n a0 a2).bind fun y26 =>
                  withK (fun (v64, v65) =>
                      some (0, v64, v65)) fun k8 =>
                  chk (decide (0 ≤ ((a0.length : Nat) : Int))) <|
                  loopN (restore_Cheapest_L5 n a0 v8 v24 v25 y26 k8) n (([] : List Str), (-1), 0)) fun k3 =>
              loopN (restore_Cheapest_L3 n a0 k3) n (0, ([] : List Int), ([] : List (List Int)))) fun k1 =>
        loopN (restore_Cheapest_L1 n a0 a1 k1) n (0, ([] : List Int))
def restore_checkWire_f2 (n : Nat) (a0 : Coil) : Option Unit :=
  some ()
def restore_checkWire_f1 (n : Nat) (a0 : Coil) : Option Int :=
  (restore_within n a0.Gauge 100 3000).bind fun y1 =>
  (gcall (!(!((decide (100 ≤ a0.Gauge)) && (decide (a0.Gauge ≤ 3000))))) (restore_within n a0.Length 0 1000000000)).bind fun y2 =>
  bif (!((decide (100 ≤ a0.Gauge)) && (decide (a0.Gauge ≤ 3000)))) || (!((decide (0 ≤ a0.Length)) && (decide (a0.Length ≤ 1000000000)))) then
    some 2
  else
    some 0
def restore_named_Coil_L1 (n : Nat) (a0 : List Coil) (k1 : (Unit → Option Int)) (back : Nat × (List (Str × Bool)) → Option Int) : Nat × (List (Str × Bool)) → Option Int
  | (v4, v5) =>
  bif decide (v4 < a0.length) then
    (restore_checkWire_f2 n (ix a0 v4)).bind fun y6 =>
    (restore_isName n ((ix a0 v4).Name)).bind fun y7 =>
    bif !y7 then
      some 4
    else
      bif (Option.getD (List.lookup ((ix a0 v4).Name) v5) false) then
        some 5
      else
        (restore_checkWire_f1 n (ix a0 v4)).bind fun y8 =>
        bif (y8 != (0 : Int)) then
          some y8
        else
          chk (nI (v4 + 1)) <|
          back (v4 + 1, (mPut ((ix a0 v4).Name) true v5))
  else
    k1 ()
def restore_named_Coil (n : Nat) (a0 : List Coil) (a1 : Int) : Option Int :=
  bif decide (a1 < ((a0.length : Nat) : Int)) then
    some 8
  else
    withK (fun (_ : Unit) =>
        some 0) fun k1 =>
    loopN (restore_named_Coil_L1 n a0 k1) n (0, ([] : List (Str × Bool)))
def restore_checkWire_L1 (n : Nat) (a1 : List WirePiece) (k1 : (Unit → Option Int)) (back : Nat → Option Int) : Nat → Option Int
  | v5 =>
  bif decide (v5 < a1.length) then
    (restore_within n ((ix a1 v5).Gauge) 100 3000).bind fun y6 =>
    (gcall (!(!((decide (100 ≤ ((ix a1 v5).Gauge))) && (decide (((ix a1 v5).Gauge) ≤ 3000))))) (restore_within n ((ix a1 v5).Length) 1 300000)).bind fun y7 =>
    (gcall (!((!((decide (100 ≤ ((ix a1 v5).Gauge))) && (decide (((ix a1 v5).Gauge) ≤ 3000)))) || (!((decide (1 ≤ ((ix a1 v5).Length))) && (decide (((ix a1 v5).Length) ≤ 300000)))))) (restore_within n ((ix a1 v5).Count) 1 100)).bind fun y8 =>
    bif ((!((decide (100 ≤ ((ix a1 v5).Gauge))) && (decide (((ix a1 v5).Gauge) ≤ 3000)))) || (!((decide (1 ≤ ((ix a1 v5).Length))) && (decide (((ix a1 v5).Length) ≤ 300000))))) || (!((decide (1 ≤ ((ix a1 v5).Count))) && (decide (((ix a1 v5).Count) ≤ 100)))) then
      some 2
    else
      chk (nI (v5 + 1)) <|
      back (v5 + 1)
  else
    k1 ()
def restore_checkWire (n : Nat) (a0 : List Coil) (a1 : List WirePiece) : Option Int :=
  (restore_named_Coil n a0 40).bind fun y1 =>
  bif (y1 != (0 : Int)) then
    some y1
  else
    bif decide (60 < a1.length) then
      some 8
    else
      withK (fun (_ : Unit) =>
          some 0) fun k1 =>
      loopN (restore_checkWire_L1 n a1 k1) n 0
def slices_Clone_Coil (n : Nat) (a0 : List Coil) : Option (List Coil) :=
  nilK (a0.isEmpty) fun b1 =>
  bif b1 then
    some ([] : List Coil)
  else
    chk (room 32 a0.length) <|
    some a0
def restore_CutFirst_f1 (n : Nat) (a0 : Coil) (a1 : Int) (a2 : Int) (a3 : Int) : Option Unit :=
  some ()
def slices_IndexFunc_Coil_L1 (n : Nat) (a0 : List Coil) (a1 : Int) (a2 : Int) (a3 : Int) (k1 : (Unit → Option Int)) (back : Nat → Option Int) : Nat → Option Int
  | v2 =>
  bif decide (v2 < a0.length) then
    (restore_CutFirst_f1 n (ix a0 v2) a1 a2 a3).bind fun y3 =>
    bif ((ix a0 v2).Gauge == a1) && (decide (a2 ≤ (ix a0 v2).Length)) then
      some ((v2 : Nat) : Int)
    else
      chk (nI (v2 + 1)) <|
      back (v2 + 1)
  else
    k1 ()
def slices_IndexFunc_Coil (n : Nat) (a0 : List Coil) (a1 : Int) (a2 : Int) (a3 : Int) : Option Int :=
  withK (fun (_ : Unit) =>
      some (-1)) fun k1 =>
  loopN (slices_IndexFunc_Coil_L1 n a0 a1 a2 a3 k1) n 0
def restore_CutFirst_L1 (n : Nat) (a1 : List WirePiece) (v14 : Nat) (k1 : ((List Int) × (List Coil) → Option (Int × (List (List Int))))) (back : (List Int) × Nat × Int × Int × Int × (List Coil) → Option (Int × (List (List Int)))) : (List Int) × Nat × Int × Int × Int × (List Coil) → Option (Int × (List (List Int)))
  | (v17, v18, v19, v20, v21, v22) =>
  bif decide (((v18 : Nat) : Int) < ((ix a1 v14).Count)) then
    (slices_IndexFunc_Coil n v22 v19 v20 v21).bind fun y23 =>
    bif decide (y23 < (0 : Int)) then
      some (20, ([] : List (List Int)))
    else
      chk (inB y23 v22.length) <|
      chk (decide (y23.toNat < v22.length)) <|
      chk (inI (((ix v22 y23.toNat).Length) - v20)) <|
      chk (room 8 (v17 ++ ([y23] : List Int)).length) <|
      chk (nI (v18 + 1)) <|
      back ((v17 ++ ([y23] : List Int)), v18 + 1, v19, v20, v21, (List.set v22 y23.toNat (Coil.mk ((ix v22 y23.toNat).Name) ((ix v22 y23.toNat).Gauge) (((ix v22 y23.toNat).Length) - v20))))
  else
    k1 (v17, v22)
def restore_CutFirst_L2 (n : Nat) (a1 : List WirePiece) (k2 : ((List (List Int)) → Option (Int × (List (List Int))))) (back : (List (List Int)) × Nat × (List Coil) → Option (Int × (List (List Int)))) : (List (List Int)) × Nat × (List Coil) → Option (Int × (List (List Int)))
  | (v13, v14, v15) =>
  bif decide (v14 < a1.length) then
    withK (fun (v24, v25) =>
        chk (room 24 (v13 ++ ([v24] : List (List Int))).length) <|
        chk (nI (v14 + 1)) <|
        back ((v13 ++ ([v24] : List (List Int))), v14 + 1, v25)) fun k1 =>
    loopN (restore_CutFirst_L1 n a1 v14 k1) n (([] : List Int), 0, (ix a1 v14).Gauge, (ix a1 v14).Length, (ix a1 v14).Count, v15)
  else
    k2 v13
def restore_CutFirst (n : Nat) (a0 : List Coil) (a1 : List WirePiece) : Option (Int × (List (List Int))) :=
  (restore_checkWire n a0 a1).bind fun y1 =>
  bif (y1 != (0 : Int)) then
    some (y1, ([] : List (List Int)))
  else
    (slices_Clone_Coil n a0).bind fun y2 =>
    withK (fun (v26 : (List (List Int))) =>
        some (0, v26)) fun k2 =>
    loopN (restore_CutFirst_L2 n a1 k2) n (([] : List (List Int)), 0, y2)
def restore_Split_f1 (n : Nat) (a0 : Int) : Option Unit :=
  (restore_within n a0 0 1000000).bind fun y1 =>
  some ()
def slices_IndexFunc_int_L1 (n : Nat) (a0 : List Int) (k1 : (Unit → Option Int)) (back : Nat → Option Int) : Nat → Option Int
  | v2 =>
  bif decide (v2 < a0.length) then
    (restore_Split_f1 n (ix a0 v2)).bind fun y3 =>
    bif !((decide (0 ≤ (ix a0 v2))) && (decide ((ix a0 v2) ≤ 1000000))) then
      some ((v2 : Nat) : Int)
    else
      chk (nI (v2 + 1)) <|
      back (v2 + 1)
  else
    k1 ()
def slices_IndexFunc_int (n : Nat) (a0 : List Int) : Option Int :=
  withK (fun (_ : Unit) =>
      some (-1)) fun k1 =>
  loopN (slices_IndexFunc_int_L1 n a0 k1) n 0
def slices_ContainsFunc_int (n : Nat) (a0 : List Int) : Option Bool :=
  (slices_IndexFunc_int n a0).bind fun y1 =>
  some (decide ((0 : Int) ≤ y1))
def slices_Max_int_L1 (a0 : List Int) (k1 : (Int → Option Int)) (back : Int × Nat → Option Int) : Int × Nat → Option Int
  | (v1, v2) =>
  bif decide (v2 < a0.length) then
    chk (nI (v2 + 1)) <|
    back (iMax v1 (ix a0 v2), v2 + 1)
  else
    k1 v1
def slices_Max_int (n : Nat) (a0 : List Int) : Option Int :=
  bif decide (a0.length < 1) then
    none
  else
    chk (decide (0 < a0.length)) <|
    withK (fun (v3 : Int) =>
        some v3) fun k1 =>
    loopN (slices_Max_int_L1 a0 k1) n ((ix a0 0), 1)
def restore_Split_f2 (n : Nat) (a0 : Int) (a1 : Int) (a2 : Int) (a3 : List Int) (a4 : Int) : Option Int :=
  chk (inB a1 a3.length) <|
  chk (decide (a1.toNat < a3.length)) <|
  chk (inI (a2 * (ix a3 a1.toNat))) <|
  chk ((a4 != 0)) <|
  chk (inB a0 a3.length) <|
  chk (decide (a0.toNat < a3.length)) <|
  chk (inI (a2 * (ix a3 a0.toNat))) <|
  (cmp_Compare_int n (Int.tmod (a2 * (ix a3 a1.toNat)) a4) (Int.tmod (a2 * (ix a3 a0.toNat)) a4)).bind fun y1 =>
  some y1
def slices_insertionSortCmpFunc_int_L1 (n : Nat) (a1 : Int) (a3 : Int) (a4 : List Int) (a5 : Int) (k1 : ((List Int) → Option (List Int))) (back : Int × (List Int) → Option (List Int)) : Int × (List Int) → Option (List Int)
  | (v9, v10) =>
  chk (!(decide (a1 < v9)) || inB v9 v10.length) <|
  chk (!(decide (a1 < v9)) || decide (v9.toNat < v10.length)) <|
  chk (!(decide (a1 < v9)) || inI (v9 - 1)) <|
  chk (!(decide (a1 < v9)) || inB (v9 - 1) v10.length) <|
  chk (!(decide (a1 < v9)) || decide ((v9 - 1).toNat < v10.length)) <|
  (gcall (decide (a1 < v9)) (restore_Split_f2 n (ix v10 v9.toNat) (ix v10 ((v9 - 1).toNat)) a3 a4 a5)).bind fun y11 =>
  bif (decide (a1 < v9)) && (decide (y11 < (0 : Int))) then
    chk (inI (v9 - 1)) <|
    chk (inB (v9 - 1) v10.length) <|
    chk (decide ((v9 - 1).toNat < v10.length)) <|
    chk (inB v9 v10.length) <|
    chk (decide (v9.toNat < v10.length)) <|
    chk (decide ((v9 - 1).toNat < (List.set v10 v9.toNat (ix v10 ((v9 - 1).toNat))).length)) <|
    back (v9 - 1, (List.set (List.set v10 v9.toNat (ix v10 ((v9 - 1).toNat))) ((v9 - 1).toNat) (ix v10 v9.toNat)))
  else
    k1 v10
def slices_insertionSortCmpFunc_int_L2 (n : Nat) (a1 : Int) (a2 : Int) (a3 : Int) (a4 : List Int) (a5 : Int) (back : Int × (List Int) → Option (List Int)) : Int × (List Int) → Option (List Int)
  | (v6, v7) =>
  bif decide (v6 < a2) then
    withK (fun (v12 : (List Int)) =>
        chk (inI (v6 + 1)) <|
        back (v6 + 1, v12)) fun k1 =>
    loopN (slices_insertionSortCmpFunc_int_L1 n a1 a3 a4 a5 k1) n (v6, v7)
  else
    some v7
def slices_insertionSortCmpFunc_int (n : Nat) (a0 : List Int) (a1 : Int) (a2 : Int) (a3 : Int) (a4 : List Int) (a5 : Int) : Option (List Int) :=
  chk (inI (a1 + 1)) <|
  loopN (slices_insertionSortCmpFunc_int_L2 n a1 a2 a3 a4 a5) n (a1 + 1, a0)
def slices_stableCmpFunc_int_L2 (a1 : Int) (v9 : Int) (k2 : (Unit → Option (List Int))) (back : Unit → Option (List Int)) : Unit → Option (List Int)
  | _ =>
  bif decide ((2 * v9) ≤ a1) then
    chk (inI (0 + v9)) <|
    none
  else
    k2 ()
def slices_stableCmpFunc_int_L3 (n : Nat) (a1 : Int) (y8 : (List Int)) (back : Int → Option (List Int)) : Int → Option (List Int)
  | v9 =>
  bif decide (v9 < a1) then
    chk (inI (2 * v9)) <|
    withK (fun (_ : Unit) =>
        chk (inI (0 + v9)) <|
        bif decide ((0 + v9) < a1) then
          none
        else
          chk (inI (v9 * 2)) <|
          back (v9 * 2)) fun k2 =>
    loopN (slices_stableCmpFunc_int_L2 a1 v9 k2) n ()
  else
    some y8
def slices_stableCmpFunc_int_L1 (n : Nat) (a1 : Int) (a2 : Int) (a3 : List Int) (a4 : Int) (k1 : (Int × (List Int) → Option (List Int))) (back : Int × Nat × (List Int) → Option (List Int)) : Int × Nat × (List Int) → Option (List Int)
  | (v2, v3, v4) =>
  bif decide (((v3 : Nat) : Int) ≤ a1) then
    (slices_insertionSortCmpFunc_int n v4 v2 ((v3 : Nat) : Int) a2 a3 a4).bind fun y5 =>
    chk (decide (v4.length = y5.length)) <|
    chk (nI (v3 + 20)) <|
    back (((v3 : Nat) : Int), v3 + 20, y5)
  else
    k1 (v2, v4)
def slices_stableCmpFunc_int (n : Nat) (a0 : List Int) (a1 : Int) (a2 : Int) (a3 : List Int) (a4 : Int) : Option (List Int) :=
  withK (fun (v6, v7) =>
      (slices_insertionSortCmpFunc_int n v7 v6 a1 a2 a3 a4).bind fun y8 =>
      chk (decide (v7.length = y8.length)) <|
      loopN (slices_stableCmpFunc_int_L3 n a1 y8) n 20) fun k1 =>
  loopN (slices_stableCmpFunc_int_L1 n a1 a2 a3 a4 k1) n (0, 20, a0)
def slices_SortStableFunc_int (n : Nat) (a0 : List Int) (a1 : Int) (a2 : List Int) (a3 : Int) : Option (List Int) :=
  (slices_stableCmpFunc_int n a0 ((a0.length : Nat) : Int) a1 a2 a3).bind fun y1 =>
  chk (decide (a0.length = y1.length)) <|
  some y1
def restore_Split_L3 (v11 : Int) (y14 : (List Int)) (k3 : ((List Int) → Option (Int × (List Int)))) (back : Nat × (List Int) → Option (Int × (List Int))) : Nat × (List Int) → Option (Int × (List Int))
  | (v15, v16) =>
  bif decide (v15 < v11.toNat) then
    chk (decide (v15 < y14.length)) <|
    chk (inB (ix y14 v15) v16.length) <|
    chk (decide ((ix y14 v15).toNat < v16.length)) <|
    chk (inI ((ix v16 ((ix y14 v15).toNat)) + 1)) <|
    chk (nI (v15 + 1)) <|
    back (v15 + 1, (List.set v16 ((ix y14 v15).toNat) ((ix v16 ((ix y14 v15).toNat)) + 1)))
  else
    k3 v16
def restore_Split_L2 (a0 : Int) (a1 : List Int) (v6 : Int) (k2 : (Int × (List Int) × (List Int) → Option (Int × (List Int)))) (back : Int × Nat × (List Int) × (List Int) → Option (Int × (List Int))) : Int × Nat × (List Int) × (List Int) → Option (Int × (List Int))
  | (v7, v8, v9, v10) =>
  bif decide (v8 < a1.length) then
    chk (inI (a0 * (ix a1 v8))) <|
    chk ((v6 != 0 && inI (Int.tdiv (a0 * (ix a1 v8)) v6))) <|
    chk (decide (v8 < v10.length)) <|
    chk (decide (v8 < v9.length)) <|
    chk (decide (v8 < (List.set v10 v8 (Int.tdiv (a0 * (ix a1 v8)) v6)).length)) <|
    chk (inI (v7 - (ix (List.set v10 v8 (Int.tdiv (a0 * (ix a1 v8)) v6)) v8))) <|
    chk (nI (v8 + 1)) <|
    back (v7 - (ix (List.set v10 v8 (Int.tdiv (a0 * (ix a1 v8)) v6)) v8), v8 + 1, (List.set v9 v8 ((v8 : Nat) : Int)), (List.set v10 v8 (Int.tdiv (a0 * (ix a1 v8)) v6)))
  else
    k2 (v7, v9, v10)
def restore_Split_L1 (a1 : List Int) (k1 : (Int → Option (Int × (List Int)))) (back : Nat × Int → Option (Int × (List Int))) : Nat × Int → Option (Int × (List Int))
  | (v4, v5) =>
  bif decide (v4 < a1.length) then
    chk (inI (v5 + (ix a1 v4))) <|
    chk (nI (v4 + 1)) <|
    back (v4 + 1, v5 + (ix a1 v4))
  else
    k1 v5
def restore_Split (n : Nat) (a0 : Int) (a1 : List Int) : Option (Int × (List Int)) :=
  (restore_within n a0 0 1000000000000).bind fun y1 =>
  bif !((decide (0 ≤ a0)) && (decide (a0 ≤ 1000000000000))) then
    some (2, ([] : List Int))
  else
    bif decide (a1.length = 0) then
      some (10, ([] : List Int))
    else
      bif decide (60 < a1.length) then
        some (8, ([] : List Int))
      else
        (slices_ContainsFunc_int n a1).bind fun y2 =>
        bif y2 then
          some (2, ([] : List Int))
        else
          (slices_Max_int n a1).bind fun y3 =>
          bif (y3 == (0 : Int)) then
            some (11, ([] : List Int))
          else
            withK (fun (v6 : Int) =>
                chk (mkroom 8 a1.length) <|
                withK (fun (v11, v12, v13) =>
                    (slices_SortStableFunc_int n v12 a0 a1 v6).bind fun y14 =>
                    chk (decide (v12.length = y14.length)) <|
                    withK (fun (v17 : (List Int)) =>
                        some (0, v17)) fun k3 =>
                    chk (inC v11 y14.length) <|
                    loopN (restore_Split_L3 v11 y14 k3) n (0, v13)) fun k2 =>
                loopN (restore_Split_L2 a0 a1 v6 k2) n (a0, 0, (List.replicate a1.length (0 : Int)), (List.replicate a1.length (0 : Int)))) fun k1 =>
            loopN (restore_Split_L1 a1 k1) n (0, 0)
def agraffebase_Texts_L1 (a0 : List Str) (a1 : List Str) (k1 : (Unit → Option Bool)) (back : Nat → Option Bool) : Nat → Option Bool
  | v1 =>
  bif decide (v1 < a0.length) then
    chk (decide (v1 < a1.length)) <|
    bif !((ix a0 v1) == (ix a1 v1)) then
      some false
    else
      chk (nI (v1 + 1)) <|
      back (v1 + 1)
  else
    k1 ()
def agraffebase_Texts (n : Nat) (a0 : List Str) (a1 : List Str) : Option Bool :=
  bif !decide (a0.length = a1.length) then
    some false
  else
    withK (fun (_ : Unit) =>
        some true) fun k1 =>
    loopN (agraffebase_Texts_L1 a0 a1 k1) n 0
def agraffebase_Ints_L1 (a0 : List Int) (a1 : List Int) (k1 : (Unit → Option Bool)) (back : Nat → Option Bool) : Nat → Option Bool
  | v1 =>
  bif decide (v1 < a0.length) then
    chk (decide (v1 < a1.length)) <|
    bif ((ix a0 v1) != (ix a1 v1)) then
      some false
    else
      chk (nI (v1 + 1)) <|
      back (v1 + 1)
  else
    k1 ()
def agraffebase_Ints (n : Nat) (a0 : List Int) (a1 : List Int) : Option Bool :=
  bif !decide (a0.length = a1.length) then
    some false
  else
    withK (fun (_ : Unit) =>
        some true) fun k1 =>
    loopN (agraffebase_Ints_L1 a0 a1 k1) n 0
def agraffebase_Lists_L1 (n : Nat) (a0 : List (List Int)) (a1 : List (List Int)) (k1 : (Unit → Option Bool)) (back : Nat → Option Bool) : Nat → Option Bool
  | v2 =>
  bif decide (v2 < a0.length) then
    chk (decide (v2 < a1.length)) <|
    (agraffebase_Ints n (ix a0 v2) (ix a1 v2)).bind fun y3 =>
    bif !y3 then
      some false
    else
      chk (nI (v2 + 1)) <|
      back (v2 + 1)
  else
    k1 ()
def agraffebase_Lists (n : Nat) (a0 : List (List Int)) (a1 : List (List Int)) : Option Bool :=
  bif !decide (a0.length = a1.length) then
    some false
  else
    withK (fun (_ : Unit) =>
        some true) fun k1 =>
    loopN (agraffebase_Lists_L1 n a0 a1 k1) n 0
def agraffelaw08_awake (n : Nat)  : Option Bool :=
  (agraffelaw08_Works n).bind fun y1 =>
  (agraffelaw08_Shelf n).bind fun y2 =>
  (restore_Cheapest n ([(Task.mk ([111, 112, 101, 110] : Str) 1000 2 ([] : List Str) ([] : List (List Str)) ([] : List PartCount)), (Task.mk ([99, 108, 101, 97, 110] : Str) 2000 3 ([([111, 112, 101, 110] : Str)] : List Str) ([] : List (List Str)) ([] : List PartCount)), (Task.mk ([112, 97, 116, 99, 104] : Str) 5000 8 ([([99, 108, 101, 97, 110] : Str)] : List Str) ([] : List (List Str)) ([(PartCount.mk ([102, 101, 108, 116] : Str) 2)] : List PartCount)), (Task.mk ([114, 101, 110, 101, 119] : Str) 9000 5 ([([111, 112, 101, 110] : Str)] : List Str) ([] : List (List Str)) ([(PartCount.mk ([102, 101, 108, 116] : Str) 1)] : List PartCount)), (Task.mk ([116, 117, 110, 101] : Str) 4000 4 ([] : List Str) ([([([112, 97, 116, 99, 104] : Str), ([114, 101, 110, 101, 119] : Str)] : List Str)] : List (List Str)) ([] : List PartCount))] : List Task) ([(Stocked.mk ([102, 101, 108, 116] : Str) 500 5)] : List Stocked) ([([116, 117, 110, 101] : Str)] : List Str)).bind fun y3 =>
  (restore_CutFirst n ([(Coil.mk ([97] : Str) 900 1000), (Coil.mk ([98] : Str) 900 700)] : List Coil) ([(WirePiece.mk 900 600 2), (WirePiece.mk 900 400 1)] : List WirePiece)).bind fun y4 =>
  (restore_Split n 10 ([1, 1, 1] : List Int)).bind fun y5 =>
  withK (fun (v13 : Bool) =>
      some v13) fun k1 =>
  bif (y3.1 == (0 : Int)) && (y3.2.2 == (13000 : Int)) then
    (agraffebase_Texts n y3.2.1 ([([99, 108, 101, 97, 110] : Str), ([111, 112, 101, 110] : Str), ([112, 97, 116, 99, 104] : Str), ([116, 117, 110, 101] : Str)] : List Str)).bind fun y6 =>
    bif (((y3.1 == (0 : Int)) && (y3.2.2 == (13000 : Int))) && y6) && (y4.1 == (0 : Int)) then
      (agraffebase_Lists n y4.2 ([([0, 1] : List Int), ([0] : List Int)] : List (List Int))).bind fun y7 =>
      bif (((((y3.1 == (0 : Int)) && (y3.2.2 == (13000 : Int))) && y6) && (y4.1 == (0 : Int))) && y7) && (y5.1 == (0 : Int)) then
        (agraffebase_Ints n y5.2 ([4, 3, 3] : List Int)).bind fun y8 =>
        k1 (((((((y3.1 == (0 : Int)) && (y3.2.2 == (13000 : Int))) && y6) && (y4.1 == (0 : Int))) && y7) && (y5.1 == (0 : Int))) && y8)
      else
        k1 (((((((y3.1 == (0 : Int)) && (y3.2.2 == (13000 : Int))) && y6) && (y4.1 == (0 : Int))) && y7) && (y5.1 == (0 : Int))) && false)
    else
      bif (((((y3.1 == (0 : Int)) && (y3.2.2 == (13000 : Int))) && y6) && (y4.1 == (0 : Int))) && false) && (y5.1 == (0 : Int)) then
        (agraffebase_Ints n y5.2 ([4, 3, 3] : List Int)).bind fun y9 =>
        k1 (((((((y3.1 == (0 : Int)) && (y3.2.2 == (13000 : Int))) && y6) && (y4.1 == (0 : Int))) && false) && (y5.1 == (0 : Int))) && y9)
      else
        k1 (((((((y3.1 == (0 : Int)) && (y3.2.2 == (13000 : Int))) && y6) && (y4.1 == (0 : Int))) && false) && (y5.1 == (0 : Int))) && false)
  else
    bif (((y3.1 == (0 : Int)) && (y3.2.2 == (13000 : Int))) && false) && (y4.1 == (0 : Int)) then
      (agraffebase_Lists n y4.2 ([([0, 1] : List Int), ([0] : List Int)] : List (List Int))).bind fun y10 =>
      bif (((((y3.1 == (0 : Int)) && (y3.2.2 == (13000 : Int))) && false) && (y4.1 == (0 : Int))) && y10) && (y5.1 == (0 : Int)) then
        (agraffebase_Ints n y5.2 ([4, 3, 3] : List Int)).bind fun y11 =>
        k1 (((((((y3.1 == (0 : Int)) && (y3.2.2 == (13000 : Int))) && false) && (y4.1 == (0 : Int))) && y10) && (y5.1 == (0 : Int))) && y11)
      else
        k1 (((((((y3.1 == (0 : Int)) && (y3.2.2 == (13000 : Int))) && false) && (y4.1 == (0 : Int))) && y10) && (y5.1 == (0 : Int))) && false)
    else
      bif (((((y3.1 == (0 : Int)) && (y3.2.2 == (13000 : Int))) && false) && (y4.1 == (0 : Int))) && false) && (y5.1 == (0 : Int)) then
        (agraffebase_Ints n y5.2 ([4, 3, 3] : List Int)).bind fun y12 =>
        k1 (((((((y3.1 == (0 : Int)) && (y3.2.2 == (13000 : Int))) && false) && (y4.1 == (0 : Int))) && false) && (y5.1 == (0 : Int))) && y12)
      else
        k1 (((((((y3.1 == (0 : Int)) && (y3.2.2 == (13000 : Int))) && false) && (y4.1 == (0 : Int))) && false) && (y5.1 == (0 : Int))) && false)
def agraffelaw08_wire_L1 (a0 : List Coil) (k1 : (Unit → Option Bool)) (back : Nat → Option Bool) : Nat → Option Bool
  | v1 =>
  bif decide (v1 < a0.length) then
    bif decide (20 < (((ix a0 v1).Name).length)) then
      some false
    else
      chk (nI (v1 + 1)) <|
      back (v1 + 1)
  else
    k1 ()
def agraffelaw08_wire (n : Nat) (a0 : List Coil) (a1 : List WirePiece) : Option Bool :=
  bif ((((decide (6 < a0.length)) && (decide (a0.length ≤ 40))) || (decide (43 < a0.length))) || ((decide (6 < a1.length)) && (decide (a1.length ≤ 60)))) || (decide (63 < a1.length)) then
    some false
  else
    withK (fun (_ : Unit) =>
        some true) fun k1 =>
    loopN (agraffelaw08_wire_L1 a0 k1) n 0
def agraffebase_CopyInts (n : Nat) (a0 : List Int) : Option Unit :=
  chk (room 8 a0.length) <|
  some ()
def restore_CheckCuts_L3 (n : Nat) (a0 : List Coil) (a1 : List WirePiece) (a2 : List (List Int)) (v11 : Nat) (k3 : ((List Int) → Option (Int × (List Int)))) (back : Nat × (List Int) → Option (Int × (List Int))) : Nat × (List Int) → Option (Int × (List Int))
  | (v14, v15) =>
  bif decide (v14 < ((ix a2 v11).length)) then
    chk (decide (v14 < (ix a2 v11).length)) <|
    chk (inI (((a0.length : Nat) : Int) - 1)) <|
    (restore_within n (ix (ix a2 v11) v14) 0 (((a0.length : Nat) : Int) - 1)).bind fun y16 =>
    bif !((decide (0 ≤ (ix (ix a2 v11) v14))) && (decide ((ix (ix a2 v11) v14) ≤ (((a0.length : Nat) : Int) - 1)))) then
      some (6, ([] : List Int))
    else
      chk (inB (ix (ix a2 v11) v14) a0.length) <|
      chk (decide ((ix (ix a2 v11) v14).toNat < a0.length)) <|
      bif (((ix a0 ((ix (ix a2 v11) v14).toNat)).Gauge) != ((ix a1 v11).Gauge)) then
        some (15, ([] : List Int))
      else
        chk (inB (ix (ix a2 v11) v14) v15.length) <|
        chk (decide ((ix (ix a2 v11) v14).toNat < v15.length)) <|
        bif decide ((ix v15 ((ix (ix a2 v11) v14).toNat)) < ((ix a1 v11).Length)) then
          some (20, ([] : List Int))
        else
          chk (inI ((ix v15 ((ix (ix a2 v11) v14).toNat)) - ((ix a1 v11).Length))) <|
          chk (nI (v14 + 1)) <|
          back (v14 + 1, (List.set v15 ((ix (ix a2 v11) v14).toNat) ((ix v15 ((ix (ix a2 v11) v14).toNat)) - ((ix a1 v11).Length))))
  else
    k3 v15
def restore_CheckCuts_L4 (n : Nat) (a0 : List Coil) (a1 : List WirePiece) (a2 : List (List Int)) (k4 : ((List Int) → Option (Int × (List Int)))) (back : Nat × (List Int) → Option (Int × (List Int))) : Nat × (List Int) → Option (Int × (List Int))
  | (v11, v12) =>
  bif decide (v11 < a1.length) then
    withK (fun (v17 : (List Int)) =>
        chk (nI (v11 + 1)) <|
        back (v11 + 1, v17)) fun k3 =>
    chk (decide (v11 < a2.length)) <|
    loopN (restore_CheckCuts_L3 n a0 a1 a2 v11 k3) n (0, v12)
  else
    k4 v12
def restore_CheckCuts_L2 (a0 : List Coil) (k2 : ((List Int) → Option (Int × (List Int)))) (back : (List Int) × Nat → Option (Int × (List Int))) : (List Int) × Nat → Option (Int × (List Int))
  | (v3, v4) =>
  bif decide (v4 < a0.length) then
    chk (room 8 (v3 ++ ([(ix a0 v4).Length] : List Int)).length) <|
    chk (nI (v4 + 1)) <|
    back ((v3 ++ ([(ix a0 v4).Length] : List Int)), v4 + 1)
  else
    k2 v3
def restore_CheckCuts_L1 (a1 : List WirePiece) (a2 : List (List Int)) (k1 : (Unit → Option (Int × (List Int)))) (back : Nat → Option (Int × (List Int))) : Nat → Option (Int × (List Int))
  | v2 =>
  bif decide (v2 < a1.length) then
    chk (decide (v2 < a2.length)) <|
    bif ((((ix a2 v2).length : Nat) : Int) != ((ix a1 v2).Count)) then
      some (10, ([] : List Int))
    else
      chk (nI (v2 + 1)) <|
      back (v2 + 1)
  else
    k1 ()
def restore_CheckCuts (n : Nat) (a0 : List Coil) (a1 : List WirePiece) (a2 : List (List Int)) : Option (Int × (List Int)) :=
  (restore_checkWire n a0 a1).bind fun y1 =>
  bif (y1 != (0 : Int)) then
    some (y1, ([] : List Int))
  else
    bif !decide (a2.length = a1.length) then
      some (10, ([] : List Int))
    else
      withK (fun (_ : Unit) =>
          withK (fun (v5 : (List Int)) =>
              withK (fun (v18 : (List Int)) =>
                  some (0, v18)) fun k4 =>
              loopN (restore_CheckCuts_L4 n a0 a1 a2 k4) n (0, v5)) fun k2 =>
          loopN (restore_CheckCuts_L2 a0 k2) n (([] : List Int), 0)) fun k1 =>
      loopN (restore_CheckCuts_L1 a1 a2 k1) n 0
def agraffebase_isLetter (n : Nat) (a0 : Int) : Option Unit :=
  some ()
def agraffebase_isDigit (n : Nat) (a0 : Int) : Option Unit :=
  some ()
def agraffebase_IsName_L1 (n : Nat) (a0 : Str) (k1 : (Unit → Option Bool)) (back : Nat → Option Bool) : Nat → Option Bool
  | v4 =>
  bif decide (v4 < a0.length) then
    (agraffebase_isLetter n (((List.getD a0 v4 0).toNat : Nat) : Int)).bind fun y5 =>
    (gcall (!(((decide ((97 : Int) ≤ (((List.getD a0 v4 0).toNat : Nat) : Int))) && (decide ((((List.getD a0 v4 0).toNat : Nat) : Int) ≤ (122 : Int)))) || ((decide ((65 : Int) ≤ (((List.getD a0 v4 0).toNat : Nat) : Int))) && (decide ((((List.getD a0 v4 0).toNat : Nat) : Int) ≤ (90 : Int)))))) (agraffebase_isDigit n (((List.getD a0 v4 0).toNat : Nat) : Int))).bind fun y6 =>
    bif ((!(((decide ((97 : Int) ≤ (((List.getD a0 v4 0).toNat : Nat) : Int))) && (decide ((((List.getD a0 v4 0).toNat : Nat) : Int) ≤ (122 : Int)))) || ((decide ((65 : Int) ≤ (((List.getD a0 v4 0).toNat : Nat) : Int))) && (decide ((((List.getD a0 v4 0).toNat : Nat) : Int) ≤ (90 : Int)))))) && (!((decide ((48 : Int) ≤ (((List.getD a0 v4 0).toNat : Nat) : Int))) && (decide ((((List.getD a0 v4 0).toNat : Nat) : Int) ≤ (57 : Int)))))) && ((((List.getD a0 v4 0).toNat : Nat) : Int) != (45 : Int)) then
      some false
    else
      chk (nI (v4 + 1)) <|
      back (v4 + 1)
  else
    k1 ()
def agraffebase_IsName (n : Nat) (a0 : Str) : Option Bool :=
  chk (!(!((decide (a0.length = 0)) || (decide (12 < a0.length)))) || decide (0 < a0.length)) <|
  (gcall (!((decide (a0.length = 0)) || (decide (12 < a0.length)))) (agraffebase_isLetter n (((List.getD a0 0 0).toNat : Nat) : Int))).bind fun y1 =>
  bif ((decide (a0.length = 0)) || (decide (12 < a0.length))) || (!(((decide ((97 : Int) ≤ (((List.getD a0 0 0).toNat : Nat) : Int))) && (decide ((((List.getD a0 0 0).toNat : Nat) : Int) ≤ (122 : Int)))) || ((decide ((65 : Int) ≤ (((List.getD a0 0 0).toNat : Nat) : Int))) && (decide ((((List.getD a0 0 0).toNat : Nat) : Int) ≤ (90 : Int)))))) then
    some false
  else
    withK (fun (_ : Unit) =>
        some true) fun k1 =>
    loopN (agraffebase_IsName_L1 n a0 k1) n 0
def agraffebase_HasText_L1 (a0 : List Str) (a1 : Str) (k1 : (Unit → Option Bool)) (back : Nat → Option Bool) : Nat → Option Bool
  | v1 =>
  bif decide (v1 < a0.length) then
    bif ((ix a0 v1) == a1) then
      some true
    else
      chk (nI (v1 + 1)) <|
      back (v1 + 1)
  else
    k1 ()
def agraffebase_HasText (n : Nat) (a0 : List Str) (a1 : Str) : Option Bool :=
  withK (fun (_ : Unit) =>
      some false) fun k1 =>
  loopN (agraffebase_HasText_L1 a0 a1 k1) n 0
def agraffebase_Within (n : Nat) (a0 : Int) (a1 : Int) (a2 : Int) : Option Unit :=
  some ()
def agraffebase_HasText_2_L1 (a0 : List Str) (a1 : Str) (k1 : (Unit → Option Bool)) (back : Nat → Option Bool) : Nat → Option Bool
  | v1 =>
  bif decide (v1 < a0.length) then
    bif ((ix a0 v1) == a1) then
      some true
    else
      chk (nI (v1 + 1)) <|
      back (v1 + 1)
  else
    k1 ()
def agraffebase_HasText_2 (n : Nat) (a0 : List Str) (a1 : Str) : Option Bool :=
  withK (fun (_ : Unit) =>
      some false) fun k1 =>
  loopN (agraffebase_HasText_2_L1 a0 a1 k1) n 0
def agrafferef08_CheckWire_L2 (n : Nat) (a1 : List WirePiece) (k2 : (Unit → Option Int)) (back : Nat → Option Int) : Nat → Option Int
  | v14 =>
  bif decide (v14 < a1.length) then
    (agraffebase_Within n ((ix a1 v14).Gauge) 100 3000).bind fun y15 =>
    (gcall (!(!((decide (100 ≤ ((ix a1 v14).Gauge))) && (decide (((ix a1 v14).Gauge) ≤ 3000))))) (agraffebase_Within n ((ix a1 v14).Length) 1 300000)).bind fun y16 =>
    (gcall (!((!((decide (100 ≤ ((ix a1 v14).Gauge))) && (decide (((ix a1 v14).Gauge) ≤ 3000)))) || (!((decide (1 ≤ ((ix a1 v14).Length))) && (decide (((ix a1 v14).Length) ≤ 300000)))))) (agraffebase_Within n ((ix a1 v14).Count) 1 100)).bind fun y17 =>
    bif ((!((decide (100 ≤ ((ix a1 v14).Gauge))) && (decide (((ix a1 v14).Gauge) ≤ 3000)))) || (!((decide (1 ≤ ((ix a1 v14).Length))) && (decide (((ix a1 v14).Length) ≤ 300000))))) || (!((decide (1 ≤ ((ix a1 v14).Count))) && (decide (((ix a1 v14).Count) ≤ 100)))) then
      some 2
    else
      chk (nI (v14 + 1)) <|
      back (v14 + 1)
  else
    k2 ()
def agrafferef08_CheckWire_L1 (n : Nat) (a0 : List Coil) (k1 : (Unit → Option Int)) (back : (List Str) × Nat → Option Int) : (List Str) × Nat → Option Int
  | (v5, v6) =>
  bif decide (v6 < a0.length) then
    (agraffebase_IsName n ((ix a0 v6).Name)).bind fun y7 =>
    bif !y7 then
      some 4
    else
      (agraffebase_HasText_2 n v5 ((ix a0 v6).Name)).bind fun y8 =>
      bif y8 then
        some 5
      else
        chk (room 16 (v5 ++ ([(ix a0 v6).Name] : List Str)).length) <|
        (agraffebase_Within n ((ix a0 v6).Gauge) 100 3000).bind fun y9 =>
        (gcall (!(!((decide (100 ≤ ((ix a0 v6).Gauge))) && (decide (((ix a0 v6).Gauge) ≤ 3000))))) (agraffebase_Within n ((ix a0 v6).Length) 0 1000000000)).bind fun y10 =>
        bif (!((decide (100 ≤ ((ix a0 v6).Gauge))) && (decide (((ix a0 v6).Gauge) ≤ 3000)))) || (!((decide (0 ≤ ((ix a0 v6).Length))) && (decide (((ix a0 v6).Length) ≤ 1000000000)))) then
          some 2
        else
          chk (nI (v6 + 1)) <|
          back ((v5 ++ ([(ix a0 v6).Name] : List Str)), v6 + 1)
  else
    k1 ()
def agrafferef08_CheckWire (n : Nat) (a0 : List Coil) (a1 : List WirePiece) : Option Int :=
  bif decide (40 < a0.length) then
    some 8
  else
    withK (fun (_ : Unit) =>
        bif decide (60 < a1.length) then
          some 8
        else
          withK (fun (_ : Unit) =>
              some 0) fun k2 =>
          loopN (agrafferef08_CheckWire_L2 n a1 k2) n 0) fun k1 =>
    loopN (agrafferef08_CheckWire_L1 n a0 k1) n (([] : List Str), 0)
def agrafferef08_lengths_L1 (a0 : List Coil) (k1 : ((List Int) → Option (List Int))) (back : (List Int) × Nat → Option (List Int)) : (List Int) × Nat → Option (List Int)
  | (v1, v2) =>
  bif decide (v2 < a0.length) then
    chk (room 8 (v1 ++ ([(ix a0 v2).Length] : List Int)).length) <|
    chk (nI (v2 + 1)) <|
    back ((v1 ++ ([(ix a0 v2).Length] : List Int)), v2 + 1)
  else
    k1 v1
def agrafferef08_lengths (n : Nat) (a0 : List Coil) : Option (List Int) :=
  withK (fun (v3 : (List Int)) =>
      some v3) fun k1 =>
  loopN (agrafferef08_lengths_L1 a0 k1) n (([] : List Int), 0)
def agrafferef08_CheckCuts_L2 (n : Nat) (a0 : List Coil) (a1 : List WirePiece) (a2 : List (List Int)) (v8 : Nat) (k2 : ((List Int) → Option (Int × (List Int)))) (back : Nat × (List Int) → Option (Int × (List Int))) : Nat × (List Int) → Option (Int × (List Int))
  | (v11, v12) =>
  chk (decide (v8 < a2.length)) <|
  bif decide (v11 < ((ix a2 v8).length)) then
    chk (decide (v11 < (ix a2 v8).length)) <|
    chk (inI (((a0.length : Nat) : Int) - 1)) <|
    (agraffebase_Within n (ix (ix a2 v8) v11) 0 (((a0.length : Nat) : Int) - 1)).bind fun y13 =>
    bif !((decide (0 ≤ (ix (ix a2 v8) v11))) && (decide ((ix (ix a2 v8) v11) ≤ (((a0.length : Nat) : Int) - 1)))) then
      some (6, ([] : List Int))
    else
      chk (inB (ix (ix a2 v8) v11) a0.length) <|
      chk (decide ((ix (ix a2 v8) v11).toNat < a0.length)) <|
      bif (((ix a0 ((ix (ix a2 v8) v11).toNat)).Gauge) != ((ix a1 v8).Gauge)) then
        some (15, ([] : List Int))
      else
        chk (inB (ix (ix a2 v8) v11) v12.length) <|
        chk (decide ((ix (ix a2 v8) v11).toNat < v12.length)) <|
        bif decide ((ix v12 ((ix (ix a2 v8) v11).toNat)) < ((ix a1 v8).Length)) then
          some (20, ([] : List Int))
        else
          chk (inI ((ix v12 ((ix (ix a2 v8) v11).toNat)) - ((ix a1 v8).Length))) <|
          chk (nI (v11 + 1)) <|
          back (v11 + 1, (List.set v12 ((ix (ix a2 v8) v11).toNat) ((ix v12 ((ix (ix a2 v8) v11).toNat)) - ((ix a1 v8).Length))))
  else
    k2 v12
def agrafferef08_CheckCuts_L3 (n : Nat) (a0 : List Coil) (a1 : List WirePiece) (a2 : List (List Int)) (k3 : ((List Int) → Option (Int × (List Int)))) (back : Nat × (List Int) → Option (Int × (List Int))) : Nat × (List Int) → Option (Int × (List Int))
  | (v8, v9) =>
  bif decide (v8 < a1.length) then
    withK (fun (v14 : (List Int)) =>
        chk (nI (v8 + 1)) <|
        back (v8 + 1, v14)) fun k2 =>
    loopN (agrafferef08_CheckCuts_L2 n a0 a1 a2 v8 k2) n (0, v9)
  else
    k3 v9
def agrafferef08_CheckCuts_L1 (a1 : List WirePiece) (a2 : List (List Int)) (k1 : (Unit → Option (Int × (List Int)))) (back : Nat → Option (Int × (List Int))) : Nat → Option (Int × (List Int))
  | v1 =>
  bif decide (v1 < a1.length) then
    chk (decide (v1 < a2.length)) <|
    bif ((((ix a2 v1).length : Nat) : Int) != ((ix a1 v1).Count)) then
      some (10, ([] : List Int))
    else
      chk (nI (v1 + 1)) <|
      back (v1 + 1)
  else
    k1 ()
def agrafferef08_CheckCuts (n : Nat) (a0 : List Coil) (a1 : List WirePiece) (a2 : List (List Int)) : Option (Int × (List Int)) :=
  bif !decide (a2.length = a1.length) then
    some (10, ([] : List Int))
  else
    withK (fun (_ : Unit) =>
        (agrafferef08_lengths n a0).bind fun y2 =>
        withK (fun (v15 : (List Int)) =>
            some (0, v15)) fun k3 =>
        loopN (agrafferef08_CheckCuts_L3 n a0 a1 a2 k3) n (0, y2)) fun k1 =>
    loopN (agrafferef08_CheckCuts_L1 a1 a2 k1) n 0
def agrafferef08_CutFirst_L1 (a0 : List Coil) (a1 : List WirePiece) (v18 : Nat) (v27 : List Int) (k2 : (Int → Option ((List (List Int)) × Bool))) (back : Int × Nat → Option ((List (List Int)) × Bool)) : Int × Nat → Option ((List (List Int)) × Bool)
  | (v29, v30) =>
  bif (decide (v30 < a0.length)) && (decide (v29 < (0 : Int))) then
    withK (fun (v31 : Int) =>
        chk (nI (v30 + 1)) <|
        back (v31, v30 + 1)) fun k1 =>
    chk (decide (v30 < a0.length)) <|
    chk (!(((ix a0 v30).Gauge) == ((ix a1 v18).Gauge)) || decide (v30 < v27.length)) <|
    chk (!(((ix a0 v30).Gauge) == ((ix a1 v18).Gauge)) || decide (v30 < v27.length)) <|
    bif (((ix a0 v30).Gauge) == ((ix a1 v18).Gauge)) && (decide (((ix a1 v18).Length) ≤ (ix v27 v30))) then
      k1 ((v30 : Nat) : Int)
    else
      k1 v29
  else
    k2 v29
def agrafferef08_CutFirst_L2 (n : Nat) (a0 : List Coil) (a1 : List WirePiece) (v18 : Nat) (k3 : ((List Int) × (List Int) → Option ((List (List Int)) × Bool))) (back : (List Int) × Nat × (List Int) → Option ((List (List Int)) × Bool)) : (List Int) × Nat × (List Int) → Option ((List (List Int)) × Bool)
  | (v25, v26, v27) =>
  bif decide (((v26 : Nat) : Int) < ((ix a1 v18).Count)) then
    withK (fun (v32 : Int) =>
        bif decide (v32 < (0 : Int)) then
          some (([] : List (List Int)), false)
        else
          chk (inB v32 v27.length) <|
          chk (decide (v32.toNat < v27.length)) <|
          chk (inI ((ix v27 v32.toNat) - ((ix a1 v18).Length))) <|
          chk (room 8 (v25 ++ ([v32] : List Int)).length) <|
          chk (nI (v26 + 1)) <|
          back ((v25 ++ ([v32] : List Int)), v26 + 1, (List.set v27 v32.toNat ((ix v27 v32.toNat) - ((ix a1 v18).Length))))) fun k2 =>
    loopN (agrafferef08_CutFirst_L1 a0 a1 v18 v27 k2) n ((-1), 0)
  else
    k3 (v25, v27)
def agrafferef08_CutFirst_L3 (n : Nat) (a0 : List Coil) (a1 : List WirePiece) (k4 : ((List (List Int)) → Option ((List (List Int)) × Bool))) (back : (List (List Int)) × Nat × (List Int) → Option ((List (List Int)) × Bool)) : (List (List Int)) × Nat × (List Int) → Option ((List (List Int)) × Bool)
  | (v17, v18, v19) =>
  bif decide (v18 < a1.length) then
    withK (fun (v33, v34) =>
        chk (room 24 (v17 ++ ([v33] : List (List Int))).length) <|
        chk (nI (v18 + 1)) <|
        back ((v17 ++ ([v33] : List (List Int))), v18 + 1, v34)) fun k3 =>
    loopN (agrafferef08_CutFirst_L2 n a0 a1 v18 k3) n (([] : List Int), 0, v19)
  else
    k4 v17
def agrafferef08_CutFirst (n : Nat) (a0 : List Coil) (a1 : List WirePiece) : Option ((List (List Int)) × Bool) :=
  (agrafferef08_lengths n a0).bind fun y1 =>
  withK (fun (v35 : (List (List Int))) =>
      some (v35, true)) fun k4 =>
  loopN (agrafferef08_CutFirst_L3 n a0 a1 k4) n (([] : List (List Int)), 0, y1)
def agraffelaw08_RestoreWire_L3 (a1 : List WirePiece) (k3 : (Int → Option Bool)) (back : Int × Nat → Option Bool) : Int × Nat → Option Bool
  | (v19, v20) =>
  bif decide (v20 < a1.length) then
    chk (inI (((ix a1 v20).Length) * ((ix a1 v20).Count))) <|
    chk (inI (v19 - (((ix a1 v20).Length) * ((ix a1 v20).Count)))) <|
    chk (nI (v20 + 1)) <|
    back (v19 - (((ix a1 v20).Length) * ((ix a1 v20).Count)), v20 + 1)
  else
    k3 v19
def agraffelaw08_RestoreWire_L2 (a0 : List Coil) (y15 : Int × (List Int)) (k2 : (Int → Option Bool)) (back : Int × Nat → Option Bool) : Int × Nat → Option Bool
  | (v16, v17) =>
  bif decide (v17 < a0.length) then
    chk (inI (v16 + ((ix a0 v17).Length))) <|
    chk (decide (v17 < y15.2.length)) <|
    chk (inI ((v16 + ((ix a0 v17).Length)) - (ix y15.2 v17))) <|
    chk (nI (v17 + 1)) <|
    back ((v16 + ((ix a0 v17).Length)) - (ix y15.2 v17), v17 + 1)
  else
    k2 v16
def agraffelaw08_RestoreWire_L1 (n : Nat) (a2 : List (List Int)) (k1 : ((List (List Int)) → Option Bool)) (back : (List (List Int)) × Nat → Option Bool) : (List (List Int)) × Nat → Option Bool
  | (v4, v5) =>
  bif decide (v5 < a2.length) then
    bif decide (110 < ((ix a2 v5).length)) then
      some true
    else
      (agraffebase_CopyInts n (ix a2 v5)).bind fun y6 =>
      chk (room 24 (v4 ++ ([(ix a2 v5)] : List (List Int))).length) <|
      chk (nI (v5 + 1)) <|
      back ((v4 ++ ([(ix a2 v5)] : List (List Int))), v5 + 1)
  else
    k1 v4
def agraffelaw08_RestoreWire (n : Nat) (a0 : List Coil) (a1 : List WirePiece) (a2 : List (List Int)) : Option Bool :=
  (agraffelaw08_awake n).bind fun y1 =>
  bif !y1 then
    some false
  else
    (agraffelaw08_wire n a0 a1).bind fun y2 =>
    bif (!y2) || (decide (10 < a2.length)) then
      some true
    else
      withK (fun (v7 : (List (List Int))) =>
          chk (room 32 a0.length) <|
          chk (room 24 a1.length) <|
          (restore_CutFirst n a0 a1).bind fun y8 =>
          (restore_CheckCuts n a0 a1 v7).bind fun y9 =>
          (agrafferef08_CheckWire n a0 a1).bind fun y10 =>
          bif (y10 != (0 : Int)) then
            chk (!((y8.1 == y10) && (y9.1 == y10)) || nI (y8.2.length + y9.2.length)) <|
            some (((y8.1 == y10) && (y9.1 == y10)) && (decide ((y8.2.length + y9.2.length) = 0)))
          else
            (agrafferef08_CheckCuts n a0 a1 a2).bind fun y11 =>
            (gcall (!(y9.1 != y11.1)) (agraffebase_Ints n y9.2 y11.2)).bind fun y12 =>
            bif (y9.1 != y11.1) || (!y12) then
              some false
            else
              (agrafferef08_CutFirst n a0 a1).bind fun y13 =>
              bif !y13.2 then
                some ((y8.1 == (20 : Int)) && (decide (y8.2.length = 0)))
              else
                (gcall (!(y8.1 != (0 : Int))) (agraffebase_Lists n y8.2 y13.1)).bind fun y14 =>
                bif (y8.1 != (0 : Int)) || (!y14) then
                  some false
                else
                  (restore_CheckCuts n a0 a1 y8.2).bind fun y15 =>
                  bif (y15.1 != (0 : Int)) || (!decide (y15.2.length = a0.length)) then
                    some false
                  else
                    withK (fun (v18 : Int) =>
                        withK (fun (v21 : Int) =>
                            some (v21 == (0 : Int))) fun k3 =>
                        loopN (agraffelaw08_RestoreWire_L3 a1 k3) n (v18, 0)) fun k2 =>
                    loopN (agraffelaw08_RestoreWire_L2 a0 y15 k2) n (0, 0)) fun k1 =>
      loopN (agraffelaw08_RestoreWire_L1 n a2 k1) n (([] : List (List Int)), 0)
end
section
set_option maxRecDepth 4000
open Go
theorem loopN_s {α β : Type} (F : (α → Option β) → α → Option β) (n : Nat) (t : α) : loopN F (n + 1) t = F (loopN F n) t := rfl
@[simp] theorem chk_t {α : Type} (k : Option α) : chk true k = k := rfl
theorem chk_of {α : Type} {b : Bool} {k : Option α} (h : b = true) : chk b k = k := by subst h; rfl
@[simp] theorem withK_eq {α β : Type} (j : α → Option β) (f : (α → Option β) → Option β) : withK j f = f j := rfl
@[simp] theorem gcall_some_ {α : Type} [Inhabited α] (g : Bool) (x : α) : (gcall g (some x)) = some (bif g then x else default) := by cases g <;> rfl
theorem nI_of {n : Nat} (h : n ≤ 9223372036854775807) : nI n = true := by simp [nI, h]
theorem inI_of {n : Int} (h : -9223372036854775808 ≤ n) (h2 : n ≤ 9223372036854775807) : inI n = true := by simp [inI, h, h2]
theorem room_of {b n : Nat} (h : n * b ≤ 140737488355328) (h2 : n ≤ 9223372036854775807) : room b n = true := by simp [room, h, h2]
theorem inB_of {q : Int} {n : Nat} (h : 0 ≤ q) (h2 : q.toNat < n) : inB q n = true := by simp [inB, h, h2]
theorem inC_of {q : Int} {n : Nat} (h : 0 ≤ q) (h2 : q.toNat ≤ n) : inC q n = true := by simp [inC, h, h2]
theorem drop_ix {α : Type} [Inhabited α] {l : List α} {v : Nat} (h : v < l.length) : l.drop v = ix l v :: l.drop (v + 1) := by
  rw [ix_eq h]; exact List.drop_eq_getElem_cons h
theorem drop_nil {α : Type} {l : List α} {v : Nat} (h : ¬ v < l.length) : l.drop v = [] := List.drop_eq_nil_of_le (by omega)
def isL (c : UInt8) : Bool := (decide ((97 : Int) ≤ ((c.toNat : Nat) : Int)) && decide (((c.toNat : Nat) : Int) ≤ (122 : Int))) || (decide ((65 : Int) ≤ ((c.toNat : Nat) : Int)) && decide (((c.toNat : Nat) : Int) ≤ (90 : Int)))
def isD (c : UInt8) : Bool := decide ((48 : Int) ≤ ((c.toNat : Nat) : Int)) && decide (((c.toNat : Nat) : Int) ≤ (57 : Int))
def okC (c : UInt8) : Bool := isL c || isD c || (((c.toNat : Nat) : Int) == (45 : Int))
def nameB (s : Str) : Bool := match s with
  | [] => false
  | c :: r => isL c && r.all okC && decide (r.length < 12)
end
section
set_option maxRecDepth 4000
open Go
theorem getD_ix (s : Str) (v : Nat) : List.getD s v 0 = ix s v := by
  simp only [ix, List.getD]; rfl
theorem isName_loop (s : Str) (k : Unit → Option Bool) : ∀ (n v : Nat), s.length - v < n → 0 < v → s.length < 9223372036854775807 → loopN (restore_isName_L1 s k) n v = bif (s.drop v).all okC then k () else some false := by
  intro n
  induction n with
  | zero => intro v h; omega
  | succ n ih =>
    intro v hn hv hl
    rw [loopN_s, restore_isName_L1]
    by_cases h : v < s.length
    · rw [drop_ix h]
      have h2 : ¬ v = 0 := by omega
      simp only [h, decide_true, cond_true, h2, decide_false, Bool.false_or, List.all_cons, nI_of (by omega : v + 1 ≤ 9223372036854775807), chk_t]
      rw [ih (v + 1) (by omega) (by omega) hl]
      have key : (!((decide ((97 : Int) ≤ (((ix s v).toNat : Nat) : Int)) && decide ((((ix s v).toNat : Nat) : Int) ≤ (122 : Int))) || (decide ((65 : Int) ≤ (((ix s v).toNat : Nat) : Int)) && decide ((((ix s v).toNat : Nat) : Int) ≤ (90 : Int)))) && (((((ix s v).toNat : Nat) : Int) != (45 : Int)) && (decide ((((ix s v).toNat : Nat) : Int) < (48 : Int)) || decide ((57 : Int) < (((ix s v).toNat : Nat) : Int))))) = !okC (ix s v) := by
        have hd : (decide ((((ix s v).toNat : Nat) : Int) < (48 : Int)) || decide ((57 : Int) < (((ix s v).toNat : Nat) : Int))) = !isD (ix s v) := by
          simp only [isD, Bool.not_and, ← decide_not, Int.not_le]
        rw [hd]
        show (!isL (ix s v) && _) = _
        simp only [okC]
        cases isL (ix s v) <;> cases isD (ix s v) <;> cases hh : (((((ix s v).toNat : Nat) : Int)) == (45 : Int)) <;> simp [bne, hh]
      rw [key]
      cases okC (ix s v) <;> simp
    · rw [drop_nil h]
      simp [h]
theorem isName_eq (s : Str) (n : Nat) (hn : s.length + 1 < n) (hl : s.length < 9223372036854775807) : restore_isName n s = some (nameB s) := by
  obtain ⟨n, rfl⟩ : ∃ m, n = m + 1 := ⟨n - 1, by omega⟩
  rw [restore_isName, withK_eq, loopN_s, restore_isName_L1]
  cases s with
  | nil => simp [nameB]
  | cons c r =>
    have h0 : 0 < (c :: r).length := by simp
    have hix : ix (c :: r) 0 = c := rfl
    simp only [h0, decide_true, cond_true, hix, Bool.true_or, Bool.and_true, nI_of (by simp : 0 + 1 ≤ 9223372036854775807), chk_t]
    rw [isName_loop _ _ n 1 (by simp at hn ⊢; omega) (by omega) hl]
    show (bif !isL c then some false else _) = _
    simp only [nameB, List.drop_succ_cons, List.drop_zero]
    cases hL : isL c <;> cases hA : r.all okC <;> simp
    omega
theorem IsName_loop (s : Str) (n0 : Nat) (k : Unit → Option Bool) : ∀ (n v : Nat), s.length - v < n → s.length < 9223372036854775807 → loopN (agraffebase_IsName_L1 n0 s k) n v = bif (s.drop v).all okC then k () else some false := by
  intro n
  induction n with
  | zero => intro v h; omega
  | succ n ih =>
    intro v hn hl
    rw [loopN_s, agraffebase_IsName_L1]
    by_cases h : v < s.length
    · rw [drop_ix h]
      simp only [h, decide_true, cond_true, agraffebase_isLetter, agraffebase_isDigit, gcall_some_, Option.bind_some, getD_ix, List.all_cons, nI_of (by omega : v + 1 ≤ 9223372036854775807), chk_t]
      rw [ih (v + 1) (by omega) hl]
      show (bif ((!isL (ix s v)) && (!isD (ix s v))) && ((((ix s v).toNat : Nat) : Int) != (45 : Int)) then _ else _) = _
      simp only [okC]
      cases isL (ix s v) <;> cases isD (ix s v) <;> cases hh : (((((ix s v).toNat : Nat) : Int)) == (45 : Int)) <;> simp [bne, hh]
    · rw [drop_nil h]
      simp [h]
theorem IsName_eq (s : Str) (n : Nat) (hn : s.length + 1 < n) (hl : s.length < 9223372036854775807) : agraffebase_IsName n s = some (nameB s) := by
  rw [agraffebase_IsName]
  simp only [agraffebase_isLetter, gcall_some_, Option.bind_some, getD_ix, withK_eq]
  rw [IsName_loop _ _ _ _ _ (by omega) hl]
  cases s with
  | nil => simp [nameB]
  | cons c r =>
    have h0 : ¬ (c :: r).length = 0 := by simp
    have h1 : 0 < (c :: r).length := by simp
    have hix : ix (c :: r) 0 = c := rfl
    simp only [h0, h1, decide_true, decide_false, Bool.false_or, Bool.or_true, chk_t, hix, List.drop_zero]
    show (bif (decide (12 < (c :: r).length)) || (!isL c) then _ else _) = _
    simp only [nameB, List.all_cons, okC, List.length_cons]
    by_cases hlen : r.length < 12
    · have : ¬ 12 < r.length + 1 := by omega
      cases hL : isL c <;> cases hA : r.all okC <;> simp [this, hlen, hA]
    · have : 12 < r.length + 1 := by omega
      simp [this, hlen]
end
section
set_option maxRecDepth 4000
open Go
def badCoil (c : Coil) : Bool := (!((decide (100 ≤ c.Gauge)) && (decide (c.Gauge ≤ 3000)))) || (!((decide (0 ≤ c.Length)) && (decide (c.Length ≤ 1000000000))))
def badPiece (p : WirePiece) : Bool := ((!((decide (100 ≤ p.Gauge)) && (decide (p.Gauge ≤ 3000)))) || (!((decide (1 ≤ p.Length)) && (decide (p.Length ≤ 300000))))) || (!((decide (1 ≤ p.Count)) && (decide (p.Count ≤ 100))))
def coilsErr (seen : List Str) : List Coil → Int
  | [] => 0
  | c :: r => bif !nameB c.Name then 4 else bif seen.contains c.Name then 5 else bif badCoil c then 2 else coilsErr (seen ++ [c.Name]) r
def piecesErr : List WirePiece → Int
  | [] => 0
  | p :: r => bif badPiece p then 2 else piecesErr r
def wireErr (c : List Coil) (l : List WirePiece) : Int := bif decide (40 < c.length) then 8 else bif coilsErr [] c != 0 then coilsErr [] c else bif decide (60 < l.length) then 8 else piecesErr l
theorem lookup_mPut {β : Type} (x : Str) (v : β) (y : Str) : ∀ m : List (Str × β), List.lookup y (mPut x v m) = bif y == x then some v else List.lookup y m
  | [] => by
    simp only [mPut, List.lookup]
    cases h : (y == x) <;> rfl
  | (z, u) :: r => by
    have ih := lookup_mPut x v y r
    simp only [mPut]
    cases h : (x == z) with
    | true =>
      have : x = z := by simpa using h
      subst this
      simp only [List.lookup]
      cases (y == x) <;> rfl
    | false =>
      simp only [List.lookup]
      cases h2 : (y == z) with
      | true =>
        have e : y = z := by simpa using h2
        subst e
        have : (y == x) = false := by
          have hn : x ≠ y := by simpa using h
          simpa using (Ne.symm hn)
        rw [this]; rfl
      | false => exact ih
theorem HasText_loop (l : List Str) (x : Str) (k : Unit → Option Bool) : ∀ (n v : Nat), l.length - v < n → l.length < 9223372036854775807 → loopN (agraffebase_HasText_2_L1 l x k) n v = bif (l.drop v).contains x then some true else k () := by
  intro n
  induction n with
  | zero => intro v h; omega
  | succ n ih =>
    intro v hn hl
    rw [loopN_s, agraffebase_HasText_2_L1]
    by_cases h : v < l.length
    · rw [drop_ix h]
      simp only [h, decide_true, cond_true, List.contains_cons, nI_of (by omega : v + 1 ≤ 9223372036854775807), chk_t]
      rw [ih (v + 1) (by omega) hl]
      rw [show (ix l v == x) = (x == ix l v) from BEq.comm]
      cases (x == ix l v) <;> simp
    · rw [drop_nil h]; simp [h]
theorem HasText_eq (l : List Str) (x : Str) (n : Nat) (hn : l.length < n) (hl : l.length < 9223372036854775807) : agraffebase_HasText_2 n l x = some (l.contains x) := by
  rw [agraffebase_HasText_2, withK_eq, HasText_loop _ _ _ _ _ (by omega) hl, List.drop_zero]
  cases l.contains x <;> rfl
theorem checkWire_f1_eq (n : Nat) (c : Coil) : restore_checkWire_f1 n c = some (bif badCoil c then 2 else 0) := by
  simp only [restore_checkWire_f1, restore_within, gcall_some_, Option.bind_some]
  show (bif badCoil c then _ else _) = _
  cases badCoil c <;> rfl
theorem named_loop (l : List Coil) (n0 : Nat) (h0 : 100 ≤ n0) (hn : ∀ c ∈ l, c.Name.length ≤ 20) (k : Unit → Option Int) : ∀ (n v : Nat) (m : List (Str × Bool)) (seen : List Str), l.length - v < n → l.length < 1000 → (∀ x, (List.lookup x m).getD false = seen.contains x) →
    loopN (restore_named_Coil_L1 n0 l k) n (v, m) = bif coilsErr seen (l.drop v) == 0 then k () else some (coilsErr seen (l.drop v)) := by
  intro n
  induction n with
  | zero => intro v m seen h; omega
  | succ n ih =>
    intro v m seen hv hl hm
    rw [loopN_s, restore_named_Coil_L1]
    by_cases h : v < l.length
    · rw [drop_ix h]
      have hname := hn _ (ix_mem h)
      simp only [h, decide_true, cond_true, restore_checkWire_f2, Option.bind_some, isName_eq (ix l v).Name n0 (by omega) (by omega), hm, checkWire_f1_eq, nI_of (by omega : v + 1 ≤ 9223372036854775807), chk_t, coilsErr]
      cases hN : nameB (ix l v).Name with
      | false => rfl
      | true =>
        simp only [Bool.not_true, cond_false]
        cases hS : seen.contains (ix l v).Name with
        | true => rfl
        | false =>
          simp only [cond_false]
          cases hB : badCoil (ix l v) with
          | true => rfl
          | false =>
            simp only [cond_false]
            show loopN _ n _ = _
            refine ih (v + 1) _ _ (by omega) hl fun x => ?_
            rw [lookup_mPut, List.contains_append]
            cases hx : (x == (ix l v).Name) with
            | true =>
              have e : x = (ix l v).Name := by simpa using hx
              subst e
              simp
            | false =>
              have : List.contains [(ix l v).Name] x = false := by
                have hx' : x ≠ (ix l v).Name := by simpa using hx
                simp [hx']
              rw [this, ← hm x]; simp
    · rw [drop_nil h]; simp [h, coilsErr]
theorem CheckWire_loop (l : List Coil) (n0 : Nat) (h0 : 2000 ≤ n0) (hn : ∀ c ∈ l, c.Name.length ≤ 20) (k : Unit → Option Int) : ∀ (n v : Nat) (seen : List Str), l.length - v < n → l.length < 1000 → seen.length ≤ v →
    loopN (agrafferef08_CheckWire_L1 n0 l k) n (seen, v) = bif coilsErr seen (l.drop v) == 0 then k () else some (coilsErr seen (l.drop v)) := by
  intro n
  induction n with
  | zero => intro v seen h; omega
  | succ n ih =>
    intro v seen hv hl hm
    rw [loopN_s, agrafferef08_CheckWire_L1]
    by_cases h : v < l.length
    · rw [drop_ix h]
      have hname := hn _ (ix_mem h)
      have hlen : (seen ++ [(ix l v).Name]).length = seen.length + 1 := by simp
      simp only [h, decide_true, cond_true, Option.bind_some, IsName_eq (ix l v).Name n0 (by omega) (by omega), HasText_eq seen (ix l v).Name n0 (by omega) (by omega), agraffebase_Within, gcall_some_, nI_of (by omega : v + 1 ≤ 9223372036854775807), hlen, room_of (by omega : (seen.length + 1) * 16 ≤ 140737488355328) (by omega), chk_t, coilsErr]
      cases hN : nameB (ix l v).Name with
      | false => rfl
      | true =>
        simp only [Bool.not_true, cond_false]
        cases hS : seen.contains (ix l v).Name with
        | true => rfl
        | false =>
          simp only [cond_false]
          show (bif badCoil (ix l v) then _ else _) = _
          cases hB : badCoil (ix l v) with
          | true => rfl
          | false =>
            simp only [cond_false]
            exact ih (v + 1) _ (by omega) hl (by rw [hlen]; omega)
    · rw [drop_nil h]; simp [h, coilsErr]
theorem pieces_loop (l : List WirePiece) (n0 : Nat) (k : Unit → Option Int) : ∀ (n v : Nat), l.length - v < n → l.length < 1000 → loopN (restore_checkWire_L1 n0 l k) n v = bif piecesErr (l.drop v) == 0 then k () else some (piecesErr (l.drop v)) := by
  intro n
  induction n with
  | zero => intro v h; omega
  | succ n ih =>
    intro v hv hl
    rw [loopN_s, restore_checkWire_L1]
    by_cases h : v < l.length
    · rw [drop_ix h]
      simp only [h, decide_true, cond_true, restore_within, gcall_some_, Option.bind_some, nI_of (by omega : v + 1 ≤ 9223372036854775807), chk_t, piecesErr]
      show (bif badPiece (ix l v) then _ else _) = _
      cases badPiece (ix l v) with
      | true => rfl
      | false => exact ih (v + 1) (by omega) hl
    · rw [drop_nil h]; simp [h, piecesErr]
theorem Pieces_loop (l : List WirePiece) (n0 : Nat) (k : Unit → Option Int) : ∀ (n v : Nat), l.length - v < n → l.length < 1000 → loopN (agrafferef08_CheckWire_L2 n0 l k) n v = bif piecesErr (l.drop v) == 0 then k () else some (piecesErr (l.drop v)) := by
  intro n
  induction n with
  | zero => intro v h; omega
  | succ n ih =>
    intro v hv hl
    rw [loopN_s, agrafferef08_CheckWire_L2]
    by_cases h : v < l.length
    · rw [drop_ix h]
      simp only [h, decide_true, cond_true, agraffebase_Within, gcall_some_, Option.bind_some, nI_of (by omega : v + 1 ≤ 9223372036854775807), chk_t, piecesErr]
      show (bif badPiece (ix l v) then _ else _) = _
      cases badPiece (ix l v) with
      | true => rfl
      | false => exact ih (v + 1) (by omega) hl
    · rw [drop_nil h]; simp [h, piecesErr]
theorem checkWire_eq (c : List Coil) (l : List WirePiece) (n : Nat) (h0 : 2000 ≤ n) (hn : ∀ x ∈ c, x.Name.length ≤ 20) (hc : c.length < 1000) (hl : l.length < 1000) : restore_checkWire n c l = some (wireErr c l) := by
  have h1 : restore_named_Coil n c 40 = some (bif decide (40 < c.length) then 8 else coilsErr [] c) := by
    rw [restore_named_Coil, withK_eq, named_loop c n (by omega) hn _ n 0 [] [] (by omega) hc (fun x => rfl), List.drop_zero]
    have : decide ((40 : Int) < ((c.length : Nat) : Int)) = decide (40 < c.length) := by simp; omega
    rw [this]
    cases decide (40 < c.length) with
    | true => rfl
    | false =>
      simp only [cond_false]
      cases h : (coilsErr [] c == 0) with
      | true => simp at h; simp [h]
      | false => rfl
  rw [restore_checkWire, h1]
  simp only [Option.bind_some, withK_eq]
  rw [pieces_loop l n _ n 0 (by omega) hl, List.drop_zero]
  unfold wireErr
  cases h40 : decide (40 < c.length) with
  | true => rfl
  | false =>
    simp only [cond_false]
    cases h : (coilsErr [] c != 0) with
    | true => rfl
    | false =>
      simp only [cond_false]
      cases decide (60 < l.length) with
      | true => rfl
      | false =>
        simp only [cond_false]
        cases h : (piecesErr l == 0) with
        | true => simp at h; simp [h]
        | false => rfl
theorem CheckWire_eq (c : List Coil) (l : List WirePiece) (n : Nat) (h0 : 2000 ≤ n) (hn : ∀ x ∈ c, x.Name.length ≤ 20) (hc : c.length < 1000) (hl : l.length < 1000) : agrafferef08_CheckWire n c l = some (wireErr c l) := by
  rw [agrafferef08_CheckWire]
  simp only [withK_eq]
  rw [CheckWire_loop c n h0 hn _ n 0 [] (by omega) hc (by simp), List.drop_zero, Pieces_loop l n _ n 0 (by omega) hl, List.drop_zero]
  unfold wireErr
  cases h40 : decide (40 < c.length) with
  | true => rfl
  | false =>
    simp only [cond_false]
    cases h : (coilsErr [] c != 0) with
    | true =>
      have : (coilsErr [] c == 0) = false := by simpa [bne] using h
      rw [this]; rfl
    | false =>
      have : (coilsErr [] c == 0) = true := by simpa [bne] using h
      rw [this]
      simp only [cond_true, cond_false]
      cases decide (60 < l.length) with
      | true => rfl
      | false =>
        simp only [cond_false]
        cases h : (piecesErr l == 0) with
        | true => simp at h; simp [h]
        | false => rfl
end
section
set_option maxRecDepth 4000
open Go
def playRow (c : List Coil) (p : WirePiece) : List Int → List Int → Int × List Int
  | [], left => (0, left)
  | k :: r, left => bif !((decide (0 ≤ k)) && (decide (k ≤ (((c.length : Nat) : Int) - 1)))) then (6, []) else bif ((ix c k.toNat).Gauge != p.Gauge) then (15, []) else bif decide (ix left k.toNat < p.Length) then (20, []) else
      playRow c p r (List.set left k.toNat (ix left k.toNat - p.Length))
def play (c : List Coil) : List WirePiece → List (List Int) → List Int → Int × List Int
  | p :: ps, r :: rs, left => bif (playRow c p r left).1 == 0 then play c ps rs (playRow c p r left).2 else ((playRow c p r left).1, [])
  | _, _, left => (0, left)
def okLeft (c : List Coil) (left : List Int) : Prop := left.length = c.length ∧ ∀ x ∈ left, 0 ≤ x ∧ x ≤ 1000000000
theorem okLeft.set {c : List Coil} {left : List Int} (h : okLeft c left) {k : Nat} (hk : k < left.length) {x : Int} (h0 : 0 ≤ ix left k - x) (hx : 0 ≤ x) : okLeft c (List.set left k (ix left k - x)) := by
  refine ⟨by simpa using h.1, fun y hy => ?_⟩
  rcases List.mem_or_eq_of_mem_set hy with h1 | rfl
  · exact h.2 y h1
  · have := h.2 _ (ix_mem hk)
    omega
theorem playRow_ok {c : List Coil} {p : WirePiece} (hp : badPiece p = false) : ∀ {r left : List Int}, okLeft c left → (playRow c p r left).1 = 0 → okLeft c (playRow c p r left).2
  | [], left, h, _ => h
  | k :: r, left, h, h0 => by
    have hp' : 1 ≤ p.Length := by
      simp [badPiece] at hp; omega
    simp only [playRow] at h0 ⊢
    cases h1 : (!((decide (0 ≤ k)) && (decide (k ≤ (((c.length : Nat) : Int) - 1))))) with
    | true => simp [h1] at h0
    | false =>
      simp only [h1, cond_false] at h0 ⊢
      have hk : 0 ≤ k ∧ k.toNat < left.length := by
        rw [h.1]; simp at h1; omega
      cases h2 : ((ix c k.toNat).Gauge != p.Gauge) with
      | true => simp [h2] at h0
      | false =>
        simp only [h2, cond_false] at h0 ⊢
        cases h3 : decide (ix left k.toNat < p.Length) with
        | true => simp [h3] at h0
        | false =>
          simp only [h3, cond_false] at h0 ⊢
          have h3' : ¬ (ix left k.toNat < p.Length) := by simpa using h3
          exact playRow_ok hp (h.set hk.2 (by omega) (by omega)) h0
theorem row_loop (a0 : List Coil) (a1 : List WirePiece) (a2 : List (List Int)) (v n0 : Nat) (hv2 : v < a2.length) (hp : badPiece (ix a1 v) = false) (h1000 : a0.length < 1000) (hr : (ix a2 v).length < 1000) (k : List Int → Option (Int × List Int)) : ∀ (n j : Nat) (left : List Int), (ix a2 v).length - j < n → okLeft a0 left →
    loopN (agrafferef08_CheckCuts_L2 n0 a0 a1 a2 v k) n (j, left) = bif (playRow a0 (ix a1 v) ((ix a2 v).drop j) left).1 == 0 then k (playRow a0 (ix a1 v) ((ix a2 v).drop j) left).2 else some ((playRow a0 (ix a1 v) ((ix a2 v).drop j) left).1, []) := by
  have hp' : 1 ≤ (ix a1 v).Length ∧ (ix a1 v).Length ≤ 300000 := by
    simp [badPiece] at hp; omega
  intro n
  induction n with
  | zero => intro j left h; omega
  | succ n ih =>
    intro j left hj hl
    rw [loopN_s, agrafferef08_CheckCuts_L2]
    simp only [hv2, decide_true, chk_t]
    by_cases h : j < (ix a2 v).length
    · rw [drop_ix h]
      simp only [h, decide_true, cond_true, chk_t, inI_of (by omega : -9223372036854775808 ≤ ((a0.length : Nat) : Int) - 1) (by omega), agraffebase_Within, Option.bind_some, playRow]
      generalize hk : ix (ix a2 v) j = q
      cases h1 : (!((decide (0 ≤ q)) && (decide (q ≤ (((a0.length : Nat) : Int) - 1))))) with
      | true => rfl
      | false =>
        have hk2 : 0 ≤ q ∧ q.toNat < a0.length := by simp at h1; omega
        have hk3 : q.toNat < left.length := by rw [hl.1]; exact hk2.2
        simp only [cond_false, inB_of hk2.1 hk2.2, inB_of hk2.1 hk3, hk2.2, hk3, decide_true, chk_t]
        cases h2 : ((ix a0 q.toNat).Gauge != (ix a1 v).Gauge) with
        | true => rfl
        | false =>
          simp only [cond_false]
          cases h3 : decide (ix left q.toNat < (ix a1 v).Length) with
          | true => rfl
          | false =>
            have h3' : ¬ (ix left q.toNat < (ix a1 v).Length) := by simpa using h3
            have hb := hl.2 _ (ix_mem hk3)
            simp only [cond_false, inI_of (by omega : -9223372036854775808 ≤ ix left q.toNat - (ix a1 v).Length) (by omega), nI_of (by omega : j + 1 ≤ 9223372036854775807), chk_t]
            exact ih (j + 1) _ (by omega) (hl.set hk3 (by omega) (by omega))
    · rw [drop_nil h]; simp [h, playRow]
theorem all_loop (a0 : List Coil) (a1 : List WirePiece) (a2 : List (List Int)) (n0 : Nat) (h0 : 2000 ≤ n0) (hp : ∀ p ∈ a1, badPiece p = false) (h1000 : a0.length < 1000) (hr : ∀ r ∈ a2, r.length < 1000) (h12 : a2.length = a1.length) (h1l : a1.length < 1000) (k : List Int → Option (Int × List Int)) : ∀ (n v : Nat) (left : List Int), a1.length - v < n → okLeft a0 left →
    loopN (agrafferef08_CheckCuts_L3 n0 a0 a1 a2 k) n (v, left) = bif (play a0 (a1.drop v) (a2.drop v) left).1 == 0 then k (play a0 (a1.drop v) (a2.drop v) left).2 else some ((play a0 (a1.drop v) (a2.drop v) left).1, []) := by
  intro n
  induction n with
  | zero => intro v left h; omega
  | succ n ih =>
    intro v left hv hl
    rw [loopN_s, agrafferef08_CheckCuts_L3]
    by_cases h : v < a1.length
    · have h2 : v < a2.length := by omega
      rw [drop_ix h, drop_ix h2]
      simp only [h, decide_true, cond_true, withK_eq, play]
      rw [row_loop a0 a1 a2 v n0 h2 (hp _ (ix_mem h)) h1000 (hr _ (ix_mem h2)) _ n0 0 left (by have := hr _ (ix_mem h2); omega) hl, List.drop_zero]
      cases h1 : ((playRow a0 (ix a1 v) (ix a2 v) left).1 == 0) with
      | false => simp only [cond_false, h1]
      | true =>
        simp only [cond_true, nI_of (by omega : v + 1 ≤ 9223372036854775807), chk_t]
        exact ih (v + 1) _ (by omega) (playRow_ok (hp _ (ix_mem h)) hl (by simpa using h1))
    · rw [drop_nil h, drop_nil (by omega : ¬ v < a2.length)]; simp [h, play]
def lens (c : List Coil) : List Int := c.map (·.Length)
theorem lens_loop (c : List Coil) (k : List Int → Option (List Int)) (hc : c.length < 1000) : ∀ (n v : Nat) (acc : List Int), c.length - v < n → acc.length ≤ v → loopN (agrafferef08_lengths_L1 c k) n (acc, v) = k (acc ++ lens (c.drop v)) := by
  intro n
  induction n with
  | zero => intro v acc h; omega
  | succ n ih =>
    intro v acc hv ha
    rw [loopN_s, agrafferef08_lengths_L1]
    by_cases h : v < c.length
    · rw [drop_ix h]
      have hlen : (acc ++ [(ix c v).Length]).length = acc.length + 1 := by simp
      simp only [h, decide_true, cond_true, hlen, room_of (by omega : (acc.length + 1) * 8 ≤ 140737488355328) (by omega), nI_of (by omega : v + 1 ≤ 9223372036854775807), chk_t]
      rw [ih (v + 1) _ (by omega) (by rw [hlen]; omega)]
      simp [lens]
    · rw [drop_nil h]; simp [h, lens]
theorem lengths_eq (c : List Coil) (n : Nat) (hc : c.length < 1000) (h0 : 2000 ≤ n) : agrafferef08_lengths n c = some (lens c) := by
  rw [agrafferef08_lengths, withK_eq, lens_loop c _ hc n 0 [] (by omega) (by simp)]; simp
theorem lens_loop2 (c : List Coil) (k : List Int → Option (Int × List Int)) (hc : c.length < 1000) : ∀ (n v : Nat) (acc : List Int), c.length - v < n → acc.length ≤ v → loopN (restore_CheckCuts_L2 c k) n (acc, v) = k (acc ++ lens (c.drop v)) := by
  intro n
  induction n with
  | zero => intro v acc h; omega
  | succ n ih =>
    intro v acc hv ha
    rw [loopN_s, restore_CheckCuts_L2]
    by_cases h : v < c.length
    · rw [drop_ix h]
      have hlen : (acc ++ [(ix c v).Length]).length = acc.length + 1 := by simp
      simp only [h, decide_true, cond_true, hlen, room_of (by omega : (acc.length + 1) * 8 ≤ 140737488355328) (by omega), nI_of (by omega : v + 1 ≤ 9223372036854775807), chk_t]
      rw [ih (v + 1) _ (by omega) (by rw [hlen]; omega)]
      simp [lens]
    · rw [drop_nil h]; simp [h, lens]
def shapes : List WirePiece → List (List Int) → Bool
  | p :: ps, r :: rs => bif (((r.length : Nat) : Int) != p.Count) then false else shapes ps rs
  | _, _ => true
theorem shape_loop (a1 : List WirePiece) (a2 : List (List Int)) (h12 : a2.length = a1.length) (h1l : a1.length < 1000) (k : Unit → Option (Int × List Int)) : ∀ (n v : Nat), a1.length - v < n → loopN (agrafferef08_CheckCuts_L1 a1 a2 k) n v = bif shapes (a1.drop v) (a2.drop v) then k () else some (10, []) := by
  intro n
  induction n with
  | zero => intro v h; omega
  | succ n ih =>
    intro v hv
    rw [loopN_s, agrafferef08_CheckCuts_L1]
    by_cases h : v < a1.length
    · have h2 : v < a2.length := by omega
      rw [drop_ix h, drop_ix h2]
      simp only [h, h2, decide_true, cond_true, chk_t, shapes, nI_of (by omega : v + 1 ≤ 9223372036854775807)]
      cases ((((ix a2 v).length : Nat) : Int) != (ix a1 v).Count) with
      | true => rfl
      | false => exact ih (v + 1) (by omega)
    · rw [drop_nil h, drop_nil (by omega : ¬ v < a2.length)]; simp [h, shapes]
def checkCuts (c : List Coil) (l : List WirePiece) (cuts : List (List Int)) : Int × List Int :=
  bif !decide (cuts.length = l.length) then (10, []) else bif shapes l cuts then (bif (play c l cuts (lens c)).1 == 0 then (0, (play c l cuts (lens c)).2) else ((play c l cuts (lens c)).1, [])) else (10, [])
theorem coilsErr_ok : ∀ {seen : List Str} {l : List Coil}, coilsErr seen l = 0 → ∀ c ∈ l, badCoil c = false
  | _, [], _, c, h => by cases h
  | seen, x :: r, h, c, hc => by
    simp only [coilsErr] at h
    cases h1 : (!nameB x.Name) with
    | true => simp [h1] at h
    | false =>
      cases h2 : seen.contains x.Name with
      | true => rw [h1, h2] at h; exact absurd h (by simp only [cond_false, cond_true]; decide)
      | false =>
        cases h3 : badCoil x with
        | true => rw [h1, h2, h3] at h; exact absurd h (by simp only [cond_false, cond_true]; decide)
        | false =>
          simp only [h1, h2, h3, cond_false] at h
          rcases List.mem_cons.1 hc with rfl | hc
          · exact h3
          · exact coilsErr_ok h c hc
theorem piecesErr_ok : ∀ {l : List WirePiece}, piecesErr l = 0 → ∀ p ∈ l, badPiece p = false
  | [], _, p, h => by cases h
  | x :: r, h, p, hp => by
    simp only [piecesErr] at h
    cases h3 : badPiece x with
    | true => simp [h3] at h
    | false =>
      simp only [h3, cond_false] at h
      rcases List.mem_cons.1 hp with rfl | hp
      · exact h3
      · exact piecesErr_ok h p hp
theorem wireErr_ok {c : List Coil} {l : List WirePiece} (h : wireErr c l = 0) : c.length ≤ 40 ∧ l.length ≤ 60 ∧ (∀ x ∈ c, badCoil x = false) ∧ ∀ p ∈ l, badPiece p = false := by
  unfold wireErr at h
  cases h1 : decide (40 < c.length) with
  | true => simp [h1] at h
  | false =>
    cases h2 : (coilsErr [] c != 0) with
    | true => simp [h1, h2] at h; simp [h] at h2
    | false =>
      cases h3 : decide (60 < l.length) with
      | true => simp [h1, h2, h3] at h
      | false =>
        simp only [h1, h2, h3, cond_false] at h
        exact ⟨by simpa using h1, by simpa using h3, coilsErr_ok (by simpa using h2), piecesErr_ok h⟩
theorem lens_ok {c : List Coil} (h : ∀ x ∈ c, badCoil x = false) : okLeft c (lens c) := by
  refine ⟨by simp [lens], fun x hx => ?_⟩
  obtain ⟨y, hy, rfl⟩ := List.mem_map.1 hx
  have := h y hy
  simp [badCoil] at this
  omega
theorem CheckCuts_eq (c : List Coil) (l : List WirePiece) (cuts : List (List Int)) (n : Nat) (h0 : 2000 ≤ n) (hw : wireErr c l = 0) (hr : ∀ r ∈ cuts, r.length < 1000) : agrafferef08_CheckCuts n c l cuts = some (checkCuts c l cuts) := by
  obtain ⟨hc, hl, hbc, hbp⟩ := wireErr_ok hw
  rw [agrafferef08_CheckCuts, checkCuts]
  cases h : (!decide (cuts.length = l.length)) with
  | true => rfl
  | false =>
    have h12 : cuts.length = l.length := by simpa using h
    simp only [cond_false, withK_eq]
    rw [shape_loop l cuts h12 (by omega) _ n 0 (by omega), List.drop_zero, List.drop_zero, lengths_eq c n (by omega) h0]
    cases shapes l cuts with
    | false => rfl
    | true =>
      simp only [cond_true, Option.bind_some]
      rw [all_loop c l cuts n h0 hbp (by omega) hr h12 (by omega) _ n 0 _ (by omega) (lens_ok hbc), List.drop_zero, List.drop_zero]
      cases ((play c l cuts (lens c)).1 == 0) <;> rfl
theorem L3_eq (n0 : Nat) (a0 : List Coil) (a1 : List WirePiece) (a2 : List (List Int)) (v : Nat) (k : List Int → Option (Int × List Int)) (hv : v < a2.length) : restore_CheckCuts_L3 n0 a0 a1 a2 v k = agrafferef08_CheckCuts_L2 n0 a0 a1 a2 v k := by
  funext back t
  obtain ⟨j, left⟩ := t
  simp only [restore_CheckCuts_L3, agrafferef08_CheckCuts_L2, hv, decide_true, chk_t, restore_within, agraffebase_Within]
theorem L4_eq (n0 : Nat) (a0 : List Coil) (a1 : List WirePiece) (a2 : List (List Int)) (k : List Int → Option (Int × List Int)) (h12 : a2.length = a1.length) : restore_CheckCuts_L4 n0 a0 a1 a2 k = agrafferef08_CheckCuts_L3 n0 a0 a1 a2 k := by
  funext back t
  obtain ⟨j, left⟩ := t
  simp only [restore_CheckCuts_L4, agrafferef08_CheckCuts_L3]
  by_cases h : j < a1.length
  · have h2 : j < a2.length := by omega
    simp only [h, h2, decide_true, cond_true, chk_t, L3_eq n0 a0 a1 a2 j _ h2]
  · simp only [h, decide_false, cond_false]
theorem L1_eq (a1 : List WirePiece) (a2 : List (List Int)) (k : Unit → Option (Int × List Int)) : restore_CheckCuts_L1 a1 a2 k = agrafferef08_CheckCuts_L1 a1 a2 k := rfl
theorem checkCuts_eq (c : List Coil) (l : List WirePiece) (cuts : List (List Int)) (n : Nat) (h0 : 2000 ≤ n) (hn : ∀ x ∈ c, x.Name.length ≤ 20) (hc : c.length < 1000) (hl : l.length < 1000) (hr : ∀ r ∈ cuts, r.length < 1000) :
    restore_CheckCuts n c l cuts = some (bif wireErr c l != 0 then (wireErr c l, []) else checkCuts c l cuts) := by
  rw [restore_CheckCuts, checkWire_eq c l n h0 hn hc hl]
  simp only [Option.bind_some]
  cases hw : (wireErr c l != 0) with
  | true => rfl
  | false =>
    have hw' : wireErr c l = 0 := by simpa using hw
    simp only [cond_false]
    rw [← CheckCuts_eq c l cuts n h0 hw' hr, agrafferef08_CheckCuts]
    cases h : (!decide (cuts.length = l.length)) with
    | true => rfl
    | false =>
      have h12 : cuts.length = l.length := by simpa using h
      simp only [cond_false, withK_eq, L1_eq, L4_eq n c l cuts _ h12, lengths_eq c n hc h0, Option.bind_some]
      congr 2
      funext u
      rw [lens_loop2 c _ hc n 0 [] (by omega) (by simp)]
      simp
end
section
set_option maxRecDepth 4000
open Go
def firstIx (c : List Coil) (p : WirePiece) (left : List Int) : Nat → Nat → Int
  | 0, _ => -1
  | m + 1, v => bif ((ix c v).Gauge == p.Gauge) && decide (p.Length ≤ ix left v) then ((v : Nat) : Int) else firstIx c p left m (v + 1)
theorem firstIx_spec {c : List Coil} {p : WirePiece} {left : List Int} : ∀ {m v : Nat}, firstIx c p left m v = -1 ∨ ∃ k : Nat, firstIx c p left m v = (k : Int) ∧ v ≤ k ∧ k < v + m ∧ (ix c k).Gauge = p.Gauge ∧ p.Length ≤ ix left k
  | 0, v => .inl (by simp [firstIx])
  | m + 1, v => by
    simp only [firstIx]
    cases h : ((ix c v).Gauge == p.Gauge) && decide (p.Length ≤ ix left v) with
    | true =>
      simp at h
      exact .inr ⟨v, rfl, Nat.le_refl _, by omega, h.1, h.2⟩
    | false =>
      rcases firstIx_spec (c := c) (p := p) (left := left) (m := m) (v := v + 1) with h1 | ⟨k, h1, h2, h3, h4⟩
      · exact .inl h1
      · exact .inr ⟨k, h1, by omega, by omega, h4⟩
theorem ref_search (a0 : List Coil) (a1 : List WirePiece) (v18 : Nat) (left : List Int) (hl : left.length = a0.length) (hc : a0.length < 1000) (k : Int → Option (List (List Int) × Bool)) : ∀ (n v : Nat), a0.length - v + 1 < n → v ≤ a0.length →
    loopN (agrafferef08_CutFirst_L1 a0 a1 v18 left k) n (-1, v) = k (firstIx a0 (ix a1 v18) left (a0.length - v) v) := by
  intro n
  induction n with
  | zero => intro v h; omega
  | succ n ih =>
    intro v hv hle
    rw [loopN_s, agrafferef08_CutFirst_L1]
    by_cases h : v < a0.length
    · have e : a0.length - v = (a0.length - (v + 1)) + 1 := by omega
      have h2 : v < left.length := by omega
      have hm1 : decide ((-1 : Int) < 0) = true := by decide
      rw [e]
      simp only [h, h2, decide_true, hm1, Bool.and_self, Bool.and_true, cond_true, withK_eq, chk_t, Bool.or_true, firstIx]
      cases hb : ((ix a0 v).Gauge == (ix a1 v18).Gauge) && decide ((ix a1 v18).Length ≤ ix left v) with
      | true =>
        simp only [cond_true, nI_of (by omega : v + 1 ≤ 9223372036854775807), chk_t]
        obtain ⟨n, rfl⟩ : ∃ q, n = q + 1 := ⟨n - 1, by omega⟩
        rw [loopN_s, agrafferef08_CutFirst_L1]
        have : decide (((v : Nat) : Int) < 0) = false := by simp
        rw [this]; simp
      | false =>
        simp only [cond_false, nI_of (by omega : v + 1 ≤ 9223372036854775807), chk_t]
        exact ih (v + 1) (by omega) (by omega)
    · have : a0.length - v = 0 := by omega
      rw [this]; simp [h, firstIx]
def relen (c : List Coil) (left : List Int) (cs : List Coil) : Prop := cs.length = c.length ∧ left.length = c.length ∧ ∀ k, k < c.length → (ix cs k).Gauge = (ix c k).Gauge ∧ (ix cs k).Length = ix left k
theorem prog_search (n0 : Nat) (c cs : List Coil) (p : WirePiece) (left : List Int) (h : relen c left cs) (hc : c.length < 1000) (q : Int) (k : Unit → Option Int) : ∀ (n v : Nat), c.length - v < n → v ≤ c.length →
    loopN (slices_IndexFunc_Coil_L1 n0 cs p.Gauge p.Length q k) n v = bif decide (firstIx c p left (c.length - v) v < 0) then k () else some (firstIx c p left (c.length - v) v) := by
  intro n
  induction n with
  | zero => intro v h; omega
  | succ n ih =>
    intro v hv hle
    rw [loopN_s, slices_IndexFunc_Coil_L1]
    by_cases hlt : v < c.length
    · have e : c.length - v = (c.length - (v + 1)) + 1 := by omega
      obtain ⟨g1, g2⟩ := h.2.2 v hlt
      rw [e]
      simp only [h.1, hlt, decide_true, cond_true, restore_CutFirst_f1, Option.bind_some, g1, g2, firstIx, nI_of (by omega : v + 1 ≤ 9223372036854775807), chk_t]
      rcases Bool.eq_false_or_eq_true ((ix c v).Gauge == p.Gauge && decide (p.Length ≤ ix left v)) with hb | hb
      · have : decide (((v : Nat) : Int) < 0) = false := by simp
        simp only [hb, cond_true, this, cond_false]
      · simp only [hb, cond_false]
        exact ih (v + 1) (by omega) (by omega)
    · have : c.length - v = 0 := by omega
      rw [this]; simp [h.1, hlt, firstIx]
theorem IndexFunc_eq (n : Nat) (c cs : List Coil) (p : WirePiece) (left : List Int) (h : relen c left cs) (hc : c.length < 1000) (hn : 2000 ≤ n) (q : Int) : slices_IndexFunc_Coil n cs p.Gauge p.Length q = some (firstIx c p left c.length 0) := by
  rw [slices_IndexFunc_Coil, withK_eq, prog_search n c cs p left h hc q _ n 0 (by omega) (by omega), Nat.sub_zero]
  rcases firstIx_spec (c := c) (p := p) (left := left) (m := c.length) (v := 0) with h1 | ⟨k, h1, _⟩
  · have : firstIx c p left c.length 0 < 0 := by rw [h1]; decide
    simp only [this, decide_true, cond_true, h1]
    rfl
  · have : ¬ (firstIx c p left c.length 0 < 0) := by rw [h1]; omega
    simp only [this, decide_false, cond_false]
def cutRow (c : List Coil) (p : WirePiece) : Nat → List Int → List Int → Option (List Int × List Int)
  | 0, cuts, left => some (cuts, left)
  | m + 1, cuts, left => bif decide (firstIx c p left c.length 0 < 0) then none else cutRow c p m (cuts ++ [firstIx c p left c.length 0]) (List.set left (firstIx c p left c.length 0).toNat (ix left (firstIx c p left c.length 0).toNat - p.Length))
def cutAll (c : List Coil) : List WirePiece → List (List Int) → List Int → Option (List (List Int))
  | [], out, _ => some out
  | p :: ps, out, left => (cutRow c p p.Count.toNat [] left).bind fun y => cutAll c ps (out ++ [y.1]) y.2
theorem relen.set {c cs : List Coil} {left : List Int} (h : relen c left cs) {k : Nat} (hk : k < c.length) (x : Int) : relen c (List.set left k x) (List.set cs k (Coil.mk (ix cs k).Name (ix cs k).Gauge x)) := by
  obtain ⟨h1, h2, h3⟩ := h
  refine ⟨by simpa using h1, by simpa using h2, fun q hq => ?_⟩
  have e1 : ix (List.set left k x) q = if k = q then x else ix left q := by
    simp only [ix, List.getD, List.getElem?_set]
    split
    · rename_i e; subst e; simp [show k < left.length by omega]
    · rfl
  have e2 : ix (List.set cs k (Coil.mk (ix cs k).Name (ix cs k).Gauge x)) q = if k = q then Coil.mk (ix cs k).Name (ix cs k).Gauge x else ix cs q := by
    simp only [ix, List.getD, List.getElem?_set]
    split
    · rename_i e; subst e; simp [show k < cs.length by omega]
    · rfl
  rw [e1, e2]
  by_cases e : k = q
  · subst e; simp [(h3 k hk).1]
  · simp [e, h3 q hq]
theorem prog_row (n0 : Nat) (h0 : 2000 ≤ n0) (c : List Coil) (hc : c.length < 1000) (a1 : List WirePiece) (v14 : Nat) (hp : badPiece (ix a1 v14) = false) (q : Int) (k : List Int × List Coil → Option (Int × List (List Int))) :
    ∀ (n : Nat) (v18 : Nat) (cuts : List Int) (left : List Int) (cs : List Coil), (ix a1 v14).Count.toNat - v18 < n → v18 ≤ (ix a1 v14).Count.toNat → cuts.length ≤ v18 → relen c left cs → okLeft c left →
    (cutRow c (ix a1 v14) ((ix a1 v14).Count.toNat - v18) cuts left = none ∧ loopN (restore_CutFirst_L1 n0 a1 v14 k) n (cuts, v18, (ix a1 v14).Gauge, (ix a1 v14).Length, q, cs) = some (20, [])) ∨
    ∃ cuts' left' cs', cutRow c (ix a1 v14) ((ix a1 v14).Count.toNat - v18) cuts left = some (cuts', left') ∧ relen c left' cs' ∧ okLeft c left' ∧ loopN (restore_CutFirst_L1 n0 a1 v14 k) n (cuts, v18, (ix a1 v14).Gauge, (ix a1 v14).Length, q, cs) = k (cuts', cs') := by
  have hp' : 1 ≤ (ix a1 v14).Length ∧ (ix a1 v14).Length ≤ 300000 ∧ 1 ≤ (ix a1 v14).Count ∧ (ix a1 v14).Count ≤ 100 := by
    simp [badPiece] at hp; omega
  intro n
  induction n with
  | zero => intro v18 cuts left cs h; omega
  | succ n ih =>
    intro v18 cuts left cs hn hv hcl hr hok
    rw [loopN_s, restore_CutFirst_L1]
    by_cases h : v18 < (ix a1 v14).Count.toNat
    · have h' : ((v18 : Nat) : Int) < (ix a1 v14).Count := by omega
      have e : (ix a1 v14).Count.toNat - v18 = ((ix a1 v14).Count.toNat - (v18 + 1)) + 1 := by omega
      rw [e]
      simp only [h', decide_true, cond_true, IndexFunc_eq n0 c cs (ix a1 v14) left hr hc h0 q, Option.bind_some, cutRow]
      rcases firstIx_spec (c := c) (p := ix a1 v14) (left := left) (m := c.length) (v := 0) with h1 | ⟨j, h1, _, h3, h4, h5⟩
      · left
        rw [h1]
        exact ⟨rfl, rfl⟩
      · have hj : ¬ ((j : Int) < 0) := by omega
        have hj2 : j < c.length := by omega
        have hj3 : j < left.length := by rw [hr.2.1]; exact hj2
        have hj4 : j < cs.length := by rw [hr.1]; exact hj2
        have hb := hok.2 _ (ix_mem hj3)
        have hL := (hr.2.2 j hj2).2
        have hlen : (cuts ++ [(j : Int)]).length = cuts.length + 1 := by simp
        rw [h1]
        simp only [hj, decide_false, cond_false, Int.toNat_natCast, inB_of (by omega : (0 : Int) ≤ (j : Int)) (by simpa using hj4 : ((j : Int)).toNat < cs.length), hj4, decide_true, chk_t, hL, inI_of (by omega : -9223372036854775808 ≤ ix left j - (ix a1 v14).Length) (by omega), hlen,
          room_of (by omega : (cuts.length + 1) * 8 ≤ 140737488355328) (by omega), nI_of (by omega : v18 + 1 ≤ 9223372036854775807)]
        exact ih (v18 + 1) _ _ _ (by omega) (by omega) (by rw [hlen]; omega) (hr.set hj2 _) (hok.set hj3 (by omega) (by omega))
    · have h' : ¬ (((v18 : Nat) : Int) < (ix a1 v14).Count) := by omega
      have e : (ix a1 v14).Count.toNat - v18 = 0 := by omega
      rw [e]
      right
      exact ⟨cuts, left, cs, rfl, hr, hok, by simp only [h', decide_false, cond_false]⟩
theorem prog_all (n0 : Nat) (h0 : 2000 ≤ n0) (c : List Coil) (hc : c.length < 1000) (a1 : List WirePiece) (h1 : a1.length < 1000) (hp : ∀ p ∈ a1, badPiece p = false) (k : List (List Int) → Option (Int × List (List Int))) :
    ∀ (n v : Nat) (out : List (List Int)) (left : List Int) (cs : List Coil), a1.length - v < n → out.length ≤ v → relen c left cs → okLeft c left →
    loopN (restore_CutFirst_L2 n0 a1 k) n (out, v, cs) = match cutAll c (a1.drop v) out left with | none => some (20, []) | some o => k o := by
  intro n
  induction n with
  | zero => intro v out left cs h; omega
  | succ n ih =>
    intro v out left cs hn ho hr hok
    rw [loopN_s, restore_CutFirst_L2]
    by_cases h : v < a1.length
    · rw [drop_ix h]
      have hpv := hp _ (ix_mem h)
      have hp' : 1 ≤ (ix a1 v).Count ∧ (ix a1 v).Count ≤ 100 := by simp [badPiece] at hpv; omega
      simp only [h, decide_true, cond_true, withK_eq, cutAll]
      rcases prog_row n0 h0 c hc a1 v hpv (ix a1 v).Count (fun x => match x with | (v24, v25) => chk (room 24 (out ++ [v24]).length) (chk (nI (v + 1)) (loopN (restore_CutFirst_L2 n0 a1 k) n (out ++ [v24], v + 1, v25)))) n0 0 [] left cs (by omega) (by omega) (by simp) hr hok with ⟨g1, g2⟩ | ⟨cuts', left', cs', g1, g2, g3, g4⟩
      · rw [Nat.sub_zero] at g1
        rw [g1]
        exact g2
      · rw [Nat.sub_zero] at g1
        rw [g1]
        have hlen : (out ++ [cuts']).length = out.length + 1 := by simp
        refine g4.trans ?_
        simp only [hlen, room_of (by omega : (out.length + 1) * 24 ≤ 140737488355328) (by omega), nI_of (by omega : v + 1 ≤ 9223372036854775807), chk_t, Option.bind_some]
        exact ih (v + 1) _ _ _ (by omega) (by rw [hlen]; omega) g2 g3
    · rw [drop_nil h]; simp [h, cutAll]
theorem cutFirst_eq (c : List Coil) (l : List WirePiece) (n : Nat) (h0 : 2000 ≤ n) (hn : ∀ x ∈ c, x.Name.length ≤ 20) (hc : c.length < 1000) (hl : l.length < 1000) :
    restore_CutFirst n c l = some (bif wireErr c l != 0 then (wireErr c l, []) else match cutAll c l [] (lens c) with | none => (20, []) | some o => (0, o)) := by
  rw [restore_CutFirst, checkWire_eq c l n h0 hn hc hl]
  simp only [Option.bind_some]
  cases hw : (wireErr c l != 0) with
  | true => rfl
  | false =>
    have hw' : wireErr c l = 0 := by simpa using hw
    obtain ⟨hc2, hl2, hbc, hbp⟩ := wireErr_ok hw'
    have hcl : slices_Clone_Coil n c = some c := by
      rw [slices_Clone_Coil]
      cases c with
      | nil => rfl
      | cons x r =>
        have : room 32 (x :: r).length = true := room_of (by omega) (by omega)
        show chk (room 32 (x :: r).length) (some (x :: r)) = _
        rw [this]; rfl
    simp only [cond_false, hcl, Option.bind_some, withK_eq]
    rw [prog_all n h0 c hc l hl hbp _ n 0 [] (lens c) c (by omega) (by simp) ⟨rfl, by simp [lens], fun k hk => ⟨rfl, by simp [lens, ix, List.getD, hk]⟩⟩ (lens_ok hbc), List.drop_zero]
    cases cutAll c l [] (lens c) <;> rfl
theorem ref_row (n0 : Nat) (h0 : 2000 ≤ n0) (c : List Coil) (hc : c.length < 1000) (a1 : List WirePiece) (v18 : Nat) (hp : badPiece (ix a1 v18) = false) (k : List Int × List Int → Option (List (List Int) × Bool)) :
    ∀ (n : Nat) (v : Nat) (cuts : List Int) (left : List Int), (ix a1 v18).Count.toNat - v < n → v ≤ (ix a1 v18).Count.toNat → cuts.length ≤ v → okLeft c left →
    (cutRow c (ix a1 v18) ((ix a1 v18).Count.toNat - v) cuts left = none ∧ loopN (agrafferef08_CutFirst_L2 n0 c a1 v18 k) n (cuts, v, left) = some ([], false)) ∨
    ∃ cuts' left', cutRow c (ix a1 v18) ((ix a1 v18).Count.toNat - v) cuts left = some (cuts', left') ∧ okLeft c left' ∧ loopN (agrafferef08_CutFirst_L2 n0 c a1 v18 k) n (cuts, v, left) = k (cuts', left') := by
  have hp' : 1 ≤ (ix a1 v18).Length ∧ (ix a1 v18).Length ≤ 300000 ∧ 1 ≤ (ix a1 v18).Count ∧ (ix a1 v18).Count ≤ 100 := by
    simp [badPiece] at hp; omega
  intro n
  induction n with
  | zero => intro v cuts left h; omega
  | succ n ih =>
    intro v cuts left hn hv hcl hok
    rw [loopN_s, agrafferef08_CutFirst_L2]
    by_cases h : v < (ix a1 v18).Count.toNat
    · have h' : ((v : Nat) : Int) < (ix a1 v18).Count := by omega
      have e : (ix a1 v18).Count.toNat - v = ((ix a1 v18).Count.toNat - (v + 1)) + 1 := by omega
      rw [e]
      simp only [h', decide_true, cond_true, withK_eq]
      rw [ref_search c a1 v18 left hok.1 hc _ n0 0 (by omega) (by omega), Nat.sub_zero]
      simp only [cutRow]
      rcases firstIx_spec (c := c) (p := ix a1 v18) (left := left) (m := c.length) (v := 0) with h1 | ⟨j, h1, _, h3, h4, h5⟩
      · left
        rw [h1]
        exact ⟨rfl, rfl⟩
      · have hj : ¬ ((j : Int) < 0) := by omega
        have hj2 : j < c.length := by omega
        have hj3 : j < left.length := by rw [hok.1]; exact hj2
        have hb := hok.2 _ (ix_mem hj3)
        have hlen : (cuts ++ [(j : Int)]).length = cuts.length + 1 := by simp
        rw [h1]
        simp only [hj, decide_false, cond_false, Int.toNat_natCast, inB_of (by omega : (0 : Int) ≤ (j : Int)) (by simpa using hj3 : ((j : Int)).toNat < left.length), hj3, decide_true, chk_t, inI_of (by omega : -9223372036854775808 ≤ ix left j - (ix a1 v18).Length) (by omega), hlen,
          room_of (by omega : (cuts.length + 1) * 8 ≤ 140737488355328) (by omega), nI_of (by omega : v + 1 ≤ 9223372036854775807)]
        exact ih (v + 1) _ _ (by omega) (by omega) (by rw [hlen]; omega) (hok.set hj3 (by omega) (by omega))
    · have h' : ¬ (((v : Nat) : Int) < (ix a1 v18).Count) := by omega
      have e : (ix a1 v18).Count.toNat - v = 0 := by omega
      rw [e]
      right
      exact ⟨cuts, left, rfl, hok, by simp only [h', decide_false, cond_false]⟩
theorem ref_all (n0 : Nat) (h0 : 2000 ≤ n0) (c : List Coil) (hc : c.length < 1000) (a1 : List WirePiece) (h1 : a1.length < 1000) (hp : ∀ p ∈ a1, badPiece p = false) (k : List (List Int) → Option (List (List Int) × Bool)) :
    ∀ (n v : Nat) (out : List (List Int)) (left : List Int), a1.length - v < n → out.length ≤ v → okLeft c left →
    loopN (agrafferef08_CutFirst_L3 n0 c a1 k) n (out, v, left) = match cutAll c (a1.drop v) out left with | none => some ([], false) | some o => k o := by
  intro n
  induction n with
  | zero => intro v out left h; omega
  | succ n ih =>
    intro v out left hn ho hok
    rw [loopN_s, agrafferef08_CutFirst_L3]
    by_cases h : v < a1.length
    · rw [drop_ix h]
      have hpv := hp _ (ix_mem h)
      have hp' : 1 ≤ (ix a1 v).Count ∧ (ix a1 v).Count ≤ 100 := by simp [badPiece] at hpv; omega
      simp only [h, decide_true, cond_true, withK_eq, cutAll]
      rcases ref_row n0 h0 c hc a1 v hpv (fun x => match x with | (v24, v25) => chk (room 24 (out ++ [v24]).length) (chk (nI (v + 1)) (loopN (agrafferef08_CutFirst_L3 n0 c a1 k) n (out ++ [v24], v + 1, v25)))) n0 0 [] left (by omega) (by omega) (by simp) hok with ⟨g1, g2⟩ | ⟨cuts', left', g1, g3, g4⟩
      · rw [Nat.sub_zero] at g1
        rw [g1]
        exact g2
      · rw [Nat.sub_zero] at g1
        rw [g1]
        have hlen : (out ++ [cuts']).length = out.length + 1 := by simp
        refine g4.trans ?_
        simp only [hlen, room_of (by omega : (out.length + 1) * 24 ≤ 140737488355328) (by omega), nI_of (by omega : v + 1 ≤ 9223372036854775807), chk_t, Option.bind_some]
        exact ih (v + 1) _ _ (by omega) (by rw [hlen]; omega) g3
    · rw [drop_nil h]; simp [h, cutAll]
theorem CutFirst_eq (c : List Coil) (l : List WirePiece) (n : Nat) (h0 : 2000 ≤ n) (hw : wireErr c l = 0) : agrafferef08_CutFirst n c l = some (match cutAll c l [] (lens c) with | none => ([], false) | some o => (o, true)) := by
  obtain ⟨hc2, hl2, hbc, hbp⟩ := wireErr_ok hw
  rw [agrafferef08_CutFirst, lengths_eq c n (by omega) h0]
  simp only [Option.bind_some, withK_eq]
  rw [ref_all n h0 c (by omega) l (by omega) hbp _ n 0 [] (lens c) (by omega) (by simp) (lens_ok hbc), List.drop_zero]
  cases cutAll c l [] (lens c) <;> rfl
end
section
set_option maxRecDepth 4000
open Go
theorem sum_set (l : List Int) (k : Nat) (hk : k < l.length) (x : Int) : (List.set l k (ix l k - x)).sum = l.sum - x := by
  induction l generalizing k with
  | nil => simp at hk
  | cons a r ih =>
    cases k with
    | zero => simp [ix]; omega
    | succ k =>
      have : ix (a :: r) (k + 1) = ix r k := rfl
      simp only [List.set_cons_succ, List.sum_cons, this, ih k (by simpa using hk)]
      omega
theorem cutRow_play {c : List Coil} {p : WirePiece} (hp : 1 ≤ p.Length) : ∀ {m : Nat} {cuts left : List Int} {cuts' left' : List Int}, okLeft c left → cutRow c p m cuts left = some (cuts', left') →
    ∃ new, cuts' = cuts ++ new ∧ new.length = m ∧ playRow c p new left = (0, left') ∧ left'.sum + m * p.Length = left.sum ∧ okLeft c left'
  | 0, cuts, left, cuts', left', hok, h => by
    simp only [cutRow, Option.some.injEq, Prod.mk.injEq] at h
    obtain ⟨rfl, rfl⟩ := h
    exact ⟨[], by simp, rfl, rfl, by simp, hok⟩
  | m + 1, cuts, left, cuts', left', hok, h => by
    simp only [cutRow] at h
    rcases firstIx_spec (c := c) (p := p) (left := left) (m := c.length) (v := 0) with h1 | ⟨j, h1, _, h3, h4, h5⟩
    · rw [h1] at h; cases h
    · have hj : ¬ ((j : Int) < 0) := by omega
      have hj2 : j < c.length := by omega
      have hj3 : j < left.length := by rw [hok.1]; exact hj2
      have hb := hok.2 _ (ix_mem hj3)
      rw [h1] at h
      simp only [hj, decide_false, cond_false, Int.toNat_natCast] at h
      obtain ⟨new, e1, e2, e3, e4, e5⟩ := cutRow_play hp (hok.set hj3 (by omega) (by omega)) h
      refine ⟨(j : Int) :: new, by rw [e1]; simp, by simp [e2], ?_, ?_, e5⟩
      · have g1 : (!((decide (0 ≤ (j : Int))) && (decide ((j : Int) ≤ (((c.length : Nat) : Int) - 1))))) = false := by simp; omega
        have g2 : ((ix c j).Gauge != p.Gauge) = false := by simp [h4]
        have g3 : decide (ix left j < p.Length) = false := by simpa using h5
        simp only [playRow, g1, cond_false, Int.toNat_natCast, g2, g3]
        exact e3
      · rw [sum_set _ _ hj3] at e4
        have : ((m + 1 : Nat) : Int) * p.Length = (m : Int) * p.Length + p.Length := by
          rw [Int.natCast_add, Int.add_mul]; simp
        rw [this]; omega
def need : List WirePiece → Int
  | [] => 0
  | p :: r => p.Length * p.Count + need r
theorem cutAll_play {c : List Coil} : ∀ {ps : List WirePiece} {out : List (List Int)} {left : List Int} {o : List (List Int)}, (∀ p ∈ ps, badPiece p = false) → okLeft c left → cutAll c ps out left = some o →
    ∃ rows left', o = out ++ rows ∧ rows.length = ps.length ∧ shapes ps rows = true ∧ play c ps rows left = (0, left') ∧ left'.sum + need ps = left.sum ∧ okLeft c left' ∧ ∀ r ∈ rows, r.length ≤ 100
  | [], out, left, o, _, hok, h => by
    simp only [cutAll, Option.some.injEq] at h
    subst h
    exact ⟨[], left, by simp, rfl, rfl, rfl, by simp [need], hok, by simp⟩
  | p :: ps, out, left, o, hp, hok, h => by
    have hpv := hp p (by simp)
    have hp' : 1 ≤ p.Length ∧ 1 ≤ p.Count ∧ p.Count ≤ 100 := by simp [badPiece] at hpv; omega
    simp only [cutAll] at h
    cases hrow : cutRow c p p.Count.toNat [] left with
    | none => rw [hrow] at h; cases h
    | some y =>
      obtain ⟨cuts', left1⟩ := y
      rw [hrow] at h
      simp only [Option.bind_some] at h
      obtain ⟨new, e1, e2, e3, e4, e5⟩ := cutRow_play hp'.1 hok hrow
      obtain ⟨rows, left', f1, f2, f3, f4, f5, f6, f7⟩ := cutAll_play (fun q hq => hp q (by simp [hq])) e5 h
      simp only [List.nil_append] at e1
      subst e1
      refine ⟨cuts' :: rows, left', by rw [f1]; simp, by simp [f2], ?_, ?_, ?_, f6, ?_⟩
      · have : (((cuts'.length : Nat) : Int) != p.Count) = false := by rw [e2]; simp; omega
        simp only [shapes, this, cond_false]; exact f3
      · simp only [play, e3, beq_self_eq_true, cond_true]; exact f4
      · simp only [need]
        have : ((p.Count.toNat : Nat) : Int) = p.Count := by omega
        rw [this, Int.mul_comm] at e4
        omega
      · intro r hr
        rcases List.mem_cons.1 hr with rfl | hr
        · omega
        · exact f7 r hr
theorem Ints_loop (a b : List Int) (hab : a.length = b.length) (h : a.length < 100000) (k : Unit → Option Bool) : ∀ (n v : Nat), a.length - v < n → loopN (agraffebase_Ints_L1 a b k) n v = bif a.drop v == b.drop v then k () else some false := by
  intro n
  induction n with
  | zero => intro v h; omega
  | succ n ih =>
    intro v hn
    rw [loopN_s, agraffebase_Ints_L1]
    by_cases hv : v < a.length
    · have hv2 : v < b.length := by omega
      rw [drop_ix hv, drop_ix hv2]
      simp only [hv, hv2, decide_true, cond_true, chk_t, List.cons_beq_cons, nI_of (by omega : v + 1 ≤ 9223372036854775807)]
      have : (ix a v != ix b v) = !(ix a v == ix b v) := rfl
      rw [this]
      cases (ix a v == ix b v) with
      | false => rfl
      | true => simp only [Bool.not_true, cond_false, Bool.true_and]; exact ih (v + 1) (by omega)
    · rw [drop_nil hv, drop_nil (by omega : ¬ v < b.length)]; simp [hv]
theorem Ints_refl (a : List Int) (h : a.length < 100000) (n : Nat) (hn : a.length < n) : agraffebase_Ints n a a = some true := by
  rw [agraffebase_Ints]
  simp only [decide_true, Bool.not_true, cond_false, withK_eq]
  rw [Ints_loop a a rfl h _ n 0 (by omega)]
  simp
theorem Lists_loop (a : List (List Int)) (n0 : Nat) (h : a.length < 1000) (hr : ∀ r ∈ a, r.length < 1000) (h0 : 2000 ≤ n0) (k : Unit → Option Bool) : ∀ (n v : Nat), a.length - v < n → loopN (agraffebase_Lists_L1 n0 a a k) n v = k () := by
  intro n
  induction n with
  | zero => intro v h; omega
  | succ n ih =>
    intro v hn
    rw [loopN_s, agraffebase_Lists_L1]
    by_cases hv : v < a.length
    · have := hr _ (ix_mem hv)
      simp only [hv, decide_true, cond_true, chk_t, Ints_refl (ix a v) (by omega) n0 (by omega), Option.bind_some, Bool.not_true, cond_false, nI_of (by omega : v + 1 ≤ 9223372036854775807)]
      exact ih (v + 1) (by omega)
    · simp [hv]
theorem Lists_refl (a : List (List Int)) (n : Nat) (h : a.length < 1000) (hr : ∀ r ∈ a, r.length < 1000) (h0 : 2000 ≤ n) : agraffebase_Lists n a a = some true := by
  rw [agraffebase_Lists]
  simp only [decide_true, Bool.not_true, cond_false, withK_eq]
  rw [Lists_loop a n h hr h0 _ n 0 (by omega)]
theorem wire_loop (a : List Coil) (h : a.length < 1000) (k : Unit → Option Bool) : ∀ (n v : Nat), a.length - v < n → loopN (agraffelaw08_wire_L1 a k) n v = bif (a.drop v).all (fun c => decide (c.Name.length ≤ 20)) then k () else some false := by
  intro n
  induction n with
  | zero => intro v h; omega
  | succ n ih =>
    intro v hn
    rw [loopN_s, agraffelaw08_wire_L1]
    by_cases hv : v < a.length
    · rw [drop_ix hv]
      have : decide ((ix a v).Name.length ≤ 20) = !decide (20 < (ix a v).Name.length) := by rw [← decide_not, decide_eq_decide]; omega
      simp only [hv, decide_true, cond_true, chk_t, nI_of (by omega : v + 1 ≤ 9223372036854775807), List.all_cons, this]
      cases decide (20 < (ix a v).Name.length) with
      | true => rfl
      | false => simp only [cond_false, Bool.not_false, Bool.true_and]; exact ih (v + 1) (by omega)
    · rw [drop_nil hv]; simp [hv]
theorem wire_eq (a : List Coil) (l : List WirePiece) (n : Nat) (hn : 2000 ≤ n) : ∃ b, agraffelaw08_wire n a l = some b ∧ (b = true → a.length ≤ 43 ∧ l.length ≤ 63 ∧ ∀ c ∈ a, c.Name.length ≤ 20) := by
  rw [agraffelaw08_wire]
  cases h : ((((decide (6 < a.length)) && (decide (a.length ≤ 40))) || (decide (43 < a.length))) || ((decide (6 < l.length)) && (decide (l.length ≤ 60)))) || (decide (63 < l.length)) with
  | true => exact ⟨false, rfl, by simp⟩
  | false =>
    simp at h
    simp only [cond_false, withK_eq]
    rw [wire_loop a (by omega) _ n 0 (by omega), List.drop_zero]
    cases h2 : a.all (fun c => decide (c.Name.length ≤ 20)) with
    | false => exact ⟨false, rfl, by simp⟩
    | true =>
      refine ⟨true, rfl, fun _ => ⟨by omega, by omega, fun c hc => ?_⟩⟩
      have := List.all_eq_true.1 h2 c hc
      simpa using this
theorem own_loop (a2 : List (List Int)) (n0 : Nat) (h : a2.length ≤ 10) (k : List (List Int) → Option Bool) : ∀ (n v : Nat) (acc : List (List Int)), a2.length - v < n → acc = a2.take v → loopN (agraffelaw08_RestoreWire_L1 n0 a2 k) n (acc, v) = bif (a2.drop v).all (fun r => decide (r.length ≤ 110)) then k a2 else some true := by
  intro n
  induction n with
  | zero => intro v acc h; omega
  | succ n ih =>
    intro v acc hn ha
    rw [loopN_s, agraffelaw08_RestoreWire_L1]
    by_cases hv : v < a2.length
    · rw [drop_ix hv]
      have : decide ((ix a2 v).length ≤ 110) = !decide (110 < (ix a2 v).length) := by rw [← decide_not, decide_eq_decide]; omega
      simp only [hv, decide_true, cond_true, List.all_cons, this]
      cases h1 : decide (110 < (ix a2 v).length) with
      | true => rfl
      | false =>
        have h1' : (ix a2 v).length ≤ 110 := by simpa using h1
        have hlen : (acc ++ [ix a2 v]).length = v + 1 := by rw [ha]; simp; omega
        simp only [cond_false, agraffebase_CopyInts, room_of (by omega : (ix a2 v).length * 8 ≤ 140737488355328) (by omega), chk_t, Option.bind_some, hlen, room_of (by omega : (v + 1) * 24 ≤ 140737488355328) (by omega), nI_of (by omega : v + 1 ≤ 9223372036854775807), Bool.not_false, Bool.true_and]
        refine ih (v + 1) _ (by omega) ?_
        rw [ha, ix_eq hv]
        exact List.take_append_getElem hv
    · rw [drop_nil hv]
      have : acc = a2 := by rw [ha]; exact List.take_of_length_le (by omega)
      simp [hv, this]
theorem sum1_loop (a0 : List Coil) (rest : Int × List Int) (hc : a0.length ≤ 43) (hl : rest.2.length = a0.length) (h1 : ∀ x ∈ a0, 0 ≤ x.Length ∧ x.Length ≤ 1000000000) (h2 : ∀ x ∈ rest.2, 0 ≤ x ∧ x ≤ 1000000000) (k : Int → Option Bool) : ∀ (n v : Nat) (s : Int), a0.length - v < n → v ≤ a0.length → -(1000000000 * (v : Int)) ≤ s → s ≤ 1000000000 * (v : Int) →
    loopN (agraffelaw08_RestoreWire_L2 a0 rest k) n (s, v) = k (s + (lens (a0.drop v)).sum - (rest.2.drop v).sum) := by
  intro n
  induction n with
  | zero => intro v s h; omega
  | succ n ih =>
    intro v s hn hv hs1 hs2
    rw [loopN_s, agraffelaw08_RestoreWire_L2]
    by_cases h : v < a0.length
    · have hr : v < rest.2.length := by omega
      have b1 := h1 _ (ix_mem h)
      have b2 := h2 _ (ix_mem hr)
      rw [drop_ix h, drop_ix hr]
      simp only [h, hr, decide_true, cond_true, chk_t, inI_of (by omega : -9223372036854775808 ≤ s + (ix a0 v).Length) (by omega), inI_of (by omega : -9223372036854775808 ≤ s + (ix a0 v).Length - ix rest.2 v) (by omega), nI_of (by omega : v + 1 ≤ 9223372036854775807)]
      rw [ih (v + 1) _ (by omega) (by omega) (by omega) (by omega)]
      simp only [lens, List.map_cons, List.sum_cons]
      congr 1; omega
    · rw [drop_nil h, drop_nil (by omega : ¬ v < rest.2.length)]; simp [h, lens]
theorem mul_bd {a b : Int} (h1 : 1 ≤ a) (h2 : a ≤ 300000) (h3 : 1 ≤ b) (h4 : b ≤ 100) : 0 ≤ a * b ∧ a * b ≤ 30000000 := by
  have := Int.mul_le_mul h2 h4 (by omega) (by omega)
  have := Int.mul_nonneg (by omega : 0 ≤ a) (by omega : 0 ≤ b)
  omega
theorem sum2_loop (a1 : List WirePiece) (hc : a1.length ≤ 63) (hp : ∀ p ∈ a1, badPiece p = false) (k : Int → Option Bool) : ∀ (n v : Nat) (s : Int), a1.length - v < n → -1000000000000 ≤ s + 30000000 * (v : Int) → s ≤ 1000000000000 → v ≤ a1.length →
    loopN (agraffelaw08_RestoreWire_L3 a1 k) n (s, v) = k (s - need (a1.drop v)) := by
  intro n
  induction n with
  | zero => intro v s h; omega
  | succ n ih =>
    intro v s hn hs1 hs2 hv
    rw [loopN_s, agraffelaw08_RestoreWire_L3]
    by_cases h : v < a1.length
    · have hpv := hp _ (ix_mem h)
      have hp' : 1 ≤ (ix a1 v).Length ∧ (ix a1 v).Length ≤ 300000 ∧ 1 ≤ (ix a1 v).Count ∧ (ix a1 v).Count ≤ 100 := by simp [badPiece] at hpv; omega
      have b := mul_bd hp'.1 hp'.2.1 hp'.2.2.1 hp'.2.2.2
      rw [drop_ix h]
      simp only [h, decide_true, cond_true, chk_t, inI_of (by omega : -9223372036854775808 ≤ (ix a1 v).Length * (ix a1 v).Count) (by omega), inI_of (by omega : -9223372036854775808 ≤ s - (ix a1 v).Length * (ix a1 v).Count) (by omega), nI_of (by omega : v + 1 ≤ 9223372036854775807), need]
      rw [ih (v + 1) _ (by omega) (by omega) (by omega) (by omega)]
      congr 1; omega
    · rw [drop_nil h]; simp [h, need]
theorem play_len {c : List Coil} : ∀ {ps : List WirePiece} {rs : List (List Int)} {left : List Int}, (∀ p ∈ ps, badPiece p = false) → okLeft c left → (play c ps rs left).1 = 0 → okLeft c (play c ps rs left).2
  | [], rs, left, _, h, _ => by simpa [play] using h
  | p :: ps, [], left, _, h, _ => by simpa [play] using h
  | p :: ps, r :: rs, left, hp, h, h0 => by
    simp only [play] at h0 ⊢
    cases h1 : ((playRow c p r left).1 == 0) with
    | false => simp only [h1, cond_false] at h0; simp [h0] at h1
    | true =>
      simp only [h1, cond_true] at h0 ⊢
      exact play_len (fun q hq => hp q (by simp [hq])) (playRow_ok (hp p (by simp)) h (by simpa using h1)) h0
theorem checkCuts_len {c : List Coil} {l : List WirePiece} {cuts : List (List Int)} (hw : wireErr c l = 0) : (checkCuts c l cuts).2.length ≤ 43 := by
  obtain ⟨hc2, hl2, hbc, hbp⟩ := wireErr_ok hw
  unfold checkCuts
  cases (!decide (cuts.length = l.length)) with
  | true => simp
  | false =>
    cases shapes l cuts with
    | false => simp
    | true =>
      simp only [cond_false, cond_true]
      cases h : ((play c l cuts (lens c)).1 == 0) with
      | false => simp
      | true =>
        have := play_len (rs := cuts) hbp (lens_ok hbc) (by simpa using h)
        simp only [cond_true]
        have := this.1
        omega
theorem awake_true : agraffelaw08_awake 2000 = some true := by kernel_rfl
theorem pure_RestoreWire (a0 : List Coil) (a1 : List WirePiece) (a2 : List (List Int)) : agraffelaw08_RestoreWire 2000 a0 a1 a2 = some true := by
  rw [agraffelaw08_RestoreWire, awake_true]
  obtain ⟨b, hb, hb2⟩ := wire_eq a0 a1 2000 (Nat.le_refl _)
  simp only [Option.bind_some, Bool.not_true, cond_false, hb]
  cases b with
  | false => rfl
  | true =>
    obtain ⟨hc, hl, hn⟩ := hb2 rfl
    cases h10 : decide (10 < a2.length) with
    | true => rfl
    | false =>
      have h10' : a2.length ≤ 10 := by simpa using h10
      simp only [Bool.not_true, Bool.or_false, cond_false, withK_eq]
      rw [own_loop a2 2000 h10' _ 2000 0 [] (by omega) (by simp), List.drop_zero]
      cases h110 : a2.all (fun r => decide (r.length ≤ 110)) with
      | false => rfl
      | true =>
        have hr : ∀ r ∈ a2, r.length < 1000 := by
          intro r hr
          have := List.all_eq_true.1 h110 r hr
          have : r.length ≤ 110 := by simpa using this
          omega
        simp only [cond_true, room_of (by omega : a0.length * 32 ≤ 140737488355328) (by omega), room_of (by omega : a1.length * 24 ≤ 140737488355328) (by omega), chk_t,
          cutFirst_eq a0 a1 2000 (Nat.le_refl _) hn (by omega) (by omega), checkCuts_eq a0 a1 a2 2000 (Nat.le_refl _) hn (by omega) (by omega) hr, CheckWire_eq a0 a1 2000 (Nat.le_refl _) hn (by omega) (by omega), Option.bind_some]
        cases hw : (wireErr a0 a1 != 0) with
        | true => simp [nI]
        | false =>
          have hw' : wireErr a0 a1 = 0 := by simpa using hw
          obtain ⟨hc2, hl2, hbc, hbp⟩ := wireErr_ok hw'
          have hlen := checkCuts_len (cuts := a2) hw'
          simp only [cond_false, CheckCuts_eq a0 a1 a2 2000 (Nat.le_refl _) hw' hr, Option.bind_some, Ints_refl (checkCuts a0 a1 a2).2 (by omega) 2000 (by omega), gcall_some_, bne_self_eq_false, Bool.not_false, cond_true, Bool.false_or, Bool.not_true, CutFirst_eq a0 a1 2000 (Nat.le_refl _) hw']
          cases hcut : cutAll a0 a1 [] (lens a0) with
          | none => rfl
          | some o =>
            obtain ⟨rows, left', f1, f2, f3, f4, f5, f6, f7⟩ := cutAll_play hbp (lens_ok hbc) hcut
            simp only [List.nil_append] at f1
            subst f1
            have hcc : checkCuts a0 a1 o = (0, left') := by
              unfold checkCuts
              simp [f2, f3, f4]
            have ho : ∀ r ∈ o, r.length < 1000 := fun r hr => by have := f7 r hr; omega
            simp only [Bool.not_true, cond_false, Lists_refl o 2000 (by omega) ho (Nat.le_refl _), gcall_some_, Option.bind_some, bne_self_eq_false, Bool.not_false, cond_true, Bool.false_or, checkCuts_eq a0 a1 o 2000 (Nat.le_refl _) hn (by omega) (by omega) ho, hw, hcc, f6.1, decide_true]
            rw [sum1_loop a0 (0, left') hc f6.1 (fun x hx => by have := hbc x hx; simp [badCoil] at this; omega) f6.2 _ 2000 0 0 (by omega) (by omega) (by simp) (by simp), List.drop_zero, List.drop_zero]
            have hneed : lens a0 = (lens a0) := rfl
            have hdiff : (0 : Int) + (lens a0).sum - left'.sum = need a1 := by omega
            have hbd : 0 ≤ need a1 ∧ need a1 ≤ 30000000 * 63 := by
              have : ∀ l : List WirePiece, (∀ p ∈ l, badPiece p = false) → 0 ≤ need l ∧ need l ≤ 30000000 * (l.length : Int) := by
                intro l
                induction l with
                | nil => intro _; simp [need]
                | cons p r ih =>
                  intro h
                  have hpv := h p (by simp)
                  have hp' : 1 ≤ p.Length ∧ p.Length ≤ 300000 ∧ 1 ≤ p.Count ∧ p.Count ≤ 100 := by simp [badPiece] at hpv; omega
                  have b := mul_bd hp'.1 hp'.2.1 hp'.2.2.1 hp'.2.2.2
                  have := ih (fun q hq => h q (by simp [hq]))
                  simp only [need, List.length_cons]
                  omega
              have := this a1 hbp
              omega
            simp only [hdiff]
            rw [sum2_loop a1 hl hbp _ 2000 0 _ (by omega) (by omega) (by omega) (by omega), List.drop_zero]
            simp
end
end Go.Proofs.YtcdcpambkdlhjaaGreat.As
