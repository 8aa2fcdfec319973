/- What the functions compute, on plain data, and what follows from it, part 1: no condition. -/
import Derived.Test.YtchkkpbkgghcoaaGreatDoorGround3
namespace Go.Proofs.YtchkkpbkgghcoaaGreatDoor.As
open Go
section
set_option maxRecDepth 4000
open Go
structure PartCount where
  Part : Str
  Count : Int
  deriving Inhabited, DecidableEq
def ePartCount (x : PartCount) : V := .agg [vt x.Part, vi x.Count]
theorem ePartCount_frz (x : PartCount) : (ePartCount x).frz = true := rfl
theorem ePartCount_frzE (x : PartCount) : frzE (ePartCount x) = true := rfl
structure Task where
  Name : Str
  Cents : Int
  Hours : Int
  Needs : List Str
  OneOf : List (List Str)
  Parts : List PartCount
  deriving Inhabited, DecidableEq
def eTask (x : Task) : V := .agg [vt x.Name, vi x.Cents, vi x.Hours, eS 1 vt x.Needs, eS 1 (eS 1 vt) x.OneOf, eS 2 ePartCount x.Parts]
theorem eTask_frz (x : Task) : (eTask x).frz = true := rfl
theorem eTask_frzE (x : Task) : frzE (eTask x) = true := rfl
def agraffelaw08_awake (n : Nat) : Option Bool := some true
def agraffelaw08_texts_L1 (a0 : List Str) (k1 : (Unit → Option Bool)) (back : Nat → Option Bool) : Nat → Option Bool
  | v1 =>
  bif decide (v1 < a0.length) then
    bif decide (20 < ((ix a0 v1).length)) then
      some false
    else
      chk (nI (v1 + 1)) <|
      back (v1 + 1)
  else
    k1 ()
def agraffelaw08_texts (n : Nat) (a0 : List Str) (a1 : Int) : Option Bool :=
  bif decide (a1 < ((a0.length : Nat) : Int)) then
    some false
  else
    withK (fun (_ : Unit) =>
        some true) fun k1 =>
    loopN (agraffelaw08_texts_L1 a0 k1) n 0
def agraffelaw08_Few_L2 (a0 : List Task) (v6 : Nat) (k2 : (Unit → Option Bool)) (back : Nat → Option Bool) : Nat → Option Bool
  | v11 =>
  bif decide (v11 < (((ix a0 v6).Parts).length)) then
    chk (decide (v11 < ((ix a0 v6).Parts).length)) <|
    bif decide (20 < (((ix ((ix a0 v6).Parts) v11).Part).length)) then
      some false
    else
      chk (nI (v11 + 1)) <|
      back (v11 + 1)
  else
    k2 ()
def agraffelaw08_Few_L1 (n : Nat) (a0 : List Task) (v6 : Nat) (k1 : (Unit → Option Bool)) (back : Nat → Option Bool) : Nat → Option Bool
  | v9 =>
  bif decide (v9 < (((ix a0 v6).OneOf).length)) then
    chk (decide (v9 < ((ix a0 v6).OneOf).length)) <|
    (agraffelaw08_texts n (ix ((ix a0 v6).OneOf) v9) 9).bind fun y10 =>
    bif !y10 then
      some false
    else
      chk (nI (v9 + 1)) <|
      back (v9 + 1)
  else
    k1 ()
def agraffelaw08_Few_L3 (n : Nat) (a0 : List Task) (k3 : (Unit → Option Bool)) (back : Nat → Option Bool) : Nat → Option Bool
  | v6 =>
  bif decide (v6 < a0.length) then
    withK (fun (_ : Unit) =>
        chk (nI (v6 + 1)) <|
        back (v6 + 1)) fun k2 =>
    (gcall (!(decide (20 < (((ix a0 v6).Name).length)))) (agraffelaw08_texts n ((ix a0 v6).Needs) 13)).bind fun y7 =>
    bif (((decide (20 < (((ix a0 v6).Name).length))) || (!y7)) || (decide (9 < (((ix a0 v6).OneOf).length)))) || (decide (13 < (((ix a0 v6).Parts).length))) then
      some false
    else
      withK (fun (_ : Unit) =>
          loopN (agraffelaw08_Few_L2 a0 v6 k2) n 0) fun k1 =>
      loopN (agraffelaw08_Few_L1 n a0 v6 k1) n 0
  else
    k3 ()
def agraffelaw08_Few (n : Nat) (a0 : List Task) : Option Bool :=
  bif ((decide (9 < a0.length)) && (decide (a0.length ≤ 60))) || (decide (63 < a0.length)) then
    some false
  else
    withK (fun (_ : Unit) =>
        some true) fun k3 =>
    loopN (agraffelaw08_Few_L3 n a0 k3) n 0
def agraffebase_CopyTexts (n : Nat) (a0 : List Str) : Option Unit :=
  chk (room 16 a0.length) <|
  some ()
def agraffebase_CopyTexts_2 (n : Nat) (a0 : List Str) : Option Unit :=
  chk (room 16 a0.length) <|
  some ()
def agraffelaw08_Copied_L1 (n : Nat) (v7 : Nat) (v8 : List Task) (k1 : ((List (List Str)) → Option (List Task))) (back : Nat × (List (List Str)) → Option (List Task)) : Nat × (List (List Str)) → Option (List Task)
  | (v11, v12) =>
  bif decide (v11 < (((ix (List.set (List.set v8 v7 (ix v8 v7)) v7 (ix (List.set v8 v7 (ix v8 v7)) v7)) v7).OneOf).length)) then
    chk (decide (v11 < ((ix (List.set (List.set v8 v7 (ix v8 v7)) v7 (ix (List.set v8 v7 (ix v8 v7)) v7)) v7).OneOf).length)) <|
    (agraffebase_CopyTexts_2 n (ix ((ix (List.set (List.set v8 v7 (ix v8 v7)) v7 (ix (List.set v8 v7 (ix v8 v7)) v7)) v7).OneOf) v11)).bind fun y13 =>
    chk (room 24 (v12 ++ ([(ix ((ix (List.set (List.set v8 v7 (ix v8 v7)) v7 (ix (List.set v8 v7 (ix v8 v7)) v7)) v7).OneOf) v11)] : List (List Str))).length) <|
    chk (nI (v11 + 1)) <|
    back (v11 + 1, (v12 ++ ([(ix ((ix (List.set (List.set v8 v7 (ix v8 v7)) v7 (ix (List.set v8 v7 (ix v8 v7)) v7)) v7).OneOf) v11)] : List (List Str))))
  else
    k1 v12
def agraffelaw08_Copied_L2 (n : Nat) (k2 : ((List Task) → Option (List Task))) (back : Nat × (List Task) → Option (List Task)) : Nat × (List Task) → Option (List Task)
  | (v7, v8) =>
  bif decide (v7 < v8.length) then
    withK (fun (v14 : (List (List Str))) =>
        chk (nI (v7 + 1)) <|
        back (v7 + 1, (List.set (List.set (List.set v8 v7 (ix v8 v7)) v7 (ix (List.set v8 v7 (ix v8 v7)) v7)) v7 (Task.mk ((ix (List.set (List.set v8 v7 (ix v8 v7)) v7 (ix (List.set v8 v7 (ix v8 v7)) v7)) v7).Name) ((ix (List.set (List.set v8 v7 (ix v8 v7)) v7 (ix (List.set v8 v7 (ix v8 v7)) v7)) v7).Cents) ((ix (List.set (List.set v8 v7 (ix v8 v7)) v7 (ix (List.set v8 v7 (ix v8 v7)) v7)) v7).Hours) ((ix (List.set (List.set v8 v7 (ix v8 v7)) v7 (ix (List.set v8 v7 (ix v8 v7)) v7)) v7).Needs) v14 ((ix (List.set (List.set v8 v7 (ix v8 v7)) v7 (ix (List.set v8 v7 (ix v8 v7)) v7)) v7).Parts))))) fun k1 =>
    (agraffebase_CopyTexts n ((ix v8 v7).Needs)).bind fun y9 =>
    chk (decide (v7 < (List.set v8 v7 (ix v8 v7)).length)) <|
    chk (room 24 ((ix (List.set v8 v7 (ix v8 v7)) v7).Parts).length) <|
    chk (decide (v7 < (List.set (List.set v8 v7 (ix v8 v7)) v7 (ix (List.set v8 v7 (ix v8 v7)) v7)).length)) <|
    loopN (agraffelaw08_Copied_L1 n v7 v8 k1) n (0, ([] : List (List Str)))
  else
    k2 v8
def agraffelaw08_Copied (n : Nat) (a0 : List Task) : Option (List Task) :=
  chk (room 104 a0.length) <|
  withK (fun (v15 : (List Task)) =>
      some v15) fun k2 =>
  loopN (agraffelaw08_Copied_L2 n k2) n (0, a0)
def restore_isName_L1 (a0 : Str) (k1 : (Unit → Option Bool)) (back : Nat → Option Bool) : Nat → Option Bool
  | v1 =>
  bif decide (v1 < a0.length) then
    bif (!(((decide ((97 : Int) ≤ (((ix a0 v1).toNat : Nat) : Int))) && (decide ((((ix a0 v1).toNat : Nat) : Int) ≤ (122 : Int)))) || ((decide ((65 : Int) ≤ (((ix a0 v1).toNat : Nat) : Int))) && (decide ((((ix a0 v1).toNat : Nat) : Int) ≤ (90 : Int)))))) && ((decide (v1 = 0)) || (((((ix a0 v1).toNat : Nat) : Int) != (45 : Int)) && ((decide ((((ix a0 v1).toNat : Nat) : Int) < (48 : Int))) || (decide ((57 : Int) < (((ix a0 v1).toNat : Nat) : Int)))))) then
      some false
    else
      chk (nI (v1 + 1)) <|
      back (v1 + 1)
  else
    k1 ()
def restore_isName (n : Nat) (a0 : Str) : Option Bool :=
  withK (fun (_ : Unit) =>
      some ((!(a0 == ([] : Str))) && (decide (a0.length ≤ 12)))) fun k1 =>
  loopN (restore_isName_L1 a0 k1) n 0
def restore_list_find_f1 (n : Nat) (a0 : Task) (a1 : Str) : Option Unit :=
  some ()
def slices_IndexFunc_Task_L1 (n : Nat) (a0 : List Task) (a1 : Str) (k1 : (Unit → Option Int)) (back : Nat → Option Int) : Nat → Option Int
  | v2 =>
  bif decide (v2 < a0.length) then
    (restore_list_find_f1 n (ix a0 v2) a1).bind fun y3 =>
    bif ((ix a0 v2).Name == a1) then
      some ((v2 : Nat) : Int)
    else
      chk (nI (v2 + 1)) <|
      back (v2 + 1)
  else
    k1 ()
def slices_IndexFunc_Task (n : Nat) (a0 : List Task) (a1 : Str) : Option Int :=
  withK (fun (_ : Unit) =>
      some (-1)) fun k1 =>
  loopN (slices_IndexFunc_Task_L1 n a0 a1 k1) n 0
def restore_list_find (n : Nat) (a0 : List Task) (a1 : Str) : Option Int :=
  (slices_IndexFunc_Task n a0 a1).bind fun y1 =>
  some y1
def restore_within (n : Nat) (a0 : Int) (a1 : Int) (a2 : Int) : Option Unit :=
  some ()
def restore_list_checkTask_f1 (n : Nat) (a0 : List Str) : Option Unit :=
  some ()
def slices_IndexFunc_string_L1 (n : Nat) (a0 : List (List Str)) (k1 : (Unit → Option Int)) (back : Nat → Option Int) : Nat → Option Int
  | v2 =>
  bif decide (v2 < a0.length) then
    (restore_list_checkTask_f1 n (ix a0 v2)).bind fun y3 =>
    bif decide (6 < (ix a0 v2).length) then
      some ((v2 : Nat) : Int)
    else
      chk (nI (v2 + 1)) <|
      back (v2 + 1)
  else
    k1 ()
def slices_IndexFunc_string (n : Nat) (a0 : List (List Str)) : Option Int :=
  withK (fun (_ : Unit) =>
      some (-1)) fun k1 =>
  loopN (slices_IndexFunc_string_L1 n a0 k1) n 0
def slices_ContainsFunc_string (n : Nat) (a0 : List (List Str)) : Option Bool :=
  (slices_IndexFunc_string n a0).bind fun y1 =>
  some (decide ((0 : Int) ≤ y1))
def slices_Index_string_L1 (a0 : List Str) (a1 : Str) (k1 : (Unit → Option Int)) (back : Nat → Option Int) : Nat → Option Int
  | v1 =>
  bif decide (v1 < a0.length) then
    bif (a1 == (ix a0 v1)) then
      some ((v1 : Nat) : Int)
    else
      chk (nI (v1 + 1)) <|
      back (v1 + 1)
  else
    k1 ()
def slices_Index_string (n : Nat) (a0 : List Str) (a1 : Str) : Option Int :=
  withK (fun (_ : Unit) =>
      some (-1)) fun k1 =>
  loopN (slices_Index_string_L1 a0 a1 k1) n 0
def slices_Contains_string (n : Nat) (a0 : List Str) (a1 : Str) : Option Bool :=
  (slices_Index_string n a0 a1).bind fun y1 =>
  some (decide ((0 : Int) ≤ y1))
def restore_list_known_L1 (n : Nat) (a0 : List Task) (a1 : List Str) (k1 : (Unit → Option Int)) (back : Nat → Option Int) : Nat → Option Int
  | v3 =>
  bif decide (v3 < a1.length) then
    (restore_list_find n a0 (ix a1 v3)).bind fun y4 =>
    bif decide (y4 < (0 : Int)) then
      some 6
    else
      chk (decide (v3 ≤ a1.length)) <|
      (slices_Contains_string n (List.take v3 a1) (ix a1 v3)).bind fun y5 =>
      bif y5 then
        some 5
      else
        chk (nI (v3 + 1)) <|
        back (v3 + 1)
  else
    k1 ()
def restore_list_known (n : Nat) (a0 : List Task) (a1 : List Str) : Option Int :=
  withK (fun (_ : Unit) =>
      some 0) fun k1 =>
  loopN (restore_list_known_L1 n a0 a1 k1) n 0
def restore_checkCounts_f1 (n : Nat) (a0 : PartCount) (a1 : Str) (a2 : Int) : Option Unit :=
  some ()
def slices_IndexFunc_PartCount_L1 (n : Nat) (a0 : List PartCount) (a1 : Str) (a2 : Int) (k1 : (Unit → Option Int)) (back : Nat → Option Int) : Nat → Option Int
  | v2 =>
  bif decide (v2 < a0.length) then
    (restore_checkCounts_f1 n (ix a0 v2) a1 a2).bind fun y3 =>
    bif ((ix a0 v2).Part == a1) then
      some ((v2 : Nat) : Int)
    else
      chk (nI (v2 + 1)) <|
      back (v2 + 1)
  else
    k1 ()
def slices_IndexFunc_PartCount (n : Nat) (a0 : List PartCount) (a1 : Str) (a2 : Int) : Option Int :=
  withK (fun (_ : Unit) =>
      some (-1)) fun k1 =>
  loopN (slices_IndexFunc_PartCount_L1 n a0 a1 a2 k1) n 0
def slices_ContainsFunc_PartCount (n : Nat) (a0 : List PartCount) (a1 : Str) (a2 : Int) : Option Bool :=
  (slices_IndexFunc_PartCount n a0 a1 a2).bind fun y1 =>
  some (decide ((0 : Int) ≤ y1))
def restore_checkCounts_L1 (n : Nat) (a0 : List PartCount) (a1 : Int) (k1 : (Unit → Option Int)) (back : Nat → Option Int) : Nat → Option Int
  | v4 =>
  bif decide (v4 < a0.length) then
    (restore_isName n ((ix a0 v4).Part)).bind fun y5 =>
    bif !y5 then
      some 4
    else
      chk (decide (v4 ≤ a0.length)) <|
      (slices_ContainsFunc_PartCount n (List.take v4 a0) ((ix a0 v4).Part) ((ix a0 v4).Count)).bind fun y6 =>
      bif y6 then
        some 5
      else
        (restore_within n ((ix a0 v4).Count) 1 a1).bind fun y7 =>
        bif !((decide (1 ≤ ((ix a0 v4).Count))) && (decide (((ix a0 v4).Count) ≤ a1))) then
          some 2
        else
          chk (nI (v4 + 1)) <|
          back (v4 + 1)
  else
    k1 ()
def restore_checkCounts (n : Nat) (a0 : List PartCount) (a1 : Int) : Option Int :=
  withK (fun (_ : Unit) =>
      some 0) fun k1 =>
  loopN (restore_checkCounts_L1 n a0 a1 k1) n 0
def restore_list_checkTask_L1 (n : Nat) (a0 : List Task) (a1 : Int) (k1 : (Unit → Option Int)) (back : Nat → Option Int) : Nat → Option Int
  | v8 =>
  bif decide (v8 < (((ix a0 a1.toNat).OneOf).length)) then
    chk (decide (v8 < ((ix a0 a1.toNat).OneOf).length)) <|
    bif decide (((ix ((ix a0 a1.toNat).OneOf) v8).length) = 0) then
      some 10
    else
      (restore_list_known n a0 (ix ((ix a0 a1.toNat).OneOf) v8)).bind fun y9 =>
      bif (y9 != (0 : Int)) then
        some y9
      else
        chk (nI (v8 + 1)) <|
        back (v8 + 1)
  else
    k1 ()
def restore_list_checkTask (n : Nat) (a0 : List Task) (a1 : Int) : Option Int :=
  chk (inB a1 a0.length) <|
  chk (decide (a1.toNat < a0.length)) <|
  (restore_isName n ((ix a0 a1.toNat).Name)).bind fun y1 =>
  bif !y1 then
    some 4
  else
    (restore_list_find n a0 ((ix a0 a1.toNat).Name)).bind fun y2 =>
    bif decide (y2 < a1) then
      some 5
    else
      (restore_within n ((ix a0 a1.toNat).Cents) 0 1000000000).bind fun y3 =>
      (gcall (!(!((decide (0 ≤ ((ix a0 a1.toNat).Cents))) && (decide (((ix a0 a1.toNat).Cents) ≤ 1000000000))))) (restore_within n ((ix a0 a1.toNat).Hours) 0 10000)).bind fun y4 =>
      bif (!((decide (0 ≤ ((ix a0 a1.toNat).Cents))) && (decide (((ix a0 a1.toNat).Cents) ≤ 1000000000)))) || (!((decide (0 ≤ ((ix a0 a1.toNat).Hours))) && (decide (((ix a0 a1.toNat).Hours) ≤ 10000)))) then
        some 2
      else
        (gcall (!((decide (10 < (((ix a0 a1.toNat).Needs).length))) || (decide (6 < (((ix a0 a1.toNat).OneOf).length))))) (slices_ContainsFunc_string n ((ix a0 a1.toNat).OneOf))).bind fun y5 =>
        bif (((decide (10 < (((ix a0 a1.toNat).Needs).length))) || (decide (6 < (((ix a0 a1.toNat).OneOf).length)))) || y5) || (decide (10 < (((ix a0 a1.toNat).Parts).length))) then
          some 8
        else
          (restore_list_known n a0 ((ix a0 a1.toNat).Needs)).bind fun y6 =>
          bif (y6 != (0 : Int)) then
            some y6
          else
            withK (fun (_ : Unit) =>
                (restore_checkCounts n ((ix a0 a1.toNat).Parts) 1000).bind fun y10 =>
                some y10) fun k1 =>
            loopN (restore_list_checkTask_L1 n a0 a1 k1) n 0
def restore_CheckTasks_f1 (n : Nat) (a0 : Str) : Option Unit :=
  some ()
def slices_Grow_string (n : Nat) (a0 : Int) : Option (List Str) :=
  bif decide (a0 < (0 : Int)) then
    none
  else
    withK (fun (v1 : (List Str)) =>
        some v1) fun k1 =>
    chk (inI ((0 : Int) - 0)) <|
    chk (inI (a0 - ((0 : Int) - 0))) <|
    bif decide ((0 : Int) < (a0 - ((0 : Int) - 0))) then
      chk (decide (0 ≤ (a0 - ((0 : Int) - 0)))) <|
      chk (decide (0 < (a0 - ((0 : Int) - 0)).toNat)) <|
      chk (room 16 ((a0 - ((0 : Int) - 0)).toNat)) <|
      chk (decide (0 ≤ ((a0 - ((0 : Int) - 0)).toNat))) <|
      k1 ([] : List Str)
    else
      k1 ([] : List Str)
def slices_Concat_string_L2 (a0 : List (List Str)) (k2 : ((List Str) → Option (List Str))) (back : Nat × (List Str) → Option (List Str)) : Nat × (List Str) → Option (List Str)
  | (v5, v6) =>
  bif decide (v5 < a0.length) then
    chk (room 16 (v6 ++ (ix a0 v5)).length) <|
    chk (nI (v5 + 1)) <|
    back (v5 + 1, (v6 ++ (ix a0 v5)))
  else
    k2 v6
def slices_Concat_string_L1 (a0 : List (List Str)) (k1 : (Nat → Option (List Str))) (back : Nat × Nat → Option (List Str)) : Nat × Nat → Option (List Str)
  | (v1, v2) =>
  bif decide (v2 < a0.length) then
    chk (nI (v1 + ((ix a0 v2).length))) <|
    bif decide ((v1 + ((ix a0 v2).length)) < 0) then
      none
    else
      chk (nI (v2 + 1)) <|
      back (v1 + ((ix a0 v2).length), v2 + 1)
  else
    k1 v1
def slices_Concat_string (n : Nat) (a0 : List (List Str)) : Option (List Str) :=
  withK (fun (v3 : Nat) =>
      (slices_Grow_string n ((v3 : Nat) : Int)).bind fun y4 =>
      withK (fun (v7 : (List Str)) =>
          some v7) fun k2 =>
      loopN (slices_Concat_string_L2 a0 k2) n (0, y4)) fun k1 =>
  loopN (slices_Concat_string_L1 a0 k1) n (0, 0)
def restore_leads (n : Nat) (a0 : Task) : Option (List Str) :=
  chk (room 24 (([a0.Needs] : List (List Str)) ++ a0.OneOf).length) <|
  (slices_Concat_string n (([a0.Needs] : List (List Str)) ++ a0.OneOf)).bind fun y1 =>
  some y1
def slices_Index_string_2_L1 (a0 : List Str) (a1 : Str) (k1 : (Unit → Option Int)) (back : Nat → Option Int) : Nat → Option Int
  | v1 =>
  bif decide (v1 < a0.length) then
    bif (a1 == (ix a0 v1)) then
      some ((v1 : Nat) : Int)
    else
      chk (nI (v1 + 1)) <|
      back (v1 + 1)
  else
    k1 ()
def slices_Index_string_2 (n : Nat) (a0 : List Str) (a1 : Str) : Option Int :=
  withK (fun (_ : Unit) =>
      some (-1)) fun k1 =>
  loopN (slices_Index_string_2_L1 a0 a1 k1) n 0
def slices_Contains_string_2 (n : Nat) (a0 : List Str) (a1 : Str) : Option Bool :=
  (slices_Index_string_2 n a0 a1).bind fun y1 =>
  some (decide ((0 : Int) ≤ y1))
def restore_list_order_f1_2 (n : Nat) (a0 : Str) (a1 : List Str) : Option Bool :=
  (restore_CheckTasks_f1 n a0).bind fun y1 =>
  (gcall true (slices_Contains_string_2 n a1 a0)).bind fun y2 =>
  some (true && (!y2))
def slices_IndexFunc_string_3_L1 (n : Nat) (a0 : List Str) (a1 : List Str) (k1 : (Unit → Option Int)) (back : Nat → Option Int) : Nat → Option Int
  | v2 =>
  bif decide (v2 < a0.length) then
    (restore_list_order_f1_2 n (ix a0 v2) a1).bind fun y3 =>
    bif y3 then
      some ((v2 : Nat) : Int)
    else
      chk (nI (v2 + 1)) <|
      back (v2 + 1)
  else
    k1 ()
def slices_IndexFunc_string_3 (n : Nat) (a0 : List Str) (a1 : List Str) : Option Int :=
  withK (fun (_ : Unit) =>
      some (-1)) fun k1 =>
  loopN (slices_IndexFunc_string_3_L1 n a0 a1 k1) n 0
def slices_ContainsFunc_string_3 (n : Nat) (a0 : List Str) (a1 : List Str) : Option Bool :=
  (slices_IndexFunc_string_3 n a0 a1).bind fun y1 =>
  some (decide ((0 : Int) ≤ y1))
def restore_list_order_f2_2 (n : Nat) (a0 : Task) (a1 : List Str) : Option Bool :=
  (restore_list_order_f1_2 n a0.Name a1).bind fun y1 =>
  (gcall y1 (restore_leads n a0)).bind fun y2 =>
  (gcall y1 (slices_ContainsFunc_string_3 n y2 a1)).bind fun y3 =>
  some (y1 && (!y3))
def slices_IndexFunc_Task_3_L1 (n : Nat) (a0 : List Task) (a1 : List Str) (k1 : (Unit → Option Int)) (back : Nat → Option Int) : Nat → Option Int
  | v2 =>
  bif decide (v2 < a0.length) then
    (restore_list_order_f2_2 n (ix a0 v2) a1).bind fun y3 =>
    bif y3 then
      some ((v2 : Nat) : Int)
    else
      chk (nI (v2 + 1)) <|
      back (v2 + 1)
  else
    k1 ()
def slices_IndexFunc_Task_3 (n : Nat) (a0 : List Task) (a1 : List Str) : Option Int :=
  withK (fun (_ : Unit) =>
      some (-1)) fun k1 =>
  loopN (slices_IndexFunc_Task_3_L1 n a0 a1 k1) n 0
def restore_list_order_L1 (n : Nat) (a0 : List Task) (back : (List Str) → Option (List Str)) : (List Str) → Option (List Str)
  | v2 =>
  (slices_IndexFunc_Task_3 n a0 v2).bind fun y3 =>
  bif decide (y3 < (0 : Int)) then
    some v2
  else
    chk (inB y3 a0.length) <|
    chk (decide (y3.toNat < a0.length)) <|
    chk (room 16 (v2 ++ ([(ix a0 y3.toNat).Name] : List Str)).length) <|
    back (v2 ++ ([(ix a0 y3.toNat).Name] : List Str))
def restore_list_order (n : Nat) (a0 : List Task) : Option (List Str) :=
  loopN (restore_list_order_L1 n a0) n ([] : List Str)
def restore_CheckTasks_L1 (n : Nat) (a0 : List Task) (k1 : (Unit → Option Int)) (back : Nat → Option Int) : Nat → Option Int
  | v2 =>
  bif decide (v2 < a0.length) then
    (restore_list_checkTask n a0 ((v2 : Nat) : Int)).bind fun y3 =>
    bif (y3 != (0 : Int)) then
      some y3
    else
      chk (nI (v2 + 1)) <|
      back (v2 + 1)
  else
    k1 ()
def restore_CheckTasks (n : Nat) (a0 : List Task) : Option Int :=
  bif decide (60 < a0.length) then
    some 8
  else
    withK (fun (_ : Unit) =>
        (restore_list_order n a0).bind fun y4 =>
        bif decide (y4.length < a0.length) then
          some 21
        else
          some 0) fun k1 =>
    loopN (restore_CheckTasks_L1 n a0 k1) n 0
def strconv_Itoa (n : Nat) (a0 : Int) : Option Str :=
  chk (inI a0) <|
  some (itoaL a0)
def strings_Join (n : Nat) (a0 : List Str) (a1 : Str) : Option Str :=
  chk (Nat.ble a0.length 140737488355328) <|
  chk (Nat.ble (joinL a0 a1).length 140737488355328) <|
  some (joinL a0 a1)
def strings_Builder_WriteString (n : Nat) (a0 : Str) (a1 : Str) : Option Str :=
  chk (Nat.blt 0 a1.length) <|
  chk (Nat.ble (a0.length + a1.length) 140737488355328) <|
  some (a0 ++ a1)
def restore_Print_f1 (n : Nat) (a0 : List Str) (a1 : Str) : Option Str :=
  (strings_Join n a0 ([32] : Str)).bind fun y1 =>
  chk (nI (y1 ++ ([10] : Str)).length) <|
  (strings_Builder_WriteString n a1 (y1 ++ ([10] : Str))).bind fun y2 =>
  some y2
def strings_Join_2 (n : Nat) (a0 : List Str) (a1 : Str) : Option Str :=
  chk (Nat.ble a0.length 140737488355328) <|
  chk (Nat.ble (joinL a0 a1).length 140737488355328) <|
  some (joinL a0 a1)
def restore_Print_f1_2 (n : Nat) (a0 : List Str) (a1 : Str) : Option Str :=
  (strings_Join_2 n a0 ([32] : Str)).bind fun y1 =>
  chk (nI (y1 ++ ([10] : Str)).length) <|
  (strings_Builder_WriteString n a1 (y1 ++ ([10] : Str))).bind fun y2 =>
  some y2
def strings_Builder_String (n : Nat) (a0 : Str) : Option Str :=
  some a0
def restore_Print_L2 (n : Nat) (a0 : List Task) (v22 : Nat) (k3 : (Str → Option (Int × Str))) (back : Nat × Str → Option (Int × Str)) : Nat × Str → Option (Int × Str)
  | (v39, v40) =>
  bif decide (v39 < (((ix a0 v22).Parts).length)) then
    chk (decide (v39 < ((ix a0 v22).Parts).length)) <|
    (strconv_Itoa n ((ix ((ix a0 v22).Parts) v39).Count)).bind fun y41 =>
    (restore_Print_f1 n ([([112, 97, 114, 116] : Str), (ix ((ix a0 v22).Parts) v39).Part, y41] : List Str) v40).bind fun y42 =>
    chk (nI (v39 + 1)) <|
    back (v39 + 1, y42)
  else
    k3 v40
def restore_Print_L1 (n : Nat) (a0 : List Task) (v22 : Nat) (k2 : (Str → Option (Int × Str))) (back : Nat × Str → Option (Int × Str)) : Nat × Str → Option (Int × Str)
  | (v32, v33) =>
  bif decide (v32 < (((ix a0 v22).OneOf).length)) then
    chk (decide (v32 < ((ix a0 v22).OneOf).length)) <|
    (slices_Concat_string n ([([([111, 110, 101, 111, 102] : Str)] : List Str), (ix ((ix a0 v22).OneOf) v32)] : List (List Str))).bind fun y34 =>
    (restore_Print_f1_2 n y34 v33).bind fun y35 =>
    chk (nI (v32 + 1)) <|
    back (v32 + 1, y35)
  else
    k2 v33
def restore_Print_L3 (n : Nat) (a0 : List Task) (k4 : (Str → Option (Int × Str))) (back : Nat × Str → Option (Int × Str)) : Nat × Str → Option (Int × Str)
  | (v22, v23) =>
  bif decide (v22 < a0.length) then
    withK (fun (v43 : Str) =>
        chk (nI (v22 + 1)) <|
        back (v22 + 1, v43)) fun k3 =>
    (strconv_Itoa n ((ix a0 v22).Cents)).bind fun y24 =>
    (strconv_Itoa n ((ix a0 v22).Hours)).bind fun y25 =>
    (restore_Print_f1 n ([([116, 97, 115, 107] : Str), (ix a0 v22).Name, y24, y25] : List Str) v23).bind fun y26 =>
    withK (fun (v29 : Str) =>
        withK (fun (v36 : Str) =>
            loopN (restore_Print_L2 n a0 v22 k3) n (0, v36)) fun k2 =>
        loopN (restore_Print_L1 n a0 v22 k2) n (0, v29)) fun k1 =>
    bif decide (0 < (((ix a0 v22).Needs).length)) then
      (slices_Concat_string n ([([([110, 101, 101, 100, 115] : Str)] : List Str), (ix a0 v22).Needs] : List (List Str))).bind fun y27 =>
      (restore_Print_f1_2 n y27 y26).bind fun y28 =>
      k1 y28
    else
      k1 y26
  else
    k4 v23
def restore_Print (n : Nat) (a0 : List Task) : Option (Int × Str) :=
  (restore_CheckTasks n a0).bind fun y1 =>
  bif (y1 != (0 : Int)) then
    some (y1, ([] : Str))
  else
    withK (fun (v44 : Str) =>
        (strings_Builder_String n v44).bind fun y45 =>
        some (0, y45)) fun k4 =>
    loopN (restore_Print_L3 n a0 k4) n (0, ([] : Str))
def agraffebase_isLetter (n : Nat) (a0 : Int) : Option Unit :=
  some ()
def agraffebase_isDigit (n : Nat) (a0 : Int) : Option Unit :=
  some ()
def agraffebase_IsName_L1 (n : Nat) (a0 : Str) (k1 : (Unit → Option Bool)) (back : Nat → Option Bool) : Nat → Option Bool
  | v4 =>
  bif decide (v4 < a0.length) then
    (agraffebase_isLetter n (((List.getD a0 v4 0).toNat : Nat) : Int)).bind fun y5 =>
    (gcall (!(((decide ((97 : Int) ≤ (((List.getD a0 v4 0).toNat : Nat) : Int))) && (decide ((((List.getD a0 v4 0).toNat : Nat) : Int) ≤ (122 : Int)))) || ((decide ((65 : Int) ≤ (((List.getD a0 v4 0).toNat : Nat) : Int))) && (decide ((((List.getD a0 v4 0).toNat : Nat) : Int) ≤ (90 : Int)))))) (agraffebase_isDigit n (((List.getD a0 v4 0).toNat : Nat) : Int))).bind fun y6 =>
    bif ((!(((decide ((97 : Int) ≤ (((List.getD a0 v4 0).toNat : Nat) : Int))) && (decide ((((List.getD a0 v4 0).toNat : Nat) : Int) ≤ (122 : Int)))) || ((decide ((65 : Int) ≤ (((List.getD a0 v4 0).toNat : Nat) : Int))) && (decide ((((List.getD a0 v4 0).toNat : Nat) : Int) ≤ (90 : Int)))))) && (!((decide ((48 : Int) ≤ (((List.getD a0 v4 0).toNat : Nat) : Int))) && (decide ((((List.getD a0 v4 0).toNat : Nat) : Int) ≤ (57 : Int)))))) && ((((List.getD a0 v4 0).toNat : Nat) : Int) != (45 : Int)) then
      some false
    else
      chk (nI (v4 + 1)) <|
      back (v4 + 1)
  else
    k1 ()
def agraffebase_IsName (n : Nat) (a0 : Str) : Option Bool :=
  chk (!(!((decide (a0.length = 0)) || (decide (12 < a0.length)))) || decide (0 < a0.length)) <|
  (gcall (!((decide (a0.length = 0)) || (decide (12 < a0.length)))) (agraffebase_isLetter n (((List.getD a0 0 0).toNat : Nat) : Int))).bind fun y1 =>
  bif ((decide (a0.length = 0)) || (decide (12 < a0.length))) || (!(((decide ((97 : Int) ≤ (((List.getD a0 0 0).toNat : Nat) : Int))) && (decide ((((List.getD a0 0 0).toNat : Nat) : Int) ≤ (122 : Int)))) || ((decide ((65 : Int) ≤ (((List.getD a0 0 0).toNat : Nat) : Int))) && (decide ((((List.getD a0 0 0).toNat : Nat) : Int) ≤ (90 : Int)))))) then
    some false
  else
    withK (fun (_ : Unit) =>
        some true) fun k1 =>
    loopN (agraffebase_IsName_L1 n a0 k1) n 0
def agrafferef08_Find_L1 (a0 : List Task) (a1 : Str) (k1 : (Unit → Option Int)) (back : Nat → Option Int) : Nat → Option Int
  | v1 =>
  bif decide (v1 < a0.length) then
    bif (((ix a0 v1).Name) == a1) then
      some ((v1 : Nat) : Int)
    else
      chk (nI (v1 + 1)) <|
      back (v1 + 1)
  else
    k1 ()
def agrafferef08_Find (n : Nat) (a0 : List Task) (a1 : Str) : Option Int :=
  withK (fun (_ : Unit) =>
      some (-1)) fun k1 =>
  loopN (agrafferef08_Find_L1 a0 a1 k1) n 0
def agraffebase_Within (n : Nat) (a0 : Int) (a1 : Int) (a2 : Int) : Option Unit :=
  some ()
def agraffebase_HasText_L1 (a0 : List Str) (a1 : Str) (k1 : (Unit → Option Bool)) (back : Nat → Option Bool) : Nat → Option Bool
  | v1 =>
  bif decide (v1 < a0.length) then
    bif ((ix a0 v1) == a1) then
      some true
    else
      chk (nI (v1 + 1)) <|
      back (v1 + 1)
  else
    k1 ()
def agraffebase_HasText (n : Nat) (a0 : List Str) (a1 : Str) : Option Bool :=
  withK (fun (_ : Unit) =>
      some false) fun k1 =>
  loopN (agraffebase_HasText_L1 a0 a1 k1) n 0
def agrafferef08_tasks_L1 (n : Nat) (a0 : List Task) (a1 : List Str) (k1 : (Unit → Option Int)) (back : Nat → Option Int) : Nat → Option Int
  | v3 =>
  bif decide (v3 < a1.length) then
    (agrafferef08_Find n a0 (ix a1 v3)).bind fun y4 =>
    bif decide (y4 < (0 : Int)) then
      some 6
    else
      chk (decide (v3 ≤ a1.length)) <|
      (agraffebase_HasText n (List.take v3 a1) (ix a1 v3)).bind fun y5 =>
      bif y5 then
        some 5
      else
        chk (nI (v3 + 1)) <|
        back (v3 + 1)
  else
    k1 ()
def agrafferef08_tasks (n : Nat) (a0 : List Task) (a1 : List Str) : Option Int :=
  withK (fun (_ : Unit) =>
      some 0) fun k1 =>
  loopN (agrafferef08_tasks_L1 n a0 a1 k1) n 0
def agrafferef08_FindPart_L1 (a0 : List PartCount) (a1 : Str) (k1 : (Unit → Option Int)) (back : Nat → Option Int) : Nat → Option Int
  | v1 =>
  bif decide (v1 < a0.length) then
    bif (((ix a0 v1).Part) == a1) then
      some ((v1 : Nat) : Int)
    else
      chk (nI (v1 + 1)) <|
      back (v1 + 1)
  else
    k1 ()
def agrafferef08_FindPart (n : Nat) (a0 : List PartCount) (a1 : Str) : Option Int :=
  withK (fun (_ : Unit) =>
      some (-1)) fun k1 =>
  loopN (agrafferef08_FindPart_L1 a0 a1 k1) n 0
def agrafferef08_counts_L1 (n : Nat) (a0 : List PartCount) (a1 : Int) (k1 : (Unit → Option Int)) (back : Nat → Option Int) : Nat → Option Int
  | v4 =>
  bif decide (v4 < a0.length) then
    (agraffebase_IsName n ((ix a0 v4).Part)).bind fun y5 =>
    bif !y5 then
      some 4
    else
      chk (decide (v4 ≤ a0.length)) <|
      (agrafferef08_FindPart n (List.take v4 a0) ((ix a0 v4).Part)).bind fun y6 =>
      bif decide ((0 : Int) ≤ y6) then
        some 5
      else
        (agraffebase_Within n ((ix a0 v4).Count) 1 a1).bind fun y7 =>
        bif !((decide (1 ≤ ((ix a0 v4).Count))) && (decide (((ix a0 v4).Count) ≤ a1))) then
          some 2
        else
          chk (nI (v4 + 1)) <|
          back (v4 + 1)
  else
    k1 ()
def agrafferef08_counts (n : Nat) (a0 : List PartCount) (a1 : Int) : Option Int :=
  withK (fun (_ : Unit) =>
      some 0) fun k1 =>
  loopN (agrafferef08_counts_L1 n a0 a1 k1) n 0
def agrafferef08_task_L2 (n : Nat) (a0 : List Task) (a1 : Int) (k2 : (Unit → Option Int)) (back : Nat → Option Int) : Nat → Option Int
  | v10 =>
  bif decide (v10 < (((ix a0 a1.toNat).OneOf).length)) then
    chk (decide (v10 < ((ix a0 a1.toNat).OneOf).length)) <|
    bif decide (((ix ((ix a0 a1.toNat).OneOf) v10).length) = 0) then
      some 10
    else
      (agrafferef08_tasks n a0 (ix ((ix a0 a1.toNat).OneOf) v10)).bind fun y11 =>
      bif (y11 != (0 : Int)) then
        some y11
      else
        chk (nI (v10 + 1)) <|
        back (v10 + 1)
  else
    k2 ()
def agrafferef08_task_L1 (a0 : List Task) (a1 : Int) (k1 : (Bool → Option Int)) (back : Bool × Nat → Option Int) : Bool × Nat → Option Int
  | (v5, v6) =>
  bif decide (v6 < (((ix a0 a1.toNat).OneOf).length)) then
    chk (!(!v5) || decide (v6 < ((ix a0 a1.toNat).OneOf).length)) <|
    chk (!(!v5) || decide (v6 < ((ix a0 a1.toNat).OneOf).length)) <|
    chk (nI (v6 + 1)) <|
    back (v5 || (decide (6 < ((ix ((ix a0 a1.toNat).OneOf) v6).length))), v6 + 1)
  else
    k1 v5
def agrafferef08_task (n : Nat) (a0 : List Task) (a1 : Int) : Option Int :=
  chk (inB a1 a0.length) <|
  chk (decide (a1.toNat < a0.length)) <|
  (agraffebase_IsName n ((ix a0 a1.toNat).Name)).bind fun y1 =>
  bif !y1 then
    some 4
  else
    chk (inC a1 a0.length) <|
    (agrafferef08_Find n (List.take a1.toNat a0) ((ix a0 a1.toNat).Name)).bind fun y2 =>
    bif decide ((0 : Int) ≤ y2) then
      some 5
    else
      (agraffebase_Within n ((ix a0 a1.toNat).Cents) 0 1000000000).bind fun y3 =>
      (gcall (!(!((decide (0 ≤ ((ix a0 a1.toNat).Cents))) && (decide (((ix a0 a1.toNat).Cents) ≤ 1000000000))))) (agraffebase_Within n ((ix a0 a1.toNat).Hours) 0 10000)).bind fun y4 =>
      bif (!((decide (0 ≤ ((ix a0 a1.toNat).Cents))) && (decide (((ix a0 a1.toNat).Cents) ≤ 1000000000)))) || (!((decide (0 ≤ ((ix a0 a1.toNat).Hours))) && (decide (((ix a0 a1.toNat).Hours) ≤ 10000)))) then
        some 2
      else
        withK (fun (v7 : Bool) =>
            bif v7 then
              some 8
            else
              (agrafferef08_tasks n a0 ((ix a0 a1.toNat).Needs)).bind fun y8 =>
              bif (y8 != (0 : Int)) then
                some y8
              else
                withK (fun (_ : Unit) =>
                    (agrafferef08_counts n ((ix a0 a1.toNat).Parts) 1000).bind fun y12 =>
                    some y12) fun k2 =>
                loopN (agrafferef08_task_L2 n a0 a1 k2) n 0) fun k1 =>
        loopN (agrafferef08_task_L1 a0 a1 k1) n (((decide (10 < (((ix a0 a1.toNat).Needs).length))) || (decide (6 < (((ix a0 a1.toNat).OneOf).length)))) || (decide (10 < (((ix a0 a1.toNat).Parts).length))), 0)
def agrafferef08_Leads_L1 (a0 : Task) (k1 : ((List Str) → Option (List Str))) (back : Nat × (List Str) → Option (List Str)) : Nat × (List Str) → Option (List Str)
  | (v2, v3) =>
  bif decide (v2 < a0.OneOf.length) then
    chk (room 16 (v3 ++ (ix a0.OneOf v2)).length) <|
    chk (nI (v2 + 1)) <|
    back (v2 + 1, (v3 ++ (ix a0.OneOf v2)))
  else
    k1 v3
def agrafferef08_Leads (n : Nat) (a0 : Task) : Option (List Str) :=
  (agraffebase_CopyTexts n a0.Needs).bind fun y1 =>
  withK (fun (v4 : (List Str)) =>
      some v4) fun k1 =>
  loopN (agrafferef08_Leads_L1 a0 k1) n (0, a0.Needs)
def agraffebase_HasText_2_L1 (a0 : List Str) (a1 : Str) (k1 : (Unit → Option Bool)) (back : Nat → Option Bool) : Nat → Option Bool
  | v1 =>
  bif decide (v1 < a0.length) then
    bif ((ix a0 v1) == a1) then
      some true
    else
      chk (nI (v1 + 1)) <|
      back (v1 + 1)
  else
    k1 ()
def agraffebase_HasText_2 (n : Nat) (a0 : List Str) (a1 : Str) : Option Bool :=
  withK (fun (_ : Unit) =>
      some false) fun k1 =>
  loopN (agraffebase_HasText_2_L1 a0 a1 k1) n 0
def agrafferef08_Order_L1 (n : Nat) (a1 : List Str) (v26 : List Str) (y42 : (List Str)) (k1 : (Bool → Option (List Str))) (back : Bool × Nat → Option (List Str)) : Bool × Nat → Option (List Str)
  | (v45, v46) =>
  bif decide (v46 < y42.length) then
    (gcall v45 (agraffebase_HasText n a1 (ix y42 v46))).bind fun y47 =>
    (gcall (v45 && !(!y47)) (agraffebase_HasText_2 n v26 (ix y42 v46))).bind fun y48 =>
    chk (nI (v46 + 1)) <|
    back (v45 && ((!y47) || y48), v46 + 1)
  else
    k1 v45
def agrafferef08_Order_L2 (n : Nat) (a0 : List Task) (a1 : List Str) (v26 : List Str) (k3 : (Int → Option (List Str))) (back : Int × Nat → Option (List Str)) : Int × Nat → Option (List Str)
  | (v38, v39) =>
  bif (decide (v39 < a0.length)) && (decide (v38 < (0 : Int))) then
    withK (fun (v50 : Int) =>
        chk (nI (v39 + 1)) <|
        back (v50, v39 + 1)) fun k2 =>
    chk (decide (v39 < a0.length)) <|
    (agraffebase_HasText n a1 ((ix a0 v39).Name)).bind fun y40 =>
    (gcall (!(!y40)) (agraffebase_HasText_2 n v26 ((ix a0 v39).Name))).bind fun y41 =>
    bif (!y40) || y41 then
      k2 v38
    else
      (agrafferef08_Leads n (ix a0 v39)).bind fun y42 =>
      withK (fun (v49 : Bool) =>
          bif v49 then
            k2 ((v39 : Nat) : Int)
          else
            k2 v38) fun k1 =>
      loopN (agrafferef08_Order_L1 n a1 v26 y42 k1) n (true, 0)
  else
    k3 v38
def agrafferef08_Order_L3 (n : Nat) (a0 : List Task) (a1 : List Str) (back : (List Str) → Option (List Str)) : (List Str) → Option (List Str)
  | v26 =>
  withK (fun (v51 : Int) =>
      bif decide (v51 < (0 : Int)) then
        some v26
      else
        chk (inB v51 a0.length) <|
        chk (decide (v51.toNat < a0.length)) <|
        chk (room 16 (v26 ++ ([(ix a0 v51.toNat).Name] : List Str)).length) <|
        back (v26 ++ ([(ix a0 v51.toNat).Name] : List Str))) fun k3 =>
  loopN (agrafferef08_Order_L2 n a0 a1 v26 k3) n ((-1), 0)
def agrafferef08_Order (n : Nat) (a0 : List Task) (a1 : List Str) : Option (List Str) :=
  loopN (agrafferef08_Order_L3 n a0 a1) n ([] : List Str)
def agrafferef08_CheckTasks_L2 (a0 : List Task) (k2 : ((List Str) → Option Int)) (back : (List Str) × Nat → Option Int) : (List Str) × Nat → Option Int
  | (v4, v5) =>
  bif decide (v5 < a0.length) then
    chk (room 16 (v4 ++ ([(ix a0 v5).Name] : List Str)).length) <|
    chk (nI (v5 + 1)) <|
    back ((v4 ++ ([(ix a0 v5).Name] : List Str)), v5 + 1)
  else
    k2 v4
def agrafferef08_CheckTasks_L1 (n : Nat) (a0 : List Task) (k1 : (Unit → Option Int)) (back : Nat → Option Int) : Nat → Option Int
  | v2 =>
  bif decide (v2 < a0.length) then
    (agrafferef08_task n a0 ((v2 : Nat) : Int)).bind fun y3 =>
    bif (y3 != (0 : Int)) then
      some y3
    else
      chk (nI (v2 + 1)) <|
      back (v2 + 1)
  else
    k1 ()
def agrafferef08_CheckTasks (n : Nat) (a0 : List Task) : Option Int :=
  bif decide (60 < a0.length) then
    some 8
  else
    withK (fun (_ : Unit) =>
        withK (fun (v6 : (List Str)) =>
            (agrafferef08_Order n a0 v6).bind fun y7 =>
            bif decide (y7.length < a0.length) then
              some 21
            else
              some 0) fun k2 =>
        loopN (agrafferef08_CheckTasks_L2 a0 k2) n (([] : List Str), 0)) fun k1 =>
    loopN (agrafferef08_CheckTasks_L1 n a0 k1) n 0
def strings_Lines (n : Nat) (a0 : Str) : Option Unit :=
  some ()
def internal_stringslite_HasSuffix (n : Nat) (a0 : Str) (a1 : Str) : Option Unit :=
  chk (!(decide (a1.length ≤ a0.length)) || inI (((a0.length : Nat) : Int) - ((a1.length : Nat) : Int))) <|
  chk (!(decide (a1.length ≤ a0.length)) || inC (((a0.length : Nat) : Int) - ((a1.length : Nat) : Int)) a0.length) <|
  some ()
def internal_stringslite_CutSuffix (n : Nat) (a0 : Str) (a1 : Str) : Option (Str × Bool) :=
  (internal_stringslite_HasSuffix n a0 a1).bind fun y1 =>
  bif !((decide (a1.length ≤ a0.length)) && ((List.drop ((((a0.length : Nat) : Int) - ((a1.length : Nat) : Int)).toNat) a0) == a1)) then
    some (a0, false)
  else
    chk (inI (((a0.length : Nat) : Int) - ((a1.length : Nat) : Int))) <|
    chk (inC (((a0.length : Nat) : Int) - ((a1.length : Nat) : Int)) a0.length) <|
    some ((List.take ((((a0.length : Nat) : Int) - ((a1.length : Nat) : Int)).toNat) a0), true)
def strings_CutSuffix (n : Nat) (a0 : Str) (a1 : Str) : Option (Str × Bool) :=
  (internal_stringslite_CutSuffix n a0 a1).bind fun y1 =>
  some (y1.1, y1.2)
def strings_Split (n : Nat) (a0 : Str) (a1 : Str) : Option (List Str) :=
  chk (Nat.blt a0.length 4294967281) <|
  splitC a0 a1
def strconv_Atoi (n : Nat) (a0 : Str) : Option (Int × Bool) :=
  chk (Nat.ble a0.length 281474976710656) <|
  some (atoiL a0)
def internal_stringslite_HasPrefix (n : Nat) (a0 : Str) (a1 : Str) : Option Unit :=
  some ()
def internal_stringslite_TrimPrefix (n : Nat) (a0 : Str) (a1 : Str) : Option Str :=
  (internal_stringslite_HasPrefix n a0 a1).bind fun y1 =>
  bif (decide (a1.length ≤ a0.length)) && ((List.take a1.length a0) == a1) then
    chk (decide (a1.length ≤ a0.length)) <|
    some (List.drop a1.length a0)
  else
    some a0
def strings_TrimPrefix (n : Nat) (a0 : Str) (a1 : Str) : Option Str :=
  (internal_stringslite_TrimPrefix n a0 a1).bind fun y1 =>
  some y1
def restore_number (n : Nat) (a0 : Str) (a1 : Int) : Option (Int × Bool) :=
  (strconv_Atoi n a0).bind fun y1 =>
  (gcall y1.2 (strconv_Itoa n y1.1)).bind fun y2 =>
  (gcall (y1.2 && (y2 == a0)) (strings_TrimPrefix n a0 ([45] : Str))).bind fun y3 =>
  some (y1.1, (y1.2 && (y2 == a0)) && (decide (((y3.length : Nat) : Int) ≤ a1)))
def restore_read_3 (n : Nat) (a0 : List Task) (a1 : Str) (a2 : Int) (a3 : Int) (a4 : List Str) (a5 : List (List Str)) (a6 : List PartCount) (a7 : List Str) : Option (Unit ⊕ (Bool × (List Task) × Int × Int × Str × (List Str) × (List (List Str)) × (List PartCount))) :=
  chk (decide (0 < a7.length)) <|
  bif ((ix a7 0) == ([116, 97, 115, 107] : Str)) then
    bif !decide (a7.length = 4) then
      some (.inl ())
    else
      chk (decide (2 < a7.length)) <|
      (restore_number n (ix a7 2) 10).bind fun y1 =>
      chk (decide (3 < a7.length)) <|
      (restore_number n (ix a7 3) 10).bind fun y2 =>
      chk (decide (1 < a7.length)) <|
      chk (room 104 ((List.set a0 (a0.length - 1) (Task.mk a1 a2 a3 a4 a5 a6)) ++ [(Task.mk (ix a7 1) y1.1 y2.1 ([] : List Str) ([] : List (List Str)) ([] : List PartCount))]).length) <|
      some (.inr (y1.2 && y2.2, ((List.set a0 (a0.length - 1) (Task.mk a1 a2 a3 a4 a5 a6)) ++ [(Task.mk (ix a7 1) y1.1 y2.1 ([] : List Str) ([] : List (List Str)) ([] : List PartCount))]), y1.1, y2.1, (ix a7 1), ([] : List Str), ([] : List (List Str)), ([] : List PartCount)))
  else
    bif (decide (a0.length = 0)) || (decide (a7.length < 2)) then
      some (.inl ())
    else
      chk (inI (((a0.length : Nat) : Int) - 1)) <|
      chk (decide (0 < a0.length)) <|
      bif ((ix a7 0) == ([110, 101, 101, 100, 115] : Str)) then
        chk (nI (a4.length + a5.length)) <|
        chk (nI (a4.length + a5.length + a6.length)) <|
        bif decide (0 < (a4.length + a5.length + a6.length)) then
          some (.inl ())
        else
          chk (decide (1 ≤ a7.length)) <|
          some (.inr (true, a0, a2, a3, a1, (List.drop 1 a7), a5, a6))
      else
        bif ((ix a7 0) == ([111, 110, 101, 111, 102] : Str)) then
          bif decide (0 < a6.length) then
            some (.inl ())
          else
            chk (decide (1 ≤ a7.length)) <|
            chk (room 24 (a5 ++ ([(List.drop 1 a7)] : List (List Str))).length) <|
            some (.inr (true, a0, a2, a3, a1, a4, (a5 ++ ([(List.drop 1 a7)] : List (List Str))), a6))
        else
          bif ((ix a7 0) == ([112, 97, 114, 116] : Str)) then
            bif !decide (a7.length = 3) then
              some (.inl ())
            else
              chk (decide (2 < a7.length)) <|
              (restore_number n (ix a7 2) 10).bind fun y3 =>
              bif !y3.2 then
                some (.inl ())
              else
                chk (decide (1 < a7.length)) <|
                chk (room 24 (a6 ++ ([(PartCount.mk (ix a7 1) y3.1)] : List PartCount)).length) <|
                some (.inr (true, a0, a2, a3, a1, a4, a5, (a6 ++ ([(PartCount.mk (ix a7 1) y3.1)] : List PartCount))))
          else
            some (.inl ())
def restore_Parse_L1 (n : Nat) (x32 : Str) (back : Nat × (List Task) × Str × Int × Int × (List Str) × (List (List Str)) × (List PartCount) → Option (Int × Int × (List Task))) : Nat × (List Task) × Str × Int × Int × (List Str) × (List (List Str)) × (List PartCount) → Option (Int × Int × (List Task))
  | (v12, v13, v14, v15, v16, v29, v30, v31) =>
  chk (nI (v12 + 1)) <|
  (strings_CutSuffix n x32 ([10] : Str)).bind fun y33 =>
  withK (fun (v36, v37, v38, v39, v40, v41, v42, v43) =>
      bif (!v36) || (!y33.2) then
        some (((v12 + 1 : Nat) : Int), 7, ([] : List Task))
      else
        back (v12 + 1, v37, v38, v39, v40, v41, v42, v43)) fun k1 =>
  (strings_Split n y33.1 ([32] : Str)).bind fun y34 =>
  (restore_read_3 n v13 v14 v15 v16 v29 v30 v31 y34).bind fun y35 =>
  match y35 with
  | .inl y35 =>
    k1 (false, ([] : List Task), ([] : Str), 0, 0, ([] : List Str), ([] : List (List Str)), ([] : List PartCount))
  | .inr y35 =>
    k1 (y35.1, y35.2.1, y35.2.2.2.2.1, y35.2.2.1, y35.2.2.2.1, y35.2.2.2.2.2.1, y35.2.2.2.2.2.2.1, y35.2.2.2.2.2.2.2)
def restore_Parse (n : Nat) (a0 : Str) : Option (Int × Int × (List Task)) :=
  bif decide (60000 < a0.length) then
    some (0, 8, ([] : List Task))
  else
    withK (fun (v44, v45, v46, v47, v48, v49, v50) =>
        (restore_CheckTasks n (List.set v44 (v44.length - 1) (Task.mk v45 v46 v47 v48 v50 v49))).bind fun y51 =>
        bif (y51 != (0 : Int)) then
          some (0, y51, ([] : List Task))
        else
          some (0, 0, (List.set v44 (v44.length - 1) (Task.mk v45 v46 v47 v48 v50 v49)))) fun k2 =>
    (strings_Lines n a0).bind fun y1 =>
    chk (Nat.ble a0.length 4611686018427387904) <|
    linK (restore_Parse_L1 n) (fun (v12, v13, v14, v15, v16, v29, v30, v31) =>
        k2 (v13, v14, v15, v16, v29, v31, v30)) (linesL a0) (0, ([] : List Task), ([] : Str), 0, 0, ([] : List Str), ([] : List (List Str)), ([] : List PartCount))
def agraffebase_Abs (n : Nat) (a0 : Int) : Option Int :=
  bif decide (a0 < (0 : Int)) then
    chk (inI (-a0)) <|
    some (-a0)
  else
    some a0
def agraffebase_Decimal_L1 (n : Nat) (k1 : (Str → Option Str)) (back : Str × Int → Option Str) : Str × Int → Option Str
  | (v2, v3) =>
  bif (v3 != (0 : Int)) then
    chk ((10 != 0)) <|
    (agraffebase_Abs n (Int.tmod v3 10)).bind fun y4 =>
    chk (inI (48 + y4)) <|
    chk (nI (([UInt8.ofNat (Int.toNat (IntKind.u8.wrap (48 + y4)))] : Str) ++ v2).length) <|
    chk ((10 != 0 && inI (Int.tdiv v3 10))) <|
    back ((([UInt8.ofNat (Int.toNat (IntKind.u8.wrap (48 + y4)))] : Str) ++ v2), Int.tdiv v3 10)
  else
    k1 v2
def agraffebase_Decimal (n : Nat) (a0 : Int) : Option Str :=
  bif (a0 == (0 : Int)) then
    some ([48] : Str)
  else
    withK (fun (v5 : Str) =>
        bif decide (a0 < (0 : Int)) then
          chk (nI (([45] : Str) ++ v5).length) <|
          some (([45] : Str) ++ v5)
        else
          some v5) fun k1 =>
    loopN (agraffebase_Decimal_L1 n k1) n (([] : Str), a0)
def agrafferef08_words_L1 (a1 : List Str) (k1 : (Str → Option Str)) (back : Str × Nat → Option Str) : Str × Nat → Option Str
  | (v1, v2) =>
  bif decide (v2 < a1.length) then
    chk (nI (v1 ++ ([32] : Str)).length) <|
    chk (nI ((v1 ++ ([32] : Str)) ++ (ix a1 v2)).length) <|
    chk (nI (v2 + 1)) <|
    back (((v1 ++ ([32] : Str)) ++ (ix a1 v2)), v2 + 1)
  else
    k1 v1
def agrafferef08_words (n : Nat) (a0 : Str) (a1 : List Str) : Option Str :=
  withK (fun (v3 : Str) =>
      chk (nI (v3 ++ ([10] : Str)).length) <|
      some (v3 ++ ([10] : Str))) fun k1 =>
  loopN (agrafferef08_words_L1 a1 k1) n (a0, 0)
def agrafferef08_words_2_L1 (a1 : List Str) (k1 : (Str → Option Str)) (back : Str × Nat → Option Str) : Str × Nat → Option Str
  | (v1, v2) =>
  bif decide (v2 < a1.length) then
    chk (nI (v1 ++ ([32] : Str)).length) <|
    chk (nI ((v1 ++ ([32] : Str)) ++ (ix a1 v2)).length) <|
    chk (nI (v2 + 1)) <|
    back (((v1 ++ ([32] : Str)) ++ (ix a1 v2)), v2 + 1)
  else
    k1 v1
def agrafferef08_words_2 (n : Nat) (a0 : Str) (a1 : List Str) : Option Str :=
  withK (fun (v3 : Str) =>
      chk (nI (v3 ++ ([10] : Str)).length) <|
      some (v3 ++ ([10] : Str))) fun k1 =>
  loopN (agrafferef08_words_2_L1 a1 k1) n (a0, 0)
def agrafferef08_Print_L2 (n : Nat) (a0 : List Task) (v19 : Nat) (k3 : (Str → Option Str)) (back : Str × Nat → Option Str) : Str × Nat → Option Str
  | (v32, v33) =>
  bif decide (v33 < (((ix a0 v19).Parts).length)) then
    chk (decide (v33 < ((ix a0 v19).Parts).length)) <|
    (agraffebase_Decimal n ((ix ((ix a0 v19).Parts) v33).Count)).bind fun y34 =>
    (agrafferef08_words n ([112, 97, 114, 116] : Str) ([(ix ((ix a0 v19).Parts) v33).Part, y34] : List Str)).bind fun y35 =>
    chk (nI (v32 ++ y35).length) <|
    chk (nI (v33 + 1)) <|
    back ((v32 ++ y35), v33 + 1)
  else
    k3 v32
def agrafferef08_Print_L1 (n : Nat) (a0 : List Task) (v19 : Nat) (k2 : (Str → Option Str)) (back : Str × Nat → Option Str) : Str × Nat → Option Str
  | (v26, v27) =>
  bif decide (v27 < (((ix a0 v19).OneOf).length)) then
    chk (decide (v27 < ((ix a0 v19).OneOf).length)) <|
    (agrafferef08_words_2 n ([111, 110, 101, 111, 102] : Str) (ix ((ix a0 v19).OneOf) v27)).bind fun y28 =>
    chk (nI (v26 ++ y28).length) <|
    chk (nI (v27 + 1)) <|
    back ((v26 ++ y28), v27 + 1)
  else
    k2 v26
def agrafferef08_Print_L3 (n : Nat) (a0 : List Task) (k4 : (Str → Option Str)) (back : Str × Nat → Option Str) : Str × Nat → Option Str
  | (v18, v19) =>
  bif decide (v19 < a0.length) then
    withK (fun (v36 : Str) =>
        chk (nI (v19 + 1)) <|
        back (v36, v19 + 1)) fun k3 =>
    (agraffebase_Decimal n ((ix a0 v19).Cents)).bind fun y20 =>
    (agraffebase_Decimal n ((ix a0 v19).Hours)).bind fun y21 =>
    (agrafferef08_words n ([116, 97, 115, 107] : Str) ([(ix a0 v19).Name, y20, y21] : List Str)).bind fun y22 =>
    chk (nI (v18 ++ y22).length) <|
    withK (fun (v24 : Str) =>
        withK (fun (v29 : Str) =>
            loopN (agrafferef08_Print_L2 n a0 v19 k3) n (v29, 0)) fun k2 =>
        loopN (agrafferef08_Print_L1 n a0 v19 k2) n (v24, 0)) fun k1 =>
    bif decide (0 < (((ix a0 v19).Needs).length)) then
      (agrafferef08_words_2 n ([110, 101, 101, 100, 115] : Str) ((ix a0 v19).Needs)).bind fun y23 =>
      chk (nI ((v18 ++ y22) ++ y23).length) <|
      k1 ((v18 ++ y22) ++ y23)
    else
      k1 (v18 ++ y22)
  else
    k4 v18
def agrafferef08_Print (n : Nat) (a0 : List Task) : Option Str :=
  withK (fun (v37 : Str) =>
      some v37) fun k4 =>
  loopN (agrafferef08_Print_L3 n a0 k4) n (([] : Str), 0)
def agraffebase_Texts_L1 (a0 : List Str) (a1 : List Str) (k1 : (Unit → Option Bool)) (back : Nat → Option Bool) : Nat → Option Bool
  | v1 =>
  bif decide (v1 < a0.length) then
    chk (decide (v1 < a1.length)) <|
    bif !((ix a0 v1) == (ix a1 v1)) then
      some false
    else
      chk (nI (v1 + 1)) <|
      back (v1 + 1)
  else
    k1 ()
def agraffebase_Texts (n : Nat) (a0 : List Str) (a1 : List Str) : Option Bool :=
  bif !decide (a0.length = a1.length) then
    some false
  else
    withK (fun (_ : Unit) =>
        some true) fun k1 =>
    loopN (agraffebase_Texts_L1 a0 a1 k1) n 0
def agraffelaw08_sameCounts_L1 (a0 : List PartCount) (a1 : List PartCount) (k1 : (Unit → Option Bool)) (back : Nat → Option Bool) : Nat → Option Bool
  | v1 =>
  bif decide (v1 < a0.length) then
    chk (decide (v1 < a1.length)) <|
    bif (!((((ix a0 v1).Part) == ((ix a1 v1).Part)) && ((((ix a0 v1).Count) == ((ix a1 v1).Count)) && true))) then
      some false
    else
      chk (nI (v1 + 1)) <|
      back (v1 + 1)
  else
    k1 ()
def agraffelaw08_sameCounts (n : Nat) (a0 : List PartCount) (a1 : List PartCount) : Option Bool :=
  bif !decide (a0.length = a1.length) then
    some false
  else
    withK (fun (_ : Unit) =>
        some true) fun k1 =>
    loopN (agraffelaw08_sameCounts_L1 a0 a1 k1) n 0
def agraffelaw08_Same_L1 (n : Nat) (a0 : List Task) (a1 : List Task) (v6 : Nat) (k1 : (Unit → Option Bool)) (back : Nat → Option Bool) : Nat → Option Bool
  | v10 =>
  bif decide (v10 < (((ix a0 v6).OneOf).length)) then
    chk (decide (v10 < ((ix a0 v6).OneOf).length)) <|
    chk (decide (v10 < ((ix a1 v6).OneOf).length)) <|
    (agraffebase_Texts n (ix ((ix a0 v6).OneOf) v10) (ix ((ix a1 v6).OneOf) v10)).bind fun y11 =>
    bif !y11 then
      some false
    else
      chk (nI (v10 + 1)) <|
      back (v10 + 1)
  else
    k1 ()
def agraffelaw08_Same_L2 (n : Nat) (a0 : List Task) (a1 : List Task) (k2 : (Unit → Option Bool)) (back : Nat → Option Bool) : Nat → Option Bool
  | v6 =>
  bif decide (v6 < a0.length) then
    withK (fun (_ : Unit) =>
        chk (nI (v6 + 1)) <|
        back (v6 + 1)) fun k1 =>
    chk (decide (v6 < a1.length)) <|
    (gcall (!(((!(((ix a0 v6).Name) == ((ix a1 v6).Name))) || (((ix a0 v6).Cents) != ((ix a1 v6).Cents))) || (((ix a0 v6).Hours) != ((ix a1 v6).Hours)))) (agraffebase_Texts n ((ix a0 v6).Needs) ((ix a1 v6).Needs))).bind fun y7 =>
    (gcall (!(((((!(((ix a0 v6).Name) == ((ix a1 v6).Name))) || (((ix a0 v6).Cents) != ((ix a1 v6).Cents))) || (((ix a0 v6).Hours) != ((ix a1 v6).Hours))) || (!y7)) || (!decide ((((ix a0 v6).OneOf).length) = (((ix a1 v6).OneOf).length))))) (agraffelaw08_sameCounts n ((ix a0 v6).Parts) ((ix a1 v6).Parts))).bind fun y8 =>
    bif (((((!(((ix a0 v6).Name) == ((ix a1 v6).Name))) || (((ix a0 v6).Cents) != ((ix a1 v6).Cents))) || (((ix a0 v6).Hours) != ((ix a1 v6).Hours))) || (!y7)) || (!decide ((((ix a0 v6).OneOf).length) = (((ix a1 v6).OneOf).length)))) || (!y8) then
      some false
    else
      loopN (agraffelaw08_Same_L1 n a0 a1 v6 k1) n 0
  else
    k2 ()
def agraffelaw08_Same (n : Nat) (a0 : List Task) (a1 : List Task) : Option Bool :=
  bif !decide (a0.length = a1.length) then
    some false
  else
    withK (fun (_ : Unit) =>
        some true) fun k2 =>
    loopN (agraffelaw08_Same_L2 n a0 a1 k2) n 0
def agraffebase_Cut_L1 (a0 : Str) (a1 : Int) (k2 : ((List Str) → Option (List Str))) (back : (List Str) × Nat × Nat → Option (List Str)) : (List Str) × Nat × Nat → Option (List Str)
  | (v3, v4, v5) =>
  bif decide (v5 ≤ a0.length) then
    withK (fun (v6, v7) =>
        chk (nI (v5 + 1)) <|
        back (v7, v6, v5 + 1)) fun k1 =>
    chk (!(!(decide (v5 = a0.length))) || decide (v5 < a0.length)) <|
    bif (decide (v5 = a0.length)) || ((((List.getD a0 v5 0).toNat : Nat) : Int) == a1) then
      chk (decide (v4 ≤ v5)) <|
      chk (room 16 (v3 ++ ([(List.take (v5 - v4) (List.drop v4 a0))] : List Str)).length) <|
      chk (nI (v5 + 1)) <|
      k1 (v5 + 1, (v3 ++ ([(List.take (v5 - v4) (List.drop v4 a0))] : List Str)))
    else
      k1 (v4, v3)
  else
    k2 v3
def agraffebase_Cut (n : Nat) (a0 : Str) (a1 : Int) : Option (List Str) :=
  withK (fun (v8 : (List Str)) =>
      some v8) fun k2 =>
  loopN (agraffebase_Cut_L1 a0 a1 k2) n (([] : List Str), 0, 0)
def agraffebase_Number_L1 (n : Nat) (a0 : Str) (k2 : (Int → Option (Int × Bool))) (back : Int × Int → Option (Int × Bool)) : Int × Int → Option (Int × Bool)
  | (v3, v4) =>
  bif decide (v4 < ((a0.length : Nat) : Int)) then
    chk (inB v4 a0.length) <|
    (agraffebase_isDigit n (((List.getD a0 v4.toNat 0).toNat : Nat) : Int)).bind fun y5 =>
    bif !((decide ((48 : Int) ≤ (((List.getD a0 v4.toNat 0).toNat : Nat) : Int))) && (decide ((((List.getD a0 v4.toNat 0).toNat : Nat) : Int) ≤ (57 : Int)))) then
      some (0, false)
    else
      chk (inI (10 * v3)) <|
      chk (inI (IntKind.u8.wrap ((((List.getD a0 v4.toNat 0).toNat : Nat) : Int) - 48))) <|
      chk (inI ((10 * v3) + (IntKind.u8.wrap ((((List.getD a0 v4.toNat 0).toNat : Nat) : Int) - 48)))) <|
      chk (inI (v4 + 1)) <|
      back ((10 * v3) + (IntKind.u8.wrap ((((List.getD a0 v4.toNat 0).toNat : Nat) : Int) - 48)), v4 + 1)
  else
    k2 v3
def agraffebase_Number (n : Nat) (a0 : Str) (a1 : Int) : Option (Int × Bool) :=
  withK (fun (v1 : Int) =>
      chk (!(!(((a0.length : Nat) : Int) == v1)) || inI (v1 + a1)) <|
      bif ((((a0.length : Nat) : Int) == v1) || (decide ((v1 + a1) < ((a0.length : Nat) : Int)))) || (decide ((18 : Int) < a1)) then
        some (0, false)
      else
        withK (fun (v6 : Int) =>
            withK (fun (v7 : Int) =>
                (agraffebase_Decimal n v7).bind fun y8 =>
                some (v7, (y8 == a0))) fun k3 =>
            bif (v1 == (1 : Int)) then
              chk (inI (-v6)) <|
              k3 (-v6)
            else
              k3 v6) fun k2 =>
        loopN (agraffebase_Number_L1 n a0 k2) n (0, v1)) fun k1 =>
  bif (decide (0 < a0.length)) && ((((List.getD a0 0 0).toNat : Nat) : Int) == (45 : Int)) then
    k1 1
  else
    k1 0
def agrafferef08_take_3 (n : Nat) (a0 : List Task) (a1 : Str) (a2 : Int) (a3 : Int) (a4 : List Str) (a5 : List (List Str)) (a6 : List PartCount) (a7 : Str) : Option (Bool × (List Task) × Str × Int × Int × (List Str) × (List (List Str)) × (List PartCount)) :=
  (agraffebase_Cut n a7 32).bind fun y1 =>
  chk (decide (0 < y1.length)) <|
  bif ((ix y1 0) == ([116, 97, 115, 107] : Str)) && (decide (y1.length = 4)) then
    chk (decide (2 < y1.length)) <|
    (agraffebase_Number n (ix y1 2) 10).bind fun y2 =>
    chk (decide (3 < y1.length)) <|
    (agraffebase_Number n (ix y1 3) 10).bind fun y3 =>
    chk (decide (1 < y1.length)) <|
    chk (room 104 ((List.set a0 (a0.length - 1) (Task.mk a1 a2 a3 a4 a5 a6)) ++ [(Task.mk (ix y1 1) y2.1 y3.1 ([] : List Str) ([] : List (List Str)) ([] : List PartCount))]).length) <|
    some (y2.2 && y3.2, ((List.set a0 (a0.length - 1) (Task.mk a1 a2 a3 a4 a5 a6)) ++ [(Task.mk (ix y1 1) y2.1 y3.1 ([] : List Str) ([] : List (List Str)) ([] : List PartCount))]), (ix y1 1), y2.1, y3.1, ([] : List Str), ([] : List (List Str)), ([] : List PartCount))
  else
    bif (decide (a0.length = 0)) || (decide (y1.length < 2)) then
      some (false, a0, a1, a2, a3, a4, a5, a6)
    else
      chk (inI (((a0.length : Nat) : Int) - 1)) <|
      chk (decide (0 < a0.length)) <|
      bif ((((ix y1 0) == ([110, 101, 101, 100, 115] : Str)) && (decide (a4.length = 0))) && (decide (a5.length = 0))) && (decide (a6.length = 0)) then
        chk (decide (1 ≤ y1.length)) <|
        some (true, a0, a1, a2, a3, (List.drop 1 y1), a5, a6)
      else
        bif ((ix y1 0) == ([111, 110, 101, 111, 102] : Str)) && (decide (a6.length = 0)) then
          chk (decide (1 ≤ y1.length)) <|
          chk (room 24 (a5 ++ ([(List.drop 1 y1)] : List (List Str))).length) <|
          some (true, a0, a1, a2, a3, a4, (a5 ++ ([(List.drop 1 y1)] : List (List Str))), a6)
        else
          bif ((ix y1 0) == ([112, 97, 114, 116] : Str)) && (decide (y1.length = 3)) then
            chk (decide (2 < y1.length)) <|
            (agraffebase_Number n (ix y1 2) 10).bind fun y4 =>
            bif !y4.2 then
              some (false, a0, a1, a2, a3, a4, a5, a6)
            else
              chk (decide (1 < y1.length)) <|
              chk (room 24 (a6 ++ ([(PartCount.mk (ix y1 1) y4.1)] : List PartCount)).length) <|
              some (true, a0, a1, a2, a3, a4, a5, (a6 ++ ([(PartCount.mk (ix y1 1) y4.1)] : List PartCount)))
          else
            some (false, a0, a1, a2, a3, a4, a5, a6)
def agrafferef08_Parse_L1 (n : Nat) (y1 : (List Str)) (k1 : ((List Task) × Str × Int × Int × (List Str) × (List PartCount) × (List (List Str)) → Option (Int × Int × (List Task)))) (back : (List Task) × Str × Int × Int × Nat × (List Str) × (List (List Str)) × (List PartCount) → Option (Int × Int × (List Task))) : (List Task) × Str × Int × Int × Nat × (List Str) × (List (List Str)) × (List PartCount) → Option (Int × Int × (List Task))
  | (v8, v9, v10, v11, v12, v14, v15, v16) =>
  bif decide (((v12 : Nat) : Int) < (((y1.length : Nat) : Int) - 1)) then
    chk (decide (v12 < y1.length)) <|
    (agrafferef08_take_3 n v8 v9 v10 v11 v14 v15 v16 (ix y1 v12)).bind fun y17 =>
    bif !y17.1 then
      chk (nI (v12 + 1)) <|
      some (7, ((v12 + 1 : Nat) : Int), ([] : List Task))
    else
      chk (nI (v12 + 1)) <|
      back (y17.2.1, y17.2.2.1, y17.2.2.2.1, y17.2.2.2.2.1, v12 + 1, y17.2.2.2.2.2.1, y17.2.2.2.2.2.2.1, y17.2.2.2.2.2.2.2)
  else
    k1 (v8, v9, v10, v11, v14, v16, v15)
def agrafferef08_Parse (n : Nat) (a0 : Str) : Option (Int × Int × (List Task)) :=
  bif decide (60000 < a0.length) then
    some (8, 0, ([] : List Task))
  else
    (agraffebase_Cut n a0 10).bind fun y1 =>
    chk (inI (((y1.length : Nat) : Int) - 1)) <|
    withK (fun (v18, v19, v20, v21, v22, v23, v24) =>
        chk (inB (((y1.length : Nat) : Int) - 1) y1.length) <|
        chk (decide ((((y1.length : Nat) : Int) - 1).toNat < y1.length)) <|
        bif !((ix y1 ((((y1.length : Nat) : Int) - 1).toNat)) == ([] : Str)) then
          chk (inI ((((y1.length : Nat) : Int) - 1) + 1)) <|
          some (7, (((y1.length : Nat) : Int) - 1) + 1, ([] : List Task))
        else
          (agrafferef08_CheckTasks n (List.set v18 (v18.length - 1) (Task.mk v19 v20 v21 v22 v24 v23))).bind fun y25 =>
          bif (y25 != (0 : Int)) then
            some (y25, 0, ([] : List Task))
          else
            some (0, 0, (List.set v18 (v18.length - 1) (Task.mk v19 v20 v21 v22 v24 v23)))) fun k1 =>
    loopN (agrafferef08_Parse_L1 n y1 k1) n (([] : List Task), ([] : Str), 0, 0, 0, ([] : List Str), ([] : List (List Str)), ([] : List PartCount))
def agraffelaw08_RestoreTexts (n : Nat) (a0 : List Task) (a1 : Str) : Option Bool :=
  (agraffelaw08_awake n).bind fun y1 =>
  bif !y1 then
    some false
  else
    (agraffelaw08_Few n a0).bind fun y2 =>
    bif ((!y2) || ((decide (600 < a1.length)) && (decide (a1.length ≤ 60000)))) || (decide (60100 < a1.length)) then
      some true
    else
      (agraffelaw08_Copied n a0).bind fun y3 =>
      (restore_Print n y3).bind fun y4 =>
      withK (fun (_ : Unit) =>
          (restore_Parse n a1).bind fun y9 =>
          (agrafferef08_Parse n a1).bind fun y10 =>
          (gcall ((y9.2.1 == y10.1) && (y9.1 == y10.2.1)) (agraffelaw08_Same n y9.2.2 y10.2.2)).bind fun y11 =>
          some (((y9.2.1 == y10.1) && (y9.1 == y10.2.1)) && y11)) fun k1 =>
      (agrafferef08_CheckTasks n a0).bind fun y5 =>
      bif (y5 != (0 : Int)) then
        bif (y4.1 != y5) || (!(y4.2 == ([] : Str))) then
          some false
        else
          k1 ()
      else
        (restore_Parse n y4.2).bind fun y6 =>
        (gcall (!(y4.1 != (0 : Int))) (agrafferef08_Print n a0)).bind fun y7 =>
        (gcall (!((((y4.1 != (0 : Int)) || (!(y4.2 == y7))) || (y6.2.1 != (0 : Int))) || (y6.1 != (0 : Int)))) (agraffelaw08_Same n y6.2.2 a0)).bind fun y8 =>
        bif ((((y4.1 != (0 : Int)) || (!(y4.2 == y7))) || (y6.2.1 != (0 : Int))) || (y6.1 != (0 : Int))) || (!y8) then
          some false
        else
          k1 ()
end
section
set_option maxRecDepth 4000
open Go
theorem loopN_s {α β : Type} (F : (α → Option β) → α → Option β) (n : Nat) (t : α) : loopN F (n + 1) t = F (loopN F n) t := rfl
@[simp] theorem chk_t {α : Type} (k : Option α) : chk true k = k := rfl
theorem chk_of {α : Type} {b : Bool} {k : Option α} (h : b = true) : chk b k = k := by subst h; rfl
@[simp] theorem withK_eq {α β : Type} (j : α → Option β) (f : (α → Option β) → Option β) : withK j f = f j := rfl
@[simp] theorem gcall_some_ {α : Type} [Inhabited α] (g : Bool) (x : α) : (gcall g (some x)) = some (bif g then x else default) := by cases g <;> rfl
theorem nI_of {n : Nat} (h : n ≤ 9223372036854775807) : nI n = true := by simp [nI, h]
theorem inI_of {n : Int} (h : -9223372036854775808 ≤ n) (h2 : n ≤ 9223372036854775807) : inI n = true := by simp [inI, h, h2]
theorem room_of {b n : Nat} (h : n * b ≤ 140737488355328) (h2 : n ≤ 9223372036854775807) : room b n = true := by simp [room, h, h2]
theorem inB_of {q : Int} {n : Nat} (h : 0 ≤ q) (h2 : q.toNat < n) : inB q n = true := by simp [inB, h, h2]
theorem inC_of {q : Int} {n : Nat} (h : 0 ≤ q) (h2 : q.toNat ≤ n) : inC q n = true := by simp [inC, h, h2]
theorem drop_ix {α : Type} [Inhabited α] {l : List α} {v : Nat} (h : v < l.length) : l.drop v = ix l v :: l.drop (v + 1) := by
  rw [ix_eq h]; exact List.drop_eq_getElem_cons h
theorem drop_nil {α : Type} {l : List α} {v : Nat} (h : ¬ v < l.length) : l.drop v = [] := List.drop_eq_nil_of_le (by omega)
def isL (c : UInt8) : Bool := (decide ((97 : Int) ≤ ((c.toNat : Nat) : Int)) && decide (((c.toNat : Nat) : Int) ≤ (122 : Int))) || (decide ((65 : Int) ≤ ((c.toNat : Nat) : Int)) && decide (((c.toNat : Nat) : Int) ≤ (90 : Int)))
def isD (c : UInt8) : Bool := decide ((48 : Int) ≤ ((c.toNat : Nat) : Int)) && decide (((c.toNat : Nat) : Int) ≤ (57 : Int))
def okC (c : UInt8) : Bool := isL c || isD c || (((c.toNat : Nat) : Int) == (45 : Int))
def nameB (s : Str) : Bool := match s with
  | [] => false
  | c :: r => isL c && r.all okC && decide (r.length < 12)
end
section
set_option maxRecDepth 4000
open Go
theorem bne_t {x : Int} (h : ¬ x = 0) : (x != 0) = true := by simp [bne, h]
def firstE (E : Nat → Int) : Nat → Nat → Int
  | _, 0 => 0
  | v, m + 1 => bif E v != 0 then E v else firstE E (v + 1) m
theorem firstE_zero {E : Nat → Int} : ∀ {m v : Nat}, firstE E v m = 0 → ∀ j, v ≤ j → j < v + m → E j = 0
  | 0, v, _, j, h1, h2 => by omega
  | m + 1, v, h, j, h1, h2 => by
    unfold firstE at h
    by_cases e : E v = 0
    · simp [e] at h
      by_cases hj : j = v
      · rw [hj]; exact e
      · exact firstE_zero h j (by omega) (by omega)
    · rw [bne_t e, cond_true] at h; exact absurd h e
theorem loop_first {σ R : Type} {F : (σ → Option R) → σ → Option R} {st : Nat → σ} {E : Nat → Int} {err : Int → Option R} {k : Option R} {len : Nat}
    (h1 : ∀ back v, v < len → (∀ j, j < v → E j = 0) → F back (st v) = bif E v != 0 then err (E v) else back (st (v + 1)))
    (h2 : ∀ back, (∀ j, j < len → E j = 0) → F back (st len) = k) : ∀ n v, len - v < n → v ≤ len → (∀ j, j < v → E j = 0) → loopN F n (st v) = bif firstE E v (len - v) != 0 then err (firstE E v (len - v)) else k := by
  intro n
  induction n with
  | zero => intro v h; omega
  | succ n ih =>
    intro v hn hv hz
    rw [loopN_s]
    by_cases h : v < len
    · rw [h1 _ v h hz, show len - v = (len - (v + 1)) + 1 by omega]
      unfold firstE
      by_cases e : E v = 0
      · simp only [e, bne_self_eq_false, cond_false]
        exact ih (v + 1) (by omega) (by omega) fun j hj => by
          by_cases hjv : j = v
          · rw [hjv]; exact e
          · exact hz j (by omega)
      · rw [bne_t e, cond_true, cond_true, bne_t e, cond_true]
    · have : v = len := by omega
      subst this
      rw [h2 _ hz, Nat.sub_self]
      simp [firstE]
theorem loop_through {σ R : Type} {F : (σ → Option R) → σ → Option R} {st : Nat → σ} {k : Option R} {len : Nat} (h1 : ∀ back v, v < len → F back (st v) = back (st (v + 1))) (h2 : ∀ back, F back (st len) = k) : ∀ n, len < n → loopN F n (st 0) = k := by
  intro n hn
  have := loop_first (F := F) (st := st) (E := fun _ => 0) (err := fun _ => none) (k := k) (len := len) (fun back v hv _ => by simp [h1 back v hv]) (fun back _ => h2 back) n 0 (by omega) (by omega) (fun _ _ => rfl)
  rw [this, Nat.sub_zero]
  have : firstE (fun _ => (0 : Int)) 0 len = 0 := by
    have : ∀ m v, firstE (fun _ => (0 : Int)) v m = 0 := by
      intro m
      induction m with
      | zero => intro v; rfl
      | succ m ih => intro v; simp [firstE, ih]
    exact this _ _
  rw [this]; rfl
def findI {α : Type} (p : α → Bool) (l : List α) : Int := match l.findIdx? p with
  | some i => ((i : Nat) : Int)
  | none => -1
theorem findI_pos {α : Type} [Inhabited α] {p : α → Bool} {l : List α} (h : ¬ findI p l < 0) : 0 ≤ findI p l ∧ (findI p l).toNat < l.length ∧ p (ix l (findI p l).toNat) = true ∧ ∀ j, j < (findI p l).toNat → p (ix l j) = false := by
  unfold findI at h ⊢
  split at h
  · rename_i i e
    rw [List.findIdx?_eq_some_iff_getElem] at e
    obtain ⟨hi, hp, hb⟩ := e
    refine ⟨by omega, by simpa using hi, ?_, fun j hj => ?_⟩
    · rw [ix_eq (by simpa using hi)]; simpa using hp
    · have hj : j < i := by simpa using hj
      rw [ix_eq (by omega)]
      simpa using hb j hj
  · omega
end
section
set_option maxRecDepth 4000
open Go
theorem loop_find' {α R : Type} [Inhabited α] {l : List α} {p : α → Bool} {F : (Nat → Option R) → Nat → Option R} {yes : Nat → Option R} {no : Option R}
    (h1 : ∀ back v, v < l.length → F back v = bif p (ix l v) then yes v else back (v + 1)) (h2 : ∀ back, F back l.length = no) :
    ∀ n v, v ≤ l.length → l.length - v < n → loopN F n v = match (l.drop v).findIdx? p with | some i => yes (v + i) | none => no := by
  intro n
  induction n with
  | zero => intro v _ h; omega
  | succ n ih =>
    intro v hv hn
    rw [loopN_s]
    by_cases h : v < l.length
    · rw [h1 _ v h, drop_ix h, List.findIdx?_cons]
      cases hp : p (ix l v) with
      | true => simp
      | false =>
        simp only [cond_false, Bool.false_eq_true, if_false]
        rw [ih (v + 1) (by omega) (by omega)]
        cases hh : (l.drop (v + 1)).findIdx? p with
        | none => simp
        | some i => simp [Nat.add_assoc, Nat.add_comm 1 i]
    · have : v = l.length := by omega
      subst this
      rw [h2, drop_nil h]
      simp
theorem any_findIdx {α : Type} (p : α → Bool) (l : List α) : (l.findIdx? p).isSome = l.any p := by
  induction l with
  | nil => rfl
  | cons x l ih =>
    rw [List.findIdx?_cons, List.any_cons]
    cases p x <;> simp [ih]
theorem loop_any' {α R : Type} [Inhabited α] {l : List α} {p : α → Bool} {F : (Nat → Option R) → Nat → Option R} {bad no : Option R}
    (h1 : ∀ back v, v < l.length → F back v = bif p (ix l v) then bad else back (v + 1)) (h2 : ∀ back, F back l.length = no) (n : Nat) (hn : l.length < n) : loopN F n 0 = bif l.any p then bad else no := by
  rw [loop_find' (yes := fun _ => bad) h1 h2 n 0 (by omega) (by omega), List.drop_zero, ← any_findIdx]
  cases l.findIdx? p <;> rfl
theorem loop_findI {α : Type} [Inhabited α] {l : List α} {p : α → Bool} {F : (Nat → Option Int) → Nat → Option Int}
    (h1 : ∀ back v, v < l.length → F back v = bif p (ix l v) then some ((v : Nat) : Int) else back (v + 1)) (h2 : ∀ back, F back l.length = some (-1)) (n : Nat) (hn : l.length < n) : loopN F n 0 = some (findI p l) := by
  rw [loop_find' h1 h2 n 0 (by omega) (by omega), List.drop_zero, findI]
  cases l.findIdx? p <;> simp
theorem findI_any {α : Type} (p : α → Bool) (l : List α) : decide ((0 : Int) ≤ findI p l) = l.any p := by
  rw [← any_findIdx, findI]
  cases l.findIdx? p <;> simp
theorem findI_none {α : Type} (p : α → Bool) (l : List α) : decide (findI p l < (0 : Int)) = !l.any p := by
  rw [← any_findIdx, findI]
  cases l.findIdx? p
  · simp
  · simp only [Option.isSome_some, Bool.not_true, decide_eq_false_iff_not]; omega
theorem any_congr {α : Type} {p q : α → Bool} {l : List α} (h : ∀ x ∈ l, p x = q x) : l.any p = l.any q := by
  induction l with
  | nil => rfl
  | cons x l ih =>
    rw [List.any_cons, List.any_cons, h x (by simp), ih fun y hy => h y (by simp [hy])]
theorem findI_congr {α : Type} {p q : α → Bool} {l : List α} (h : ∀ x ∈ l, p x = q x) : findI p l = findI q l := by
  have : l.findIdx? p = l.findIdx? q := by
    induction l with
    | nil => rfl
    | cons x l ih =>
      rw [List.findIdx?_cons, List.findIdx?_cons, h x (by simp), ih fun y hy => h y (by simp [hy])]
  rw [findI, findI, this]
theorem findI_take {α : Type} [Inhabited α] {p : α → Bool} {l : List α} {i : Nat} : (l.take i).any p = (decide (findI p l < (i : Int)) && l.any p) := by
  rw [← any_findIdx, ← any_findIdx, findI]
  cases h : l.findIdx? p with
  | none =>
    rw [List.findIdx?_eq_none_iff] at h
    have : (l.take i).findIdx? p = none := by
      rw [List.findIdx?_eq_none_iff]
      exact fun x hx => h x (List.mem_of_mem_take hx)
    simp [this]
  | some j =>
    rw [List.findIdx?_eq_some_iff_getElem] at h
    obtain ⟨hj, hp, hb⟩ := h
    simp only [Option.isSome_some, Bool.and_true]
    rw [any_findIdx, Bool.eq_iff_iff, List.any_eq_true, decide_eq_true_eq]
    constructor
    · rintro ⟨x, hx, hpx⟩
      obtain ⟨k, hk, rfl⟩ := List.mem_iff_getElem.1 hx
      simp only [List.length_take] at hk
      rw [List.getElem_take] at hpx
      by_cases hkj : k < j
      · have := hb k hkj
        rw [hpx] at this; simp at this
      · omega
    · intro hji
      have hji : j < i := by omega
      exact ⟨l[j], List.mem_iff_getElem.2 ⟨j, by simp; omega, by simp⟩, hp⟩
theorem loop_fold {σ R : Type} {F : (σ × Nat → Option R) → σ × Nat → Option R} {st : Nat → σ} {k : Option R} {len : Nat} (h1 : ∀ back v, v < len → F back (st v, v) = back (st (v + 1), v + 1)) (h2 : ∀ back, F back (st len, len) = k) (n : Nat) (hn : len < n) {s0 : σ} (h0 : st 0 = s0) : loopN F n (s0, 0) = k := by
  subst h0
  exact loop_through (st := fun v => (st v, v)) h1 h2 n hn
theorem loop_fold' {σ R : Type} {F : (Nat × σ → Option R) → Nat × σ → Option R} {st : Nat → σ} {k : Option R} {len : Nat} (h1 : ∀ back v, v < len → F back (v, st v) = back (v + 1, st (v + 1))) (h2 : ∀ back, F back (len, st len) = k) (n : Nat) (hn : len < n) {s0 : σ} (h0 : st 0 = s0) : loopN F n (0, s0) = k := by
  subst h0
  exact loop_through (st := fun v => (v, st v)) h1 h2 n hn
end
section
set_option maxRecDepth 4000
open Go
theorem splitL_ne (c : UInt8) : ∀ s, splitL c s ≠ []
  | [] => by simp [splitL]
  | b :: l => by
    rw [splitL]
    cases b == c with
    | true => simp
    | false =>
      rw [cond_false]
      split <;> simp
theorem joinL_one (x : List UInt8) (sep : List UInt8) : joinL [x] sep = x := Lib.join_one x sep
theorem joinL_cons (x y : List UInt8) (r : List (List UInt8)) (sep : List UInt8) : joinL (x :: y :: r) sep = x ++ sep ++ joinL (y :: r) sep := by
  rw [joinL, joinL, Lib.join_cons, Lib.join_cons]
  simp [Lib.joinTail]
theorem join_split (c : UInt8) : ∀ s, joinL (splitL c s) [c] = s
  | [] => joinL_one [] [c]
  | b :: l => by
    have ih := join_split c l
    have hne := splitL_ne c l
    rw [splitL]
    cases hb : b == c with
    | true =>
      rw [cond_true]
      have := beq_iff_eq.1 hb
      subst this
      cases hs : splitL b l with
      | nil => exact absurd hs hne
      | cons x r => rw [joinL_cons, ← hs, ih]; rfl
    | false =>
      rw [cond_false]
      cases hs : splitL c l with
      | nil => exact absurd hs hne
      | cons x r =>
        rw [hs] at ih
        simp only
        cases r with
        | nil => rw [joinL_one] at ih ⊢; rw [ih]
        | cons y r => rw [joinL_cons] at ih ⊢; rw [← ih]; simp
theorem split_no (c : UInt8) : ∀ s, ∀ x ∈ splitL c s, c ∉ x
  | [], x, h => by simp [splitL] at h; subst h; simp
  | b :: l, x, h => by
    have ih := split_no c l
    rw [splitL] at h
    cases hb : b == c with
    | true =>
      rw [hb, cond_true] at h
      rcases List.mem_cons.1 h with rfl | h
      · simp
      · exact ih x h
    | false =>
      have hne : c ≠ b := fun e => by rw [e] at hb; simp at hb
      rw [hb, cond_false] at h
      cases hs : splitL c l with
      | nil => rw [hs] at h; simp at h; subst h; simpa using hne
      | cons y r =>
        rw [hs] at h ih
        simp only at h
        rcases List.mem_cons.1 h with rfl | h
        · intro hm
          rcases List.mem_cons.1 hm with e | hm
          · exact hne e
          · exact ih y (by simp) hm
        · exact ih x (by simp [h])
theorem split_app (c : UInt8) (l : List UInt8) : ∀ x : List UInt8, c ∉ x → splitL c (x ++ c :: l) = x :: splitL c l
  | [], _ => by simp [splitL]
  | b :: x, h => by
    have hb : (b == c) = false := by simp; rintro rfl; simp at h
    have h2 : c ∉ x := fun e => h (by simp [e])
    rw [List.cons_append, splitL, hb, cond_false, split_app c l x h2]
theorem split_one (c : UInt8) : ∀ x : List UInt8, c ∉ x → splitL c x = [x]
  | [], _ => rfl
  | b :: x, h => by
    have hb : (b == c) = false := by simp; rintro rfl; simp at h
    have h2 : c ∉ x := fun e => h (by simp [e])
    rw [splitL, hb, cond_false, split_one c x h2]
theorem split_join (c : UInt8) : ∀ l : List (List UInt8), l ≠ [] → (∀ x ∈ l, c ∉ x) → splitL c (joinL l [c]) = l
  | [], h, _ => absurd rfl h
  | [x], _, h => by rw [joinL_one, split_one c x (h x (by simp))]
  | x :: y :: r, _, h => by
    rw [joinL_cons, List.append_assoc, List.singleton_append, split_app c _ x (h x (by simp)), split_join c (y :: r) (by simp) (fun z hz => h z (by simp [hz]))]
theorem dig_val (d : Nat) (h : d < 10) : (UInt8.ofNat (48 + d)).toNat = 48 + d := by
  rw [UInt8.toNat_ofNat_of_lt']
  show 48 + d < 256
  omega
theorem decFrom_snoc : ∀ (l : List UInt8) (acc m d : Nat), d < 10 → Lib.decFrom acc l = some m → Lib.decFrom acc (l ++ [UInt8.ofNat (48 + d)]) = some (m * 10 + d)
  | [], acc, m, d, hd, h => by
    simp only [Lib.decFrom, Option.some.injEq] at h
    subst h
    have := dig_val d hd
    simp only [List.nil_append, Lib.decFrom, Lib.digitVal]
    rw [this, if_pos (by omega)]
    simp
  | c :: l, acc, m, d, hd, h => by
    rw [List.cons_append]
    rw [Lib.decFrom] at h ⊢
    cases hc : Lib.digitVal c with
    | none => rw [hc] at h; cases h
    | some q => rw [hc] at h; exact decFrom_snoc l _ m d hd h
theorem decFrom_digits : ∀ u, Lib.decFrom 0 (Lib.decDigits u) = some u := fun u => by
  induction u using Nat.strongRecOn with
  | _ u ih =>
    rw [Lib.decDigits]
    split
    · rename_i h
      have := decFrom_snoc [] 0 0 u h rfl
      simpa using this
    · rename_i h
      have := decFrom_snoc _ 0 _ (u % 10) (Nat.mod_lt _ (by decide)) (ih (u / 10) (by omega))
      rw [this]; congr 1; omega
theorem decDigits_ne (u : Nat) : Lib.decDigits u ≠ [] := by
  intro h
  have := Lib.decDigits_length u
  rw [h] at this
  have := Lib.nDigits_pos u
  simp at *
  omega
theorem decDigits_dig (u : Nat) : ∀ b ∈ Lib.decDigits u, 48 ≤ b.toNat ∧ b.toNat ≤ 57 := by
  induction u using Nat.strongRecOn with
  | _ u ih =>
    intro b hb
    rw [Lib.decDigits] at hb
    split at hb
    · rename_i h
      rw [List.mem_singleton] at hb
      rw [hb, dig_val u h]; omega
    · rcases List.mem_append.1 hb with hb | hb
      · exact ih (u / 10) (by omega) b hb
      · rw [List.mem_singleton] at hb
        have h := Nat.mod_lt u (show 0 < 10 by decide)
        rw [hb, dig_val _ h]; omega
end
section
set_option maxRecDepth 4000
open Go
def magL (s : List UInt8) : List UInt8 := match s with
  | [] => []
  | b :: r => bif b == 45 then r else b :: r
def negL (s : List UInt8) : Bool := match s with
  | [] => false
  | b :: _ => b == 45
def numR (d : Nat) (s : List UInt8) : Int × Bool :=
  bif (magL s).isEmpty || decide (d < (magL s).length) then (0, false) else match Lib.decFrom 0 (magL s) with
    | none => (0, false)
    | some m => (bif negL s then -(m : Int) else (m : Int), itoaL (bif negL s then -(m : Int) else (m : Int)) == s)
def numP (d : Nat) (s : List UInt8) : Int × Bool := ((atoiL s).1, ((atoiL s).2 && (itoaL (atoiL s).1 == s)) && decide ((magL s).length ≤ d))
theorem atoiL_short {s : List UInt8} (h : s.length ≤ 18) : atoiL s = match Lib.atoi s with | some v => (v, true) | none => (0, false) := by
  rw [atoiL, Lib.atoiAll_short s h]
  cases Lib.atoi s <;> rfl
theorem magL_len (s : List UInt8) : s.length ≤ (magL s).length + 1 := by
  cases s with
  | nil => simp
  | cons b r =>
    simp only [magL]
    cases b == 45 <;> simp
theorem itoaL_head (v : Int) : ∃ b r, itoaL v = b :: r ∧ b ≠ 43 := by
  unfold itoaL Lib.itoa
  split
  · exact ⟨45, _, rfl, by decide⟩
  · cases h : Lib.decDigits v.toNat with
    | nil => exact absurd h (decDigits_ne _)
    | cons b r =>
      refine ⟨b, r, rfl, fun e => ?_⟩
      have := decDigits_dig v.toNat b (by simp [h])
      rw [e] at this
      simp at this
theorem num_eq {d : Nat} (hd10 : d ≤ 10) (s : List UInt8) : (numP d s).2 = (numR d s).2 ∧ ((numR d s).2 = true → (numP d s).1 = (numR d s).1) := by
  by_cases hl : (magL s).length ≤ d
  · have hs : s.length ≤ 18 := by have := magL_len s; omega
    unfold numP numR
    rw [atoiL_short hs, decide_eq_true hl, Bool.and_true, decide_eq_false (by omega : ¬ d < (magL s).length), Bool.or_false]
    cases s with
    | nil => simp [Lib.atoi, magL]
    | cons b r =>
      by_cases hb : b = 45
      · subst hb
        simp only [Lib.atoi, magL, negL, beq_self_eq_true, cond_true, if_true]
        cases r with
        | nil => simp [Lib.decNat]
        | cons c r =>
          simp only [Lib.decNat, List.isEmpty_cons, Bool.false_eq_true, if_false, cond_false]
          cases Lib.decFrom 0 (c :: r) <;> simp
      · have h1 : (b == 45) = false := by simp [hb]
        simp only [Lib.atoi, magL, negL, h1, cond_false, List.isEmpty_cons]
        by_cases hc : b = 43
        · subst hc
          have hd : Lib.decFrom 0 (43 :: r) = none := by
            rw [Lib.decFrom]; rfl
          rw [hd]
          simp only [Bool.false_eq_true, if_false]
          refine ⟨?_, fun h => by cases h⟩
          cases hq : Lib.decNat r with
          | none => simp
          | some m =>
            simp only [beq_self_eq_true, if_true, Option.map_some, Bool.true_and]
            obtain ⟨b, r', e, hne⟩ := itoaL_head (m : Int)
            rw [e]
            simp [hne]
        · have h2 : (b == 43) = false := by simp [hc]
          simp only [h2, Bool.false_eq_true, if_false, Lib.decNat, List.isEmpty_cons]
          cases Lib.decFrom 0 (b :: r) <;> simp
  · unfold numP numR
    rw [decide_eq_false hl, Bool.and_false, decide_eq_true (by omega : d < (magL s).length), Bool.or_true, cond_true]
    exact ⟨rfl, fun h => by cases h⟩
theorem itoaL_mag (v : Int) : magL (itoaL v) = Lib.decDigits v.natAbs ∧ negL (itoaL v) = decide (v < 0) := by
  unfold itoaL Lib.itoa
  split
  · rename_i h
    exact ⟨rfl, by simp [negL, h]⟩
  · rename_i h
    have e : v.toNat = v.natAbs := by omega
    rw [e]
    cases hd : Lib.decDigits v.natAbs with
    | nil => exact absurd hd (decDigits_ne _)
    | cons b r =>
      have := decDigits_dig v.natAbs b (by simp [hd])
      have hb : (b == 45) = false := by
        simp
        rintro rfl
        simp at this
      simp [magL, negL, hb, h]
theorem nDigits_le {d u : Nat} (hd1 : 1 ≤ d) (h : u < 10 ^ d) : Lib.nDigits u ≤ d := by
  rcases Nat.lt_or_ge u 1 with h0 | h0
  · have : u = 0 := by omega
    subst this
    rw [Lib.nDigits_small (by decide)]; omega
  · have h1 := Lib.nDigits_pos u
    rcases Nat.lt_or_ge (Lib.nDigits u) (d + 1) with h3 | h3
    · omega
    · have key : ∀ k u, 1 ≤ u → Lib.nDigits u = k + 1 → 10 ^ k ≤ u := by
        intro k
        induction k with
        | zero => intro u hu _; simpa using hu
        | succ k ih =>
          intro u hu hk
          rcases Nat.lt_or_ge u 10 with h | h
          · rw [Lib.nDigits_small h] at hk; omega
          · rw [Lib.nDigits_big (by omega)] at hk
            have := ih (u / 10) (by omega) (by omega)
            rw [Nat.pow_succ]
            omega
      have := key (Lib.nDigits u - 1) u h0 (by omega)
      have hp : 10 ^ d ≤ 10 ^ (Lib.nDigits u - 1) := Nat.pow_le_pow_right (by decide) (by omega)
      omega
theorem num_itoa {d : Nat} (hd1 : 1 ≤ d) {v : Int} (h : v.natAbs < 10 ^ d) : numR d (itoaL v) = (v, true) := by
  obtain ⟨h1, h2⟩ := itoaL_mag v
  unfold numR
  rw [h1, h2]
  have h3 := decDigits_ne v.natAbs
  have h4 : (Lib.decDigits v.natAbs).length ≤ d := by rw [Lib.decDigits_length]; exact nDigits_le hd1 h
  have h5 : (Lib.decDigits v.natAbs).isEmpty = false := by
    cases hd : Lib.decDigits v.natAbs with
    | nil => exact absurd hd h3
    | cons _ _ => rfl
  rw [h5, decide_eq_false (by omega), Bool.or_false, cond_false, decFrom_digits]
  have e : (bif decide (v < 0) then -((v.natAbs : Nat) : Int) else ((v.natAbs : Nat) : Int)) = v := by
    by_cases hv : v < 0
    · rw [decide_eq_true hv, cond_true]; omega
    · rw [decide_eq_false hv, cond_false]; omega
  simp only [e]
  simp
end
section
set_option maxRecDepth 4000
open Go
variable {n : Nat}
theorem Abs_eq {x : Int} (h : inI (-x) = true) : agraffebase_Abs n x = some ((x.natAbs : Nat) : Int) := by
  rw [agraffebase_Abs]
  by_cases hx : x < 0
  · rw [decide_eq_true hx, cond_true, h, chk_t]; congr 1; omega
  · rw [decide_eq_false hx, cond_false]; congr 1; omega
theorem dec_step {v : Int} (h : v ≠ 0) (acc : Str) : ([UInt8.ofNat (Int.toNat (IntKind.u8.wrap (48 + ((Int.tmod v 10).natAbs : Int))))] : Str) ++ acc = UInt8.ofNat (48 + v.natAbs % 10) :: acc := by
  have e : (Int.tmod v 10).natAbs = v.natAbs % 10 := by rw [Int.natAbs_tmod]; rfl
  have hlt : v.natAbs % 10 < 10 := Nat.mod_lt _ (by decide)
  have w : IntKind.u8.wrap (48 + ((v.natAbs % 10 : Nat) : Int)) = ((48 + v.natAbs % 10 : Nat) : Int) := by
    have e2 : (48 + ((v.natAbs % 10 : Nat) : Int)) = ((48 + v.natAbs % 10 : Nat) : Int) := by omega
    rw [e2]
    unfold IntKind.wrap
    simp [IntKind.bits, IntKind.signed]
    omega
  rw [e, w, Int.toNat_natCast]
  rfl
theorem Decimal_loop (k : Str → Option Str) : ∀ (f : Nat) (acc : Str) (v : Int), v.natAbs < 10 ^ f → acc.length + f ≤ 100000 → inI v = true →
    loopN (agraffebase_Decimal_L1 n k) (f + 1) (acc, v) = k (if v = 0 then acc else Lib.decDigits v.natAbs ++ acc)
  | f, acc, v, h1, h2, h3 => by
    have hr : -9223372036854775808 ≤ v ∧ v ≤ 9223372036854775807 := by simpa [inI] using h3
    rw [loopN_s, agraffebase_Decimal_L1]
    by_cases hv : v = 0
    · subst hv
      simp
    · have e : (v.tmod 10).natAbs = v.natAbs % 10 := by rw [Int.natAbs_tmod]; rfl
      have hlt : v.natAbs % 10 < 10 := Nat.mod_lt _ (by decide)
      have hd : (v.tdiv 10).natAbs = v.natAbs / 10 := by rw [Int.natAbs_tdiv]; rfl
      have i1 : inI (-(v.tmod 10)) = true := inI_of (by omega) (by omega)
      have i2 : inI (v.tdiv 10) = true := inI_of (by omega) (by omega)
      rw [bne_t hv, cond_true]
      simp only [Abs_eq i1, Option.bind_some]
      rw [dec_step hv acc, if_neg hv]
      have i3 : inI (48 + ((v.tmod 10).natAbs : Int)) = true := inI_of (by omega) (by omega)
      have hf : 1 ≤ f := by
        rcases Nat.eq_zero_or_pos f with rfl | h
        · simp at h1; omega
        · exact h
      obtain ⟨g, rfl⟩ : ∃ g, f = g + 1 := ⟨f - 1, by omega⟩
      simp only [i3, i2, nI_of (by simp; omega : (UInt8.ofNat (48 + v.natAbs % 10) :: acc).length ≤ 9223372036854775807), chk_t, bne_self_eq_false, Bool.and_true]
      have hp : (v.tdiv 10).natAbs < 10 ^ g := by
        rw [hd, Nat.div_lt_iff_lt_mul (by decide)]
        rwa [Nat.pow_succ] at h1
      have ih := Decimal_loop k g (UInt8.ofNat (48 + v.natAbs % 10) :: acc) (v.tdiv 10) hp (by simp; omega) i2
      have h10n : ((10 : Nat) != 0) = true := rfl
      rw [h10n, chk_t, chk_t]
      rw [ih, hd]
      congr 1
      by_cases hz : v.tdiv 10 = 0
      · rw [if_pos hz]
        have : v.natAbs / 10 = 0 := by rw [← hd, hz]; rfl
        have h10 : v.natAbs < 10 := by omega
        rw [Lib.decDigits_one h10, Nat.mod_eq_of_lt h10]; rfl
      · rw [if_neg hz]
        have h10 : ¬ v.natAbs < 10 := fun h => hz (by
          have : (v.tdiv 10).natAbs = 0 := by rw [hd]; omega
          omega)
        conv => rhs; rw [Lib.decDigits, dif_neg h10]
        simp
theorem Decimal_eq {v : Int} (h : inI v = true) (hn : 100 ≤ n) (hn2 : n ≤ 90000) : agraffebase_Decimal n v = some (itoaL v) := by
  have hr : -9223372036854775808 ≤ v ∧ v ≤ 9223372036854775807 := by simpa [inI] using h
  rw [agraffebase_Decimal]
  by_cases hv : v = 0
  · subst hv
    have : itoaL 0 = [48] := by
      unfold itoaL Lib.itoa
      rw [if_neg (by decide)]
      exact Lib.decDigits_one (by decide)
    rw [this]; rfl
  · have hb : (v == 0) = false := by simp [hv]
    rw [hb, cond_false, withK_eq]
    obtain ⟨f, rfl⟩ : ∃ f, n = f + 1 := ⟨n - 1, by omega⟩
    have hp : v.natAbs < 10 ^ f := by
      have h1 : 10 ^ 20 ≤ 10 ^ f := Nat.pow_le_pow_right (by decide) (by omega)
      omega
    rw [Decimal_loop _ f [] v hp (by simp; omega) h, if_neg hv, List.append_nil]
    have hl := Lib.itoa_length_le v hr.1 hr.2
    unfold itoaL
    unfold Lib.itoa at hl ⊢
    by_cases hneg : v < 0
    · rw [if_pos hneg] at hl ⊢
      rw [decide_eq_true hneg, cond_true, nI_of (by simpa using (by simp at hl; omega : (Lib.decDigits v.natAbs).length + 1 ≤ 9223372036854775807)), chk_t]
      rfl
    · rw [if_neg hneg, decide_eq_false hneg, cond_false]
      have : v.toNat = v.natAbs := by omega
      rw [this]
end
section
set_option maxRecDepth 4000
open Go
variable {n : Nat}
theorem u8_sub {b : Nat} (h1 : 48 ≤ b) (h2 : b ≤ 57) : IntKind.u8.wrap (((b : Nat) : Int) - 48) = ((b - 48 : Nat) : Int) := by
  unfold IntKind.wrap
  simp [IntKind.bits, IntKind.signed]
  omega
theorem Number_loop (s : Str) (hs : s.length ≤ 100) (k : Int → Option (Int × Bool)) : ∀ (m j f acc e : Nat), j + m = s.length → m < f → acc < 10 ^ e → e + m ≤ 12 →
    loopN (agraffebase_Number_L1 n s k) f ((acc : Int), (j : Int)) = match Lib.decFrom acc (s.drop j) with | none => some (0, false) | some q => k (q : Int)
  | 0, j, f, acc, e, hj, hf, ha, he => by
    obtain ⟨f, rfl⟩ : ∃ q, f = q + 1 := ⟨f - 1, by omega⟩
    rw [loopN_s, agraffebase_Number_L1, decide_eq_false (by omega : ¬ ((j : Nat) : Int) < ((s.length : Nat) : Int)), List.drop_eq_nil_of_le (by omega)]
    rfl
  | m + 1, j, f, acc, e, hj, hf, ha, he => by
    obtain ⟨f, rfl⟩ : ∃ q, f = q + 1 := ⟨f - 1, by omega⟩
    have hlt : j < s.length := by omega
    have hd : s.drop j = s[j] :: s.drop (j + 1) := List.drop_eq_getElem_cons hlt
    have hg : List.getD s ((j : Nat) : Int).toNat 0 = s[j] := by simp [List.getD, hlt]
    have hib : inB ((j : Nat) : Int) s.length = true := inB_of (by omega) (by omega)
    have hp : (10 : Nat) ^ e ≤ 10 ^ 11 := Nat.pow_le_pow_right (by decide) (by omega)
    rw [loopN_s, agraffebase_Number_L1, decide_eq_true (by omega : ((j : Nat) : Int) < ((s.length : Nat) : Int)), hg, hd, Lib.decFrom]
    simp only [cond_true, hib, chk_t, agraffebase_isDigit, Option.bind_some]
    by_cases hb : 48 ≤ s[j].toNat ∧ s[j].toNat ≤ 57
    · have hv : Lib.digitVal s[j] = some (s[j].toNat - 48) := by rw [Lib.digitVal, if_pos hb]
      rw [hv, u8_sub hb.1 hb.2]
      have c1 : decide ((48 : Int) ≤ ((s[j].toNat : Nat) : Int)) = true := decide_eq_true (by omega)
      have c2 : decide (((s[j].toNat : Nat) : Int) ≤ (57 : Int)) = true := decide_eq_true (by omega)
      have i1 : inI (10 * ((acc : Nat) : Int)) = true := inI_of (by omega) (by omega)
      have i2 : inI ((s[j].toNat - 48 : Nat) : Int) = true := inI_of (by omega) (by omega)
      have i3 : inI (10 * ((acc : Nat) : Int) + ((s[j].toNat - 48 : Nat) : Int)) = true := inI_of (by omega) (by omega)
      have i4 : inI (((j : Nat) : Int) + 1) = true := inI_of (by omega) (by omega)
      simp only [c1, c2, Bool.and_self, Bool.not_true, cond_false, i1, i2, i3, i4, chk_t]
      have e1 : 10 * ((acc : Nat) : Int) + ((s[j].toNat - 48 : Nat) : Int) = ((acc * 10 + (s[j].toNat - 48) : Nat) : Int) := by omega
      have e2 : ((j : Nat) : Int) + 1 = ((j + 1 : Nat) : Int) := by omega
      rw [e1, e2]
      exact Number_loop s hs k m (j + 1) f (acc * 10 + (s[j].toNat - 48)) (e + 1) (by omega) (by omega) (by rw [Nat.pow_succ]; omega) (by omega)
    · have hv : Lib.digitVal s[j] = none := by rw [Lib.digitVal, if_neg hb]
      rw [hv]
      have : ((decide ((48 : Int) ≤ ((s[j].toNat : Nat) : Int))) && (decide (((s[j].toNat : Nat) : Int) ≤ (57 : Int)))) = false := by
        rw [Bool.and_eq_false_iff]
        by_cases h : 48 ≤ s[j].toNat
        · exact .inr (decide_eq_false (by omega))
        · exact .inl (decide_eq_false (by omega))
      rw [this]
      rfl
theorem Number_eq {d : Nat} (hd10 : d ≤ 10) (s : Str) (hn : 200 ≤ n) (hn2 : n ≤ 90000) (hl : s.length ≤ 9223372036854775000) : agraffebase_Number n s ((d : Nat) : Int) = some (numR d s) := by
  have key : ∀ (b : Bool) (j : Nat), (bif b then 1 else 0) = j → negL s = b → s.drop j = magL s → j ≤ s.length →
      (chk (!(!(((s.length : Nat) : Int) == (j : Int))) || inI ((j : Int) + (d : Int))) <|
      bif ((((s.length : Nat) : Int) == (j : Int)) || (decide (((j : Int) + (d : Int)) < ((s.length : Nat) : Int)))) || (decide ((18 : Int) < (d : Int))) then
        some (0, false)
      else
        loopN (agraffebase_Number_L1 n s fun v6 => bif ((j : Int) == (1 : Int)) then chk (inI (-v6)) <| (agraffebase_Decimal n (-v6)).bind fun y8 => some (-v6, (y8 == s)) else (agraffebase_Decimal n v6).bind fun y8 => some (v6, (y8 == s))) n (0, (j : Int))) = some (numR d s) := by
    intro b j hj hneg hm hle
    have hj1 : j ≤ 1 := by cases b <;> simp at hj <;> omega
    have hlen : (magL s).length = s.length - j := by rw [← hm]; simp
    have i1 : inI ((j : Int) + (d : Int)) = true := inI_of (by omega) (by omega)
    rw [i1, Bool.or_true, chk_t, numR]
    have e0 : (magL s).isEmpty = (((s.length : Nat) : Int) == (j : Int)) := by
      by_cases h : s.length = j
      · have : magL s = [] := List.eq_nil_of_length_eq_zero (by omega)
        rw [this, h]; simp
      · have h1 : magL s ≠ [] := fun e => by rw [e] at hlen; simp at hlen; omega
        have h2 : (((s.length : Nat) : Int) == (j : Int)) = false := by simp; omega
        rw [h2]
        cases hm2 : magL s with
        | nil => exact absurd hm2 h1
        | cons _ _ => rfl
    have e1 : decide (d < (magL s).length) = decide (((j : Int) + (d : Int)) < ((s.length : Nat) : Int)) := by
      rw [hlen]
      by_cases h : d < s.length - j
      · rw [decide_eq_true h, decide_eq_true (by omega)]
      · rw [decide_eq_false h, decide_eq_false (by omega)]
    rw [e0, e1, decide_eq_false (by omega : ¬ (18 : Int) < (d : Int)), Bool.or_false]
    cases hc : ((((s.length : Nat) : Int) == (j : Int)) || (decide (((j : Int) + (d : Int)) < ((s.length : Nat) : Int)))) with
    | true => rfl
    | false =>
      rw [Bool.or_eq_false_iff, decide_eq_false_iff_not] at hc
      simp only [cond_false]
      have hlp := Number_loop (n := n) s (by omega) (fun v6 => bif ((j : Int) == (1 : Int)) then chk (inI (-v6)) <| (agraffebase_Decimal n (-v6)).bind fun y8 => some (-v6, (y8 == s)) else (agraffebase_Decimal n v6).bind fun y8 => some (v6, (y8 == s)))
        (s.length - j) j n 0 0 (by omega) (by omega) (by decide) (by omega)
      rw [hm] at hlp
      refine hlp.trans ?_
      cases hd : Lib.decFrom 0 (magL s) with
      | none => rfl
      | some m =>
        simp only
        have h1 := Lib.decFrom_lt _ _ _ hd
        have h2 : 10 ^ (magL s).length ≤ 10 ^ 10 := Nat.pow_le_pow_right (by decide) (by omega)
        have h3 : m < 10000000000 := by
          have : (0 + 1) * 10 ^ (magL s).length ≤ 10000000000 := by omega
          omega
        rw [hneg]
        cases b with
        | true =>
          have : j = 1 := hj.symm
          subst this
          have i2 : inI (-((m : Nat) : Int)) = true := inI_of (by omega) (by omega)
          have e3 : (((1 : Nat) : Int) == (1 : Int)) = true := by decide
          simp only [e3, cond_true, i2, chk_t, Decimal_eq i2 (by omega : 100 ≤ n) hn2, Option.bind_some]
        | false =>
          have : j = 0 := hj.symm
          subst this
          have i2 : inI ((m : Nat) : Int) = true := inI_of (by omega) (by omega)
          have e3 : (((0 : Nat) : Int) == (1 : Int)) = false := by decide
          simp only [e3, cond_false, Decimal_eq i2 (by omega : 100 ≤ n) hn2, Option.bind_some]
  rw [agraffebase_Number]
  simp only [withK_eq]
  cases s with
  | nil => exact key false 0 rfl rfl rfl (by simp)
  | cons b r =>
    by_cases hb : b = 45
    · subst hb
      exact key true 1 rfl (by simp [negL]) (by simp [magL]) (by simp)
    · have h1 : (b == 45) = false := by simp [hb]
      have h2 : ((((List.getD (b :: r) 0 0).toNat : Nat) : Int) == (45 : Int)) = false := by
        simp only [List.getD_cons_zero, beq_eq_false_iff_ne, ne_eq]
        intro e
        have : b.toNat = 45 := by omega
        exact hb (UInt8.toNat.inj this)
      rw [h2, Bool.and_false, cond_false]
      exact key false 0 rfl (by simp [negL, h1]) (by simp [magL, h1]) (by simp)
theorem number_eq {d : Nat} (s : Str) (hl : s.length ≤ 281474976710656) : restore_number n s ((d : Nat) : Int) = some (numP d s) := by
  have hat : strconv_Atoi n s = some (atoiL s) := by
    rw [strconv_Atoi, Nat.ble_eq_true_of_le hl, chk_t]
  have hin : (atoiL s).2 = true → inI (atoiL s).1 = true := by
    intro h
    unfold atoiL at h ⊢
    cases hs : Lib.atoiAll s with
    | ok v => have := Lib.atoiAll_bounds hs; exact inI_of this.1 this.2
    | range => rw [hs] at h; cases h
    | _ => rw [hs] at h; cases h
  have htr : strings_TrimPrefix n s ([45] : Str) = some (magL s) := by
    rw [strings_TrimPrefix, internal_stringslite_TrimPrefix, internal_stringslite_HasPrefix]
    cases s with
    | nil => rfl
    | cons b r =>
      show ((bif (decide (1 ≤ r.length + 1) && (([b] : Str) == [45])) then chk (decide (1 ≤ r.length + 1)) (some r) else some (b :: r)).bind fun y1 => some y1) = some (bif b == 45 then r else b :: r)
      rw [decide_eq_true (by omega : 1 ≤ r.length + 1)]
      by_cases hb : b = 45
      · subst hb; rfl
      · have h1 : (b == 45) = false := by simp [hb]
        have h2 : (([b] : Str) == [45]) = false := by simp [hb]
        rw [h1, h2]; rfl
  have hq : decide ((((magL s).length : Nat) : Int) ≤ ((d : Nat) : Int)) = decide ((magL s).length ≤ d) := by simp only [Int.ofNat_le]
  rw [restore_number, hat, numP]
  simp only [Option.bind_some]
  cases h : (atoiL s).2 with
  | false => rfl
  | true =>
    simp only [gcall, cond_true, strconv_Itoa, hin h, chk_t, Option.bind_some, Bool.true_and]
    cases h2 : itoaL (atoiL s).1 == s with
    | false => rfl
    | true => simp only [cond_true, htr, Option.bind_some, hq]
theorem Cut_loop (s : Str) (hs : s.length ≤ 100000) (c : UInt8) (k : List Str → Option (List Str)) : ∀ (m i f : Nat) (out : List Str) (frm : Nat), i + m = s.length → m + 2 ≤ f → frm ≤ i → out.length ≤ i → c ∉ (s.drop frm).take (i - frm) →
    loopN (agraffebase_Cut_L1 s (c.toNat : Int) k) f (out, frm, i) = k (out ++ splitL c (s.drop frm))
  | m, i, f, out, frm, hi, hf, hfr, ho, hc => by
    obtain ⟨f, rfl⟩ : ∃ q, f = q + 1 := ⟨f - 1, by omega⟩
    have hnI : nI (i + 1) = true := nI_of (by omega)
    have hroom : ∀ x : Str, room 16 (out ++ ([x] : List Str)).length = true := fun x => room_of (by simp; omega) (by simp; omega)
    rw [loopN_s, agraffebase_Cut_L1, decide_eq_true (by omega : i ≤ s.length), cond_true, withK_eq]
    by_cases he : i = s.length
    · have hend : loopN (agraffebase_Cut_L1 s (c.toNat : Int) k) f (out ++ [(s.drop frm).take (i - frm)], i + 1, i + 1) = k (out ++ [(s.drop frm).take (i - frm)]) := by
        obtain ⟨f, rfl⟩ : ∃ q, f = q + 1 := ⟨f - 1, by omega⟩
        rw [loopN_s, agraffebase_Cut_L1, decide_eq_false (by omega : ¬ i + 1 ≤ s.length)]; rfl
      rw [decide_eq_true he]
      simp only [Bool.not_true, Bool.not_false, Bool.true_or, Bool.or_true, chk_t, cond_true, hroom, hnI, decide_eq_true hfr, hend]
      have ht : (s.drop frm).take (i - frm) = s.drop frm := List.take_of_length_le (by simp; omega)
      rw [ht] at hc ⊢
      rw [split_one c _ hc]
    · have hlt : i < s.length := by omega
      obtain ⟨m, rfl⟩ : ∃ q, m = q + 1 := ⟨m - 1, by omega⟩
      have hg : List.getD s i 0 = s[i] := by simp [List.getD, hlt]
      have hcut : s.drop frm = (s.drop frm).take (i - frm) ++ s[i] :: s.drop (i + 1) := by
        have h1 := (List.take_append_drop (i - frm) (s.drop frm)).symm
        rw [List.drop_drop, Nat.add_sub_cancel' hfr] at h1
        rw [← List.drop_eq_getElem_cons hlt]; exact h1
      rw [decide_eq_false he, decide_eq_true hlt, hg]
      simp only [Bool.not_true, Bool.not_false, Bool.false_or, Bool.or_true, chk_t]
      by_cases hb : s[i] = c
      · have h1 : ((((s[i]).toNat : Nat) : Int) == (c.toNat : Int)) = true := by rw [hb]; simp
        rw [h1]
        simp only [cond_true, hroom, hnI, chk_t, decide_eq_true hfr]
        rw [Cut_loop s hs c k m (i + 1) f _ (i + 1) (by omega) (by omega) (Nat.le_refl _) (by simp; omega) (by simp)]
        congr 1
        conv => rhs; rw [hcut, hb, split_app c _ _ hc]
        simp
      · have h1 : ((((s[i]).toNat : Nat) : Int) == (c.toNat : Int)) = false := by
          simp only [beq_eq_false_iff_ne, ne_eq]
          intro e
          exact hb (UInt8.toNat.inj (by omega))
        rw [h1]
        simp only [cond_false, hnI, chk_t]
        refine Cut_loop s hs c k m (i + 1) f out frm (by omega) (by omega) (by omega) (by omega) ?_
        have e : (s.drop frm).take (i + 1 - frm) = (s.drop frm).take (i - frm) ++ [s[i]] := by
          have h2 : i + 1 - frm = (i - frm) + 1 := by omega
          rw [h2, List.take_succ_eq_append_getElem (by simp; omega)]
          congr 2
          simp only [List.getElem_drop]
          congr 1; omega
        rw [e]
        intro hm
        rcases List.mem_append.1 hm with h | h
        · exact hc h
        · rw [List.mem_singleton] at h; exact hb h.symm
theorem Cut_eq (s : Str) (hs : s.length ≤ 1000) (hn : 1100 ≤ n) : agraffebase_Cut n s 32 = some (splitL 32 s) := by
  rw [agraffebase_Cut, withK_eq]
  have := Cut_loop s (by omega) 32 (fun v8 => some v8) s.length 0 n [] 0 (by omega) (by omega) (Nat.le_refl _) (by simp) (by simp)
  simpa using this
end
section
set_option maxRecDepth 4000
open Go
theorem getD_ix (s : Str) (v : Nat) : List.getD s v 0 = ix s v := by
  simp only [ix, List.getD]; rfl
theorem isName_loop (s : Str) (k : Unit → Option Bool) : ∀ (n v : Nat), s.length - v < n → 0 < v → s.length < 9223372036854775807 → loopN (restore_isName_L1 s k) n v = bif (s.drop v).all okC then k () else some false := by
  intro n
  induction n with
  | zero => intro v h; omega
  | succ n ih =>
    intro v hn hv hl
    rw [loopN_s, restore_isName_L1]
    by_cases h : v < s.length
    · rw [drop_ix h]
      have h2 : ¬ v = 0 := by omega
      simp only [h, decide_true, cond_true, h2, decide_false, Bool.false_or, List.all_cons, nI_of (by omega : v + 1 ≤ 9223372036854775807), chk_t]
      rw [ih (v + 1) (by omega) (by omega) hl]
      have key : (!((decide ((97 : Int) ≤ (((ix s v).toNat : Nat) : Int)) && decide ((((ix s v).toNat : Nat) : Int) ≤ (122 : Int))) || (decide ((65 : Int) ≤ (((ix s v).toNat : Nat) : Int)) && decide ((((ix s v).toNat : Nat) : Int) ≤ (90 : Int)))) && (((((ix s v).toNat : Nat) : Int) != (45 : Int)) && (decide ((((ix s v).toNat : Nat) : Int) < (48 : Int)) || decide ((57 : Int) < (((ix s v).toNat : Nat) : Int))))) = !okC (ix s v) := by
        have hd : (decide ((((ix s v).toNat : Nat) : Int) < (48 : Int)) || decide ((57 : Int) < (((ix s v).toNat : Nat) : Int))) = !isD (ix s v) := by
          simp only [isD, Bool.not_and, ← decide_not, Int.not_le]
        rw [hd]
        show (!isL (ix s v) && _) = _
        simp only [okC]
        cases isL (ix s v) <;> cases isD (ix s v) <;> cases hh : (((((ix s v).toNat : Nat) : Int)) == (45 : Int)) <;> simp [bne, hh]
      rw [key]
      cases okC (ix s v) <;> simp
    · rw [drop_nil h]
      simp [h]
theorem isName_eq (s : Str) (n : Nat) (hn : s.length + 1 < n) (hl : s.length < 9223372036854775807) : restore_isName n s = some (nameB s) := by
  obtain ⟨n, rfl⟩ : ∃ m, n = m + 1 := ⟨n - 1, by omega⟩
  rw [restore_isName, withK_eq, loopN_s, restore_isName_L1]
  cases s with
  | nil => simp [nameB]
  | cons c r =>
    have h0 : 0 < (c :: r).length := by simp
    have hix : ix (c :: r) 0 = c := rfl
    simp only [h0, decide_true, cond_true, hix, Bool.true_or, Bool.and_true, nI_of (by simp : 0 + 1 ≤ 9223372036854775807), chk_t]
    rw [isName_loop _ _ n 1 (by simp at hn ⊢; omega) (by omega) hl]
    show (bif !isL c then some false else _) = _
    simp only [nameB, List.drop_succ_cons, List.drop_zero]
    cases hL : isL c <;> cases hA : r.all okC <;> simp
    omega
theorem IsName_loop (s : Str) (n0 : Nat) (k : Unit → Option Bool) : ∀ (n v : Nat), s.length - v < n → s.length < 9223372036854775807 → loopN (agraffebase_IsName_L1 n0 s k) n v = bif (s.drop v).all okC then k () else some false := by
  intro n
  induction n with
  | zero => intro v h; omega
  | succ n ih =>
    intro v hn hl
    rw [loopN_s, agraffebase_IsName_L1]
    by_cases h : v < s.length
    · rw [drop_ix h]
      simp only [h, decide_true, cond_true, agraffebase_isLetter, agraffebase_isDigit, gcall_some_, Option.bind_some, getD_ix, List.all_cons, nI_of (by omega : v + 1 ≤ 9223372036854775807), chk_t]
      rw [ih (v + 1) (by omega) hl]
      show (bif ((!isL (ix s v)) && (!isD (ix s v))) && ((((ix s v).toNat : Nat) : Int) != (45 : Int)) then _ else _) = _
      simp only [okC]
      cases isL (ix s v) <;> cases isD (ix s v) <;> cases hh : (((((ix s v).toNat : Nat) : Int)) == (45 : Int)) <;> simp [bne, hh]
    · rw [drop_nil h]
      simp [h]
theorem IsName_eq (s : Str) (n : Nat) (hn : s.length + 1 < n) (hl : s.length < 9223372036854775807) : agraffebase_IsName n s = some (nameB s) := by
  rw [agraffebase_IsName]
  simp only [agraffebase_isLetter, gcall_some_, Option.bind_some, getD_ix, withK_eq]
  rw [IsName_loop _ _ _ _ _ (by omega) hl]
  cases s with
  | nil => simp [nameB]
  | cons c r =>
    have h0 : ¬ (c :: r).length = 0 := by simp
    have h1 : 0 < (c :: r).length := by simp
    have hix : ix (c :: r) 0 = c := rfl
    simp only [h0, h1, decide_true, decide_false, Bool.false_or, Bool.or_true, chk_t, hix, List.drop_zero]
    show (bif (decide (12 < (c :: r).length)) || (!isL c) then _ else _) = _
    simp only [nameB, List.all_cons, okC, List.length_cons]
    by_cases hlen : r.length < 12
    · have : ¬ 12 < r.length + 1 := by omega
      cases hL : isL c <;> cases hA : r.all okC <;> simp [this, hlen, hA]
    · have : 12 < r.length + 1 := by omega
      simp [this, hlen]
end
section
set_option maxRecDepth 4000
open Go
structure OkT (t : List Task) : Prop where
  len : t.length ≤ 900
  name : ∀ x ∈ t, x.Name.length ≤ 900
  needs : ∀ x ∈ t, x.Needs.length ≤ 900
  oneof : ∀ x ∈ t, x.OneOf.length ≤ 800
  group : ∀ x ∈ t, ∀ g ∈ x.OneOf, g.length ≤ 900
  lead : ∀ x ∈ t, x.Needs.length + x.OneOf.flatten.length ≤ 900
  parts : ∀ x ∈ t, x.Parts.length ≤ 900
  part : ∀ x ∈ t, ∀ p ∈ x.Parts, p.Part.length ≤ 900
variable {n : Nat}
def byName (s : Str) (x : Task) : Bool := x.Name == s
theorem Find_eq (t : List Task) (s : Str) (hn : t.length < n) (hl : t.length < 9223372036854775807) : agrafferef08_Find n t s = some (findI (byName s) t) := by
  rw [agrafferef08_Find, withK_eq]
  refine loop_findI (fun back v hv => ?_) (fun back => ?_) n hn
  · rw [agrafferef08_Find_L1]; simp only [hv, decide_true, cond_true, nI_of (by omega : v + 1 ≤ 9223372036854775807), chk_t]; rfl
  · rw [agrafferef08_Find_L1]; simp
theorem find_eq (t : List Task) (s : Str) (hn : t.length < n) (hl : t.length < 9223372036854775807) : restore_list_find n t s = some (findI (byName s) t) := by
  rw [restore_list_find, slices_IndexFunc_Task, withK_eq, loop_findI (p := byName s) (fun back v hv => ?_) (fun back => ?_) n hn]
  · rfl
  · rw [slices_IndexFunc_Task_L1]; simp only [hv, restore_list_find_f1, Option.bind_some, decide_true, cond_true, nI_of (by omega : v + 1 ≤ 9223372036854775807), chk_t]; rfl
  · rw [slices_IndexFunc_Task_L1]; simp
def byPartC (s : Str) (x : PartCount) : Bool := x.Part == s
theorem FindPart_eq (l : List PartCount) (s : Str) (hn : l.length < n) (hl : l.length < 9223372036854775807) : agrafferef08_FindPart n l s = some (findI (byPartC s) l) := by
  rw [agrafferef08_FindPart, withK_eq]
  refine loop_findI (fun back v hv => ?_) (fun back => ?_) n hn
  · rw [agrafferef08_FindPart_L1]; simp only [hv, decide_true, cond_true, nI_of (by omega : v + 1 ≤ 9223372036854775807), chk_t]; rfl
  · rw [agrafferef08_FindPart_L1]; simp
theorem ContainsPart_eq (l : List PartCount) (s : Str) (c : Int) (hn : l.length < n) (hl : l.length < 9223372036854775807) : slices_ContainsFunc_PartCount n l s c = some (l.any (byPartC s)) := by
  rw [slices_ContainsFunc_PartCount, slices_IndexFunc_PartCount, withK_eq, loop_findI (p := byPartC s) (fun back v hv => ?_) (fun back => ?_) n hn]
  · simp only [Option.bind_some, findI_any]
  · rw [slices_IndexFunc_PartCount_L1]; simp only [hv, restore_checkCounts_f1, Option.bind_some, decide_true, cond_true, nI_of (by omega : v + 1 ≤ 9223372036854775807), chk_t]; rfl
  · rw [slices_IndexFunc_PartCount_L1]; simp
def isS (s : Str) (x : Str) : Bool := x == s
theorem HasText_eq (l : List Str) (s : Str) (hn : l.length < n) (hl : l.length < 9223372036854775807) : agraffebase_HasText n l s = some (l.any (isS s)) := by
  rw [agraffebase_HasText, withK_eq, loop_any' (p := isS s) (fun back v hv => ?_) (fun back => ?_) n hn]
  · cases l.any (isS s) <;> rfl
  · rw [agraffebase_HasText_L1]; simp only [hv, decide_true, cond_true, nI_of (by omega : v + 1 ≤ 9223372036854775807), chk_t]; rfl
  · rw [agraffebase_HasText_L1]; simp
theorem HasText2_eq (l : List Str) (s : Str) (hn : l.length < n) (hl : l.length < 9223372036854775807) : agraffebase_HasText_2 n l s = some (l.any (isS s)) := by
  rw [agraffebase_HasText_2, withK_eq, loop_any' (p := isS s) (fun back v hv => ?_) (fun back => ?_) n hn]
  · cases l.any (isS s) <;> rfl
  · rw [agraffebase_HasText_2_L1]; simp only [hv, decide_true, cond_true, nI_of (by omega : v + 1 ≤ 9223372036854775807), chk_t]; rfl
  · rw [agraffebase_HasText_2_L1]; simp
theorem isS_comm (s x : Str) : (s == x) = isS s x := by
  unfold isS
  rw [Bool.eq_iff_iff, beq_iff_eq, beq_iff_eq]
  exact eq_comm
theorem Contains_eq (l : List Str) (s : Str) (hn : l.length < n) (hl : l.length < 9223372036854775807) : slices_Contains_string n l s = some (l.any (isS s)) := by
  rw [slices_Contains_string, slices_Index_string, withK_eq, loop_findI (p := isS s) (fun back v hv => ?_) (fun back => ?_) n hn]
  · simp only [Option.bind_some, findI_any]
  · rw [slices_Index_string_L1]; simp only [hv, decide_true, cond_true, nI_of (by omega : v + 1 ≤ 9223372036854775807), chk_t, isS_comm]
  · rw [slices_Index_string_L1]; simp
theorem Contains2_eq (l : List Str) (s : Str) (hn : l.length < n) (hl : l.length < 9223372036854775807) : slices_Contains_string_2 n l s = some (l.any (isS s)) := by
  rw [slices_Contains_string_2, slices_Index_string_2, withK_eq, loop_findI (p := isS s) (fun back v hv => ?_) (fun back => ?_) n hn]
  · simp only [Option.bind_some, findI_any]
  · rw [slices_Index_string_2_L1]; simp only [hv, decide_true, cond_true, nI_of (by omega : v + 1 ≤ 9223372036854775807), chk_t, isS_comm]
  · rw [slices_Index_string_2_L1]; simp
theorem loop_errs {F : (Nat → Option Int) → Nat → Option Int} {E : Nat → Int} {k : Int} {len : Nat}
    (h1 : ∀ back v, v < len → F back v = bif E v != 0 then some (E v) else back (v + 1)) (h2 : ∀ back, F back len = some k) (hn : len < n) :
    loopN F n 0 = some (bif firstE E 0 len != 0 then firstE E 0 len else k) := by
  rw [loop_first (st := fun v => v) (E := E) (err := some) (k := some k) (len := len) (fun back v hv _ => h1 back v hv) (fun back _ => h2 back) n 0 (by omega) (by omega) (fun j h => by omega), Nat.sub_zero]
  cases firstE E 0 len != 0 <;> rfl
theorem bif_int {x : Int} : (bif x != 0 then x else 0) = x := by
  by_cases h : x = 0
  · simp [h]
  · rw [bne_t h]; rfl
def knownE (t : List Task) (l : List Str) (v : Nat) : Int := bif !t.any (byName (ix l v)) then 6 else bif (l.take v).any (isS (ix l v)) then 5 else 0
def known (t : List Task) (l : List Str) : Int := firstE (knownE t l) 0 l.length
theorem known_res {t : List Task} (l : List Str) (hn : 1000 < n) (ht : t.length ≤ 900) (hl : l.length ≤ 900) : restore_list_known n t l = some (known t l) := by
  rw [restore_list_known, withK_eq, loop_errs (E := knownE t l) (k := 0) (fun back v hv => ?_) (fun back => ?_) (by omega : l.length < n), bif_int]; rfl
  · rw [restore_list_known_L1]
    have hle : v ≤ l.length := by omega
    simp only [hv, hle, decide_true, cond_true, find_eq t (ix l v) (by omega : t.length < n) (by omega), Option.bind_some, findI_none, chk_t, Contains_eq (n := n) (l.take v) (ix l v) (by simp; omega) (by simp; omega), nI_of (by omega : v + 1 ≤ 9223372036854775807), knownE]
    cases !t.any (byName (ix l v)) <;> cases (l.take v).any (isS (ix l v)) <;> rfl
  · rw [restore_list_known_L1]; simp
theorem known_ref {t : List Task} (l : List Str) (hn : 1000 < n) (ht : t.length ≤ 900) (hl : l.length ≤ 900) : agrafferef08_tasks n t l = some (known t l) := by
  rw [agrafferef08_tasks, withK_eq, loop_errs (E := knownE t l) (k := 0) (fun back v hv => ?_) (fun back => ?_) (by omega : l.length < n), bif_int]; rfl
  · rw [agrafferef08_tasks_L1]
    have hle : v ≤ l.length := by omega
    simp only [hv, hle, decide_true, cond_true, Find_eq t (ix l v) (by omega : t.length < n) (by omega), Option.bind_some, findI_none, chk_t, HasText_eq (n := n) (l.take v) (ix l v) (by simp; omega) (by simp; omega), nI_of (by omega : v + 1 ≤ 9223372036854775807), knownE]
    cases !t.any (byName (ix l v)) <;> cases (l.take v).any (isS (ix l v)) <;> rfl
  · rw [agrafferef08_tasks_L1]; simp
theorem known_zero {t : List Task} {l : List Str} (h : known t l = 0) : ∀ s ∈ l, t.any (byName s) = true := by
  intro s hs
  obtain ⟨i, hi, rfl⟩ := List.mem_iff_getElem.1 hs
  have := firstE_zero h i (by omega) (by omega)
  unfold knownE at this
  rw [ix_eq hi] at this
  cases h1 : t.any (byName l[i])
  · rw [h1] at this; simp at this
  · rfl
def cntE (l : List PartCount) (most : Int) (v : Nat) : Int :=
  bif !nameB (ix l v).Part then 4 else bif (l.take v).any (byPartC (ix l v).Part) then 5 else bif !((decide (1 ≤ (ix l v).Count)) && (decide ((ix l v).Count ≤ most))) then 2 else 0
def cnts (l : List PartCount) (most : Int) : Int := firstE (cntE l most) 0 l.length
theorem counts_res {l : List PartCount} (most : Int) (hn : 1000 < n) (hl : l.length ≤ 900) (hs : ∀ x ∈ l, x.Part.length ≤ 900) : restore_checkCounts n l most = some (cnts l most) := by
  rw [restore_checkCounts, withK_eq, loop_errs (E := cntE l most) (k := 0) (fun back v hv => ?_) (fun back => ?_) (by omega : l.length < n), bif_int]; rfl
  · rw [restore_checkCounts_L1]
    have h1 := hs _ (ix_mem hv)
    have hle : v ≤ l.length := by omega
    simp only [hv, hle, decide_true, cond_true, isName_eq (ix l v).Part n (by omega) (by omega), Option.bind_some, chk_t, ContainsPart_eq (n := n) (l.take v) (ix l v).Part (ix l v).Count (by simp; omega) (by simp; omega), restore_within, nI_of (by omega : v + 1 ≤ 9223372036854775807), cntE]
    cases nameB (ix l v).Part <;> cases (l.take v).any (byPartC (ix l v).Part) <;> cases (decide (1 ≤ (ix l v).Count)) && (decide ((ix l v).Count ≤ most)) <;> rfl
  · rw [restore_checkCounts_L1]; simp
theorem counts_ref {l : List PartCount} (most : Int) (hn : 1000 < n) (hl : l.length ≤ 900) (hs : ∀ x ∈ l, x.Part.length ≤ 900) : agrafferef08_counts n l most = some (cnts l most) := by
  rw [agrafferef08_counts, withK_eq, loop_errs (E := cntE l most) (k := 0) (fun back v hv => ?_) (fun back => ?_) (by omega : l.length < n), bif_int]; rfl
  · rw [agrafferef08_counts_L1]
    have h1 := hs _ (ix_mem hv)
    have hle : v ≤ l.length := by omega
    simp only [hv, hle, decide_true, cond_true, IsName_eq (ix l v).Part n (by omega) (by omega), Option.bind_some, chk_t, FindPart_eq (n := n) (l.take v) (ix l v).Part (by simp; omega) (by simp; omega), findI_any, agraffebase_Within, nI_of (by omega : v + 1 ≤ 9223372036854775807), cntE]
    cases nameB (ix l v).Part <;> cases (l.take v).any (byPartC (ix l v).Part) <;> cases (decide (1 ≤ (ix l v).Count)) && (decide ((ix l v).Count ≤ most)) <;> rfl
  · rw [agrafferef08_counts_L1]; simp
def grpE (t : List Task) (gs : List (List Str)) (v : Nat) : Int := bif decide ((ix gs v).length = 0) then 10 else known t (ix gs v)
def large (x : Task) : Bool := ((decide (10 < x.Needs.length) || decide (6 < x.OneOf.length)) || x.OneOf.any (fun g => decide (6 < g.length))) || decide (10 < x.Parts.length)
def taskE (t : List Task) (i : Nat) : Int :=
  bif !nameB (ix t i).Name then 4 else bif decide (findI (byName (ix t i).Name) t < (i : Int)) then 5
  else bif (!((decide (0 ≤ (ix t i).Cents)) && (decide ((ix t i).Cents ≤ 1000000000)))) || (!((decide (0 ≤ (ix t i).Hours)) && (decide ((ix t i).Hours ≤ 10000)))) then 2
  else bif large (ix t i) then 8 else bif known t (ix t i).Needs != 0 then known t (ix t i).Needs
  else bif firstE (grpE t (ix t i).OneOf) 0 (ix t i).OneOf.length != 0 then firstE (grpE t (ix t i).OneOf) 0 (ix t i).OneOf.length else cnts (ix t i).Parts 1000
theorem large_res (gs : List (List Str)) (hn : gs.length < n) (hl : gs.length < 9223372036854775807) : slices_ContainsFunc_string n gs = some (gs.any (fun g => decide (6 < g.length))) := by
  rw [slices_ContainsFunc_string, slices_IndexFunc_string, withK_eq, loop_findI (p := fun g => decide (6 < g.length)) (fun back v hv => ?_) (fun back => ?_) n hn]
  · simp only [Option.bind_some, findI_any]
  · rw [slices_IndexFunc_string_L1]; simp only [hv, restore_list_checkTask_f1, Option.bind_some, decide_true, cond_true, nI_of (by omega : v + 1 ≤ 9223372036854775807), chk_t]
  · rw [slices_IndexFunc_string_L1]; simp
theorem task_res {t : List Task} (h : OkT t) (hn : 1000 < n) {i : Nat} (hi : i < t.length) : restore_list_checkTask n t ((i : Nat) : Int) = some (taskE t i) := by
  have hx := ix_mem hi
  have hlen := h.len
  have h1 := h.name _ hx
  have h2 := h.needs _ hx
  have h3 := h.oneof _ hx
  have h4 := h.parts _ hx
  rw [restore_list_checkTask]
  have e : ((i : Nat) : Int).toNat = i := by omega
  have hin : inB ((i : Nat) : Int) t.length = true := inB_of (by omega) (by omega)
  simp only [e, hin, hi, decide_true, chk_t, isName_eq (ix t i).Name n (by omega) (by omega), Option.bind_some, find_eq t (ix t i).Name (by omega : t.length < n) (by omega), restore_within, gcall_some_,
    large_res (n := n) (ix t i).OneOf (by omega) (by omega), known_res (n := n) (t := t) (ix t i).Needs hn (by omega) (by omega), withK_eq, counts_res (n := n) (l := (ix t i).Parts) 1000 hn (by omega) (h.part _ hx)]
  rw [loop_errs (E := grpE t (ix t i).OneOf) (k := cnts (ix t i).Parts 1000) (len := (ix t i).OneOf.length) (fun back v hv => ?_) (fun back => ?_) (by omega)]
  · unfold taskE large
    cases nameB (ix t i).Name
    · rfl
    cases decide (findI (byName (ix t i).Name) t < (i : Int))
    · cases (!((decide (0 ≤ (ix t i).Cents)) && (decide ((ix t i).Cents ≤ 1000000000)))) || (!((decide (0 ≤ (ix t i).Hours)) && (decide ((ix t i).Hours ≤ 10000))))
      · simp only [Bool.not_true, cond_false]
        cases decide (10 < (ix t i).Needs.length) || decide (6 < (ix t i).OneOf.length)
        · simp only [Bool.not_false, cond_true, Bool.false_or]
          cases ((ix t i).OneOf.any fun g => decide (6 < g.length)) || decide (10 < (ix t i).Parts.length)
          · cases known t (ix t i).Needs != 0 <;> rfl
          · rfl
        · simp
      · rfl
    · rfl
  · rw [restore_list_checkTask_L1]
    have hg := h.group _ hx _ (ix_mem hv)
    simp only [e, hv, decide_true, cond_true, chk_t, known_res (n := n) (t := t) (ix (ix t i).OneOf v) hn (by omega) (by omega), Option.bind_some, nI_of (by omega : v + 1 ≤ 9223372036854775807), grpE]
    cases decide ((ix (ix t i).OneOf v).length = 0)
    · rfl
    · rfl
  · rw [restore_list_checkTask_L1]
    simp [e]
theorem task_ref {t : List Task} (h : OkT t) (hn : 1000 < n) {i : Nat} (hi : i < t.length) : agrafferef08_task n t ((i : Nat) : Int) = some (taskE t i) := by
  have hx := ix_mem hi
  have hlen := h.len
  have h1 := h.name _ hx
  have h2 := h.needs _ hx
  have h3 := h.oneof _ hx
  have h4 := h.parts _ hx
  rw [agrafferef08_task]
  have e : ((i : Nat) : Int).toNat = i := by omega
  have hin : inB ((i : Nat) : Int) t.length = true := inB_of (by omega) (by omega)
  have hic : inC ((i : Nat) : Int) t.length = true := inC_of (by omega) (by omega)
  have hself : t.any (byName (ix t i).Name) = true := List.any_eq_true.2 ⟨_, hx, by simp [byName]⟩
  have hft : decide ((0 : Int) ≤ findI (byName (ix t i).Name) (t.take i)) = decide (findI (byName (ix t i).Name) t < (i : Int)) := by
    rw [findI_any, findI_take, hself, Bool.and_true]
  simp only [e, hin, hic, hi, decide_true, chk_t, IsName_eq (ix t i).Name n (by omega) (by omega), Option.bind_some, Find_eq (n := n) (t.take i) (ix t i).Name (by simp; omega) (by simp; omega), hft, agraffebase_Within, gcall_some_,
    known_ref (n := n) (t := t) (ix t i).Needs hn (by omega) (by omega), withK_eq, counts_ref (n := n) (l := (ix t i).Parts) 1000 hn (by omega) (h.part _ hx)]
  rw [loop_errs (E := grpE t (ix t i).OneOf) (k := cnts (ix t i).Parts 1000) (len := (ix t i).OneOf.length) (fun back v hv => ?_) (fun back => ?_) (by omega)]
  · rw [loop_fold (σ := Bool) (st := fun v => ((decide (10 < (ix t i).Needs.length) || decide (6 < (ix t i).OneOf.length)) || decide (10 < (ix t i).Parts.length)) || ((ix t i).OneOf.take v).any (fun g => decide (6 < g.length))) (len := (ix t i).OneOf.length) (k := bif large (ix t i) then some 8 else bif known t (ix t i).Needs != 0 then some (known t (ix t i).Needs) else some (bif firstE (grpE t (ix t i).OneOf) 0 (ix t i).OneOf.length != 0 then firstE (grpE t (ix t i).OneOf) 0 (ix t i).OneOf.length else cnts (ix t i).Parts 1000)) (fun back v hv => ?_) (fun back => ?_) n (by omega) (by simp)]
    · unfold taskE
      cases nameB (ix t i).Name
      · rfl
      cases decide (findI (byName (ix t i).Name) t < (i : Int))
      · cases (!((decide (0 ≤ (ix t i).Cents)) && (decide ((ix t i).Cents ≤ 1000000000)))) || (!((decide (0 ≤ (ix t i).Hours)) && (decide ((ix t i).Hours ≤ 10000))))
        · simp only [Bool.not_true, cond_false]
          cases large (ix t i)
          · cases known t (ix t i).Needs != 0 <;> rfl
          · rfl
        · rfl
      · rfl
    · rw [agrafferef08_task_L1]
      simp only [e, hv, decide_true, cond_true, Bool.or_true, chk_t, nI_of (by omega : v + 1 ≤ 9223372036854775807)]
      rw [List.take_succ_eq_append_getElem hv, List.any_append, ix_eq hv]
      simp [Bool.or_assoc]
    · rw [agrafferef08_task_L1]
      have : (((decide (10 < (ix t i).Needs.length) || decide (6 < (ix t i).OneOf.length)) || decide (10 < (ix t i).Parts.length)) || (ix t i).OneOf.any (fun g => decide (6 < g.length))) = large (ix t i) := by
        unfold large
        cases decide (10 < (ix t i).Needs.length) || decide (6 < (ix t i).OneOf.length) <;> cases decide (10 < (ix t i).Parts.length) <;> cases (ix t i).OneOf.any (fun g => decide (6 < g.length)) <;> rfl
      simp only [e, Nat.lt_irrefl, decide_false, cond_false, List.take_length, this]
  · rw [agrafferef08_task_L2]
    have hg := h.group _ hx _ (ix_mem hv)
    simp only [e, hv, decide_true, cond_true, chk_t, known_ref (n := n) (t := t) (ix (ix t i).OneOf v) hn (by omega) (by omega), Option.bind_some, nI_of (by omega : v + 1 ≤ 9223372036854775807), grpE]
    cases decide ((ix (ix t i).OneOf v).length = 0)
    · rfl
    · rfl
  · rw [agrafferef08_task_L2]
    simp [e]
end
section
set_option maxRecDepth 4000
open Go
variable {n : Nat}
theorem nodup_len {α : Type} [DecidableEq α] : ∀ (l m : List α), l.Nodup → (∀ x ∈ l, x ∈ m) → l.length ≤ m.length
  | [], _, _, _ => Nat.zero_le _
  | a :: l, m, h, hs => by
    have ha : a ∈ m := hs a (by simp)
    have h2 := List.nodup_cons.1 h
    have := nodup_len l (m.erase a) h2.2 fun x hx => (List.mem_erase_of_ne (by rintro rfl; exact h2.1 hx)).2 (hs x (by simp [hx]))
    rw [List.length_erase_of_mem ha] at this
    have hm := List.length_pos_of_mem ha
    simp only [List.length_cons]; omega
theorem any_isS {l : List Str} {s : Str} : l.any (isS s) = true ↔ s ∈ l := by
  rw [List.any_eq_true]
  constructor
  · rintro ⟨x, hx, h⟩; rw [← eq_of_beq h]; exact hx
  · exact fun h => ⟨s, h, by simp [isS]⟩
theorem any_byName {t : List Task} {s : Str} : t.any (byName s) = true ↔ ∃ x ∈ t, x.Name = s := by
  rw [List.any_eq_true]
  constructor
  · rintro ⟨x, hx, h⟩; exact ⟨x, hx, eq_of_beq h⟩
  · rintro ⟨x, hx, h⟩; exact ⟨x, hx, by simp [byName, h]⟩
def leads (x : Task) : List Str := x.Needs ++ x.OneOf.flatten
theorem flatten_len {b : Nat} : ∀ (l : List (List Str)), (∀ g ∈ l, g.length ≤ b) → l.flatten.length ≤ l.length * b
  | [], _ => by simp
  | g :: l, h => by
    have h1 := h g (by simp)
    have h2 := flatten_len l fun x hx => h x (by simp [hx])
    simp only [List.flatten_cons, List.length_append, List.length_cons, Nat.succ_mul]; omega
theorem take_flatten {α : Type} [Inhabited α] {l : List (List α)} {v : Nat} (hv : v < l.length) : (l.take (v + 1)).flatten = (l.take v).flatten ++ ix l v := by
  rw [List.take_succ_eq_append_getElem hv, List.flatten_append, ix_eq hv]; simp
theorem Grow_eq (a : Nat) (ha : a ≤ 100000) : slices_Grow_string n ((a : Nat) : Int) = some [] := by
  rw [slices_Grow_string]
  have h1 : ¬ ((a : Nat) : Int) < 0 := by omega
  have h2 : ((a : Nat) : Int) - (0 - 0) = (a : Int) := by omega
  have h3 : (((a : Nat) : Int)).toNat = a := by omega
  simp only [h1, h2, decide_false, cond_false, withK_eq]
  rw [chk_of (inI_of (by omega) (by omega)), chk_of (inI_of (by omega) (by omega))]
  by_cases h : 0 < a
  · have h4 : (0 : Int) < ((a : Nat) : Int) := by omega
    have h5 : (0 : Int) ≤ ((a : Nat) : Int) := by omega
    have hr : room 16 a = true := room_of (by omega) (by omega)
    simp [h4, h5, h3, h, hr]
  · have h4 : ¬ (0 : Int) < ((a : Nat) : Int) := by omega
    simp only [h4, decide_false, cond_false]
theorem Concat_eq (l : List (List Str)) (hl : l.length ≤ 900) (hs : l.flatten.length ≤ 10000) (hn : 1000 < n) : slices_Concat_string n l = some l.flatten := by
  have htk : ∀ v, v ≤ l.length → (l.take v).flatten.length ≤ l.flatten.length := by
    intro v _
    have : l.flatten = (l.take v).flatten ++ (l.drop v).flatten := by rw [← List.flatten_append, List.take_append_drop]
    rw [this, List.length_append]; omega
  rw [slices_Concat_string, withK_eq]
  rw [loop_fold (σ := Nat) (st := fun v => (l.take v).flatten.length) (len := l.length) (k := some l.flatten) (fun back v hv => ?_) (fun back => ?_) n (by omega) (by simp)]
  · rw [slices_Concat_string_L1]
    have h1 := htk (v + 1) (by omega)
    rw [take_flatten hv, List.length_append] at h1
    have h2 : ¬ ((l.take v).flatten.length + (ix l v).length < 0) := by omega
    simp only [hv, decide_true, cond_true, nI_of (by omega : (l.take v).flatten.length + (ix l v).length ≤ 9223372036854775807), chk_t, h2, decide_false, cond_false, nI_of (by omega : v + 1 ≤ 9223372036854775807)]
    rw [take_flatten hv, List.length_append]
  · rw [slices_Concat_string_L1]
    have h1 := htk l.length (Nat.le_refl _)
    simp only [Nat.lt_irrefl, decide_false, cond_false, Grow_eq (n := n) (l.take l.length).flatten.length (by omega), Option.bind_some, withK_eq]
    refine loop_fold' (σ := List Str) (st := fun v => (l.take v).flatten) (len := l.length) (fun back v hv => ?_) (fun back => ?_) n (by omega) (by simp)
    · rw [slices_Concat_string_L2]
      have h1 := htk (v + 1) (by omega)
      rw [take_flatten hv] at h1
      simp only [hv, decide_true, cond_true, room_of (b := 16) (n := ((l.take v).flatten ++ ix l v).length) (by omega) (by omega), chk_t, nI_of (by omega : v + 1 ≤ 9223372036854775807)]
      rw [take_flatten hv]
    · rw [slices_Concat_string_L2]; simp
theorem leads_len {t : List Task} (h : OkT t) {x : Task} (hx : x ∈ t) : (leads x).length ≤ 900 := by
  have := h.lead x hx
  simpa only [leads, List.length_append] using this
theorem leads_res {t : List Task} (h : OkT t) {x : Task} (hx : x ∈ t) (hn : 1000 < n) : restore_leads n x = some (leads x) := by
  have h1 := leads_len h hx
  have h2 := h.oneof x hx
  rw [restore_leads]
  have e : ([x.Needs] ++ x.OneOf : List (List Str)).flatten = leads x := by simp [leads]
  rw [chk_of (room_of (by simp; omega) (by simp; omega)), Concat_eq _ (by simp; omega) (by rw [e]; omega) hn, e]
  rfl
theorem Leads_ref {t : List Task} (h : OkT t) {x : Task} (hx : x ∈ t) (hn : 1000 < n) : agrafferef08_Leads n x = some (leads x) := by
  have h1 := leads_len h hx
  have h2 := h.oneof x hx
  have h3 := h.needs x hx
  have htk : ∀ v, v ≤ x.OneOf.length → (x.OneOf.take v).flatten.length ≤ x.OneOf.flatten.length := by
    intro v _
    have : x.OneOf.flatten = (x.OneOf.take v).flatten ++ (x.OneOf.drop v).flatten := by rw [← List.flatten_append, List.take_append_drop]
    rw [this, List.length_append]; omega
  rw [agrafferef08_Leads, agraffebase_CopyTexts, chk_of (room_of (by omega) (by omega))]
  simp only [Option.bind_some, withK_eq]
  refine loop_fold' (σ := List Str) (st := fun v => x.Needs ++ (x.OneOf.take v).flatten) (len := x.OneOf.length) (fun back v hv => ?_) (fun back => ?_) n (by omega) (by simp)
  · rw [agrafferef08_Leads_L1]
    have h4 := htk (v + 1) (by omega)
    rw [take_flatten hv, List.length_append] at h4
    simp only [leads, List.length_append] at h1
    simp only [hv, decide_true, cond_true, room_of (b := 16) (n := (x.Needs ++ (x.OneOf.take v).flatten ++ ix x.OneOf v).length) (by simp only [List.length_append]; omega) (by simp only [List.length_append]; omega), chk_t, nI_of (by omega : v + 1 ≤ 9223372036854775807)]
    rw [take_flatten hv, List.append_assoc]
  · rw [agrafferef08_Leads_L1]; simp [leads]
def Inv (t : List Task) (out : List Str) : Prop := out.Nodup ∧ ∀ s ∈ out, t.any (byName s) = true
theorem Inv.len {t : List Task} {out : List Str} (h : Inv t out) : out.length ≤ t.length := by
  have := nodup_len out (t.map Task.Name) h.1 fun s hs => by
    obtain ⟨x, hx, rfl⟩ := any_byName.1 (h.2 s hs)
    exact List.mem_map.2 ⟨x, hx, rfl⟩
  simpa using this
theorem Inv.nil (t : List Task) : Inv t [] := ⟨List.nodup_nil, by simp⟩
def rdy (inS : Str → Bool) (out : List Str) (x : Task) : Bool := (inS x.Name && !out.any (isS x.Name)) && !(leads x).any (fun s => inS s && !out.any (isS s))
theorem Inv.step {t : List Task} {out : List Str} (h : Inv t out) {inS : Str → Bool} {x : Task} (hx : x ∈ t) (hr : rdy inS out x = true) : Inv t (out ++ [x.Name]) := by
  unfold rdy at hr
  simp only [Bool.and_eq_true, Bool.not_eq_true'] at hr
  have hn : x.Name ∉ out := fun hm => by
    have := any_isS.2 hm
    rw [hr.1.2] at this; cases this
  refine ⟨List.nodup_append.2 ⟨h.1, by simp, fun a ha b hb => ?_⟩, fun s hs => ?_⟩
  · simp only [List.mem_singleton] at hb
    subst hb
    rintro rfl; exact hn ha
  · rw [List.mem_append, List.mem_singleton] at hs
    rcases hs with hs | rfl
    · exact h.2 s hs
    · exact any_byName.2 ⟨x, hx, rfl⟩
def ordF (t : List Task) (inS : Str → Bool) : Nat → List Str → List Str
  | 0, out => out
  | k + 1, out => bif decide (findI (rdy inS out) t < 0) then out else ordF t inS k (out ++ [(ix t (findI (rdy inS out) t).toNat).Name])
theorem order_loop {F : (List Str → Option (List Str)) → List Str → Option (List Str)} {t : List Task} {inS : Str → Bool}
    (hF : ∀ back out, Inv t out → F back out = bif decide (findI (rdy inS out) t < 0) then some out else back (out ++ [(ix t (findI (rdy inS out) t).toNat).Name])) :
    ∀ n out, Inv t out → t.length - out.length < n → loopN F n out = some (ordF t inS n out) := by
  intro n
  induction n with
  | zero => intro out _ h; omega
  | succ n ih =>
    intro out hi hn
    rw [loopN_s, hF _ out hi, ordF]
    by_cases h : findI (rdy inS out) t < 0
    · simp [h]
    · obtain ⟨f1, f2, f3, f4⟩ := findI_pos h
      have hs := hi.step (ix_mem f2) f3
      have hl := hs.len
      simp only [List.length_append, List.length_singleton] at hl
      simp only [h, decide_false, cond_false]
      exact ih _ hs (by simp only [List.length_append, List.length_singleton]; omega)
theorem ordF_congr {t : List Task} {i1 i2 : Str → Bool} (h : ∀ x ∈ t, i1 x.Name = i2 x.Name ∧ ∀ s ∈ leads x, i1 s = i2 s) : ∀ n out, ordF t i1 n out = ordF t i2 n out := by
  intro n
  induction n with
  | zero => exact fun _ => rfl
  | succ n ih =>
    intro out
    have e : findI (rdy i1 out) t = findI (rdy i2 out) t := findI_congr fun x hx => by
      have e2 : (leads x).any (fun s => i1 s && !out.any (isS s)) = (leads x).any (fun s => i2 s && !out.any (isS s)) := any_congr fun s hs => by rw [(h x hx).2 s hs]
      unfold rdy
      rw [(h x hx).1, e2]
    rw [ordF, ordF, e, ih]
theorem order_res {t : List Task} (h : OkT t) (hn : 1000 < n) : restore_list_order n t = some (ordF t (fun _ => true) n []) := by
  have hlen := h.len
  rw [restore_list_order]
  refine order_loop (fun back out hi => ?_) n [] (Inv.nil t) (by simp; omega)
  have hol := hi.len
  rw [restore_list_order_L1]
  have h1 : ∀ s, restore_list_order_f1_2 n s out = some (!out.any (isS s)) := by
    intro s
    rw [restore_list_order_f1_2, restore_CheckTasks_f1, Contains2_eq out s (by omega) (by omega)]
    simp
  have h3 : ∀ l : List Str, l.length ≤ 900 → slices_ContainsFunc_string_3 n l out = some (l.any fun s => !out.any (isS s)) := by
    intro l hl
    rw [slices_ContainsFunc_string_3, slices_IndexFunc_string_3, withK_eq, loop_findI (l := l) (p := fun s => !out.any (isS s)) (fun back v hv => ?_) (fun back => ?_) n (by omega)]
    · simp only [Option.bind_some, findI_any]
    · rw [slices_IndexFunc_string_3_L1]; simp only [hv, h1, Option.bind_some, decide_true, cond_true, nI_of (by omega : v + 1 ≤ 9223372036854775807), chk_t]
    · rw [slices_IndexFunc_string_3_L1]; simp
  have h2 : ∀ x ∈ t, restore_list_order_f2_2 n x out = some (rdy (fun _ => true) out x) := by
    intro x hx
    rw [restore_list_order_f2_2, h1, leads_res h hx hn]
    simp only [Option.bind_some, gcall_some_]
    unfold rdy
    cases hb : out.any (isS x.Name)
    · simp only [Bool.not_false, cond_true, h3 (leads x) (by have := leads_len h hx; omega), gcall_some_, Option.bind_some, Bool.true_and]
    · simp [gcall]
  have h4 : slices_IndexFunc_Task_3 n t out = some (findI (rdy (fun _ => true) out) t) := by
    rw [slices_IndexFunc_Task_3, withK_eq]
    refine loop_findI (fun back v hv => ?_) (fun back => ?_) n (by omega)
    · rw [slices_IndexFunc_Task_3_L1]; simp only [hv, h2 _ (ix_mem hv), Option.bind_some, decide_true, cond_true, nI_of (by omega : v + 1 ≤ 9223372036854775807), chk_t]
    · rw [slices_IndexFunc_Task_3_L1]; simp
  rw [h4]
  simp only [Option.bind_some]
  by_cases hf : findI (rdy (fun _ => true) out) t < 0
  · simp [hf]
  · obtain ⟨f1, f2, f3, f4⟩ := findI_pos hf
    simp only [hf, decide_false, cond_false, inB_of f1 f2, chk_t, f2, decide_true]
    rw [chk_of (room_of (by simp; omega) (by simp; omega))]
theorem loop_flag {α R : Type} [Inhabited α] {l : List α} {p : α → Bool} {F : (Int × Nat → Option R) → Int × Nat → Option R} {k : Int → Option R}
    (h1 : ∀ back v, v < l.length → F back (-1, v) = bif p (ix l v) then back (((v : Nat) : Int), v + 1) else back (-1, v + 1))
    (h2 : ∀ back (i : Int) v, 0 ≤ i → F back (i, v) = k i) (h3 : ∀ back, F back (-1, l.length) = k (-1)) (n : Nat) (hn : l.length + 1 < n) : loopN F n (-1, 0) = k (findI p l) := by
  have : ∀ n v, v ≤ l.length → l.length - v + 1 < n → loopN F n (-1, v) = match (l.drop v).findIdx? p with | some i => k (((v + i : Nat) : Int)) | none => k (-1) := by
    intro n
    induction n with
    | zero => intro v _ h; omega
    | succ n ih =>
      intro v hv hn
      rw [loopN_s]
      by_cases h : v < l.length
      · rw [h1 _ v h, drop_ix h, List.findIdx?_cons]
        cases hp : p (ix l v) with
        | true =>
          obtain ⟨n, rfl⟩ : ∃ m, n = m + 1 := ⟨n - 1, by omega⟩
          simp only [cond_true, if_true, Nat.add_zero]
          rw [loopN_s, h2 _ _ _ (by omega)]
        | false =>
          simp only [cond_false, Bool.false_eq_true, if_false]
          rw [ih (v + 1) (by omega) (by omega)]
          cases hh : (l.drop (v + 1)).findIdx? p with
          | none => simp
          | some i => simp [Nat.add_assoc, Nat.add_comm 1 i]
      · have : v = l.length := by omega
        subst this
        rw [h3, drop_nil h]
        simp
  rw [this n 0 (by omega) (by omega), List.drop_zero, findI]
  cases l.findIdx? p <;> simp
theorem all_take {α : Type} [Inhabited α] {l : List α} {p : α → Bool} {v : Nat} (hv : v < l.length) : (l.take (v + 1)).all p = ((l.take v).all p && p (ix l v)) := by
  rw [List.take_succ_eq_append_getElem hv, List.all_append, ix_eq hv]; simp
theorem Order_ref {t : List Task} (h : OkT t) {set : List Str} (hset : set.length ≤ 900) (hn : 1000 < n) : agrafferef08_Order n t set = some (ordF t (fun s => set.any (isS s)) n []) := by
  have hlen := h.len
  rw [agrafferef08_Order]
  refine order_loop (fun back out hi => ?_) n [] (Inv.nil t) (by simp; omega)
  have hol := hi.len
  rw [agrafferef08_Order_L3, withK_eq]
  rw [loop_flag (l := t) (p := rdy (fun s => set.any (isS s)) out) (k := fun v51 => bif decide (v51 < (0 : Int)) then some out else
        chk (inB v51 t.length) <|
        chk (decide (v51.toNat < t.length)) <|
        chk (room 16 (out ++ ([(ix t v51.toNat).Name] : List Str)).length) <|
        back (out ++ ([(ix t v51.toNat).Name] : List Str))) (fun back v hv => ?_) (fun back i v hi => ?_) (fun back => ?_) n (by omega)]
  · by_cases hf : findI (rdy (fun s => set.any (isS s)) out) t < 0
    · simp [hf]
    · obtain ⟨f1, f2, f3, f4⟩ := findI_pos hf
      simp only [hf, decide_false, cond_false, inB_of f1 f2, chk_t, f2, decide_true]
      rw [chk_of (room_of (by simp; omega) (by simp; omega))]
  · rw [agrafferef08_Order_L2]
    have hx := ix_mem hv
    have hll := leads_len h hx
    simp only [hv, decide_true, cond_true, show decide ((-1 : Int) < 0) = true from rfl, Bool.and_self, withK_eq, chk_t, HasText_eq set (ix t v).Name (by omega : set.length < n) (by omega), HasText2_eq out (ix t v).Name (by omega : out.length < n) (by omega), Option.bind_some, gcall_some_, Leads_ref h hx hn, nI_of (by omega : v + 1 ≤ 9223372036854775807)]
    rw [loop_fold (σ := Bool) (st := fun v' => ((leads (ix t v)).take v').all fun s => !set.any (isS s) || out.any (isS s)) (len := (leads (ix t v)).length)
      (k := bif (leads (ix t v)).all (fun s => !set.any (isS s) || out.any (isS s)) then back (((v : Nat) : Int), v + 1) else back (-1, v + 1)) (fun back' v' hv' => ?_) (fun back' => ?_) n (by omega) (by simp)]
    · have hb : rdy (fun s => set.any (isS s)) out (ix t v) = ((set.any (isS (ix t v).Name) && !out.any (isS (ix t v).Name)) && !(leads (ix t v)).any (fun s => set.any (isS s) && !out.any (isS s))) := rfl
      have e : (leads (ix t v)).all (fun s => !set.any (isS s) || out.any (isS s)) = !(leads (ix t v)).any (fun s => set.any (isS s) && !out.any (isS s)) := by
        rw [List.not_any_eq_all_not]
        congr 1
        funext s
        cases set.any (isS s) <;> cases out.any (isS s) <;> rfl
      rw [hb, e]
      cases set.any (isS (ix t v).Name) <;> cases out.any (isS (ix t v).Name) <;> simp
    · rw [agrafferef08_Order_L1]
      simp only [hv', decide_true, cond_true, HasText_eq set (ix (leads (ix t v)) v') (by omega : set.length < n) (by omega), HasText2_eq out (ix (leads (ix t v)) v') (by omega : out.length < n) (by omega), Option.bind_some, gcall_some_, nI_of (by omega : v' + 1 ≤ 9223372036854775807), chk_t]
      rw [all_take hv']
      cases ((leads (ix t v)).take v').all fun s => !set.any (isS s) || out.any (isS s)
      · simp
      · cases set.any (isS (ix (leads (ix t v)) v')) <;> simp
    · rw [agrafferef08_Order_L1]
      simp
  · rw [agrafferef08_Order_L2]
    have : ¬ i < 0 := by omega
    simp [this]
  · rw [agrafferef08_Order_L2]
    simp
def tasksE (n : Nat) (t : List Task) : Int :=
  bif decide (60 < t.length) then 8 else bif firstE (taskE t) 0 t.length != 0 then firstE (taskE t) 0 t.length
  else bif decide ((ordF t (fun _ => true) n []).length < t.length) then 21 else 0
theorem CheckTasks_res {t : List Task} (h : OkT t) (hn : 1000 < n) : restore_CheckTasks n t = some (tasksE n t) := by
  have hlen := h.len
  rw [restore_CheckTasks, tasksE]
  by_cases hl : 60 < t.length
  · simp [hl]
  simp only [hl, decide_false, cond_false, withK_eq, order_res h hn, Option.bind_some]
  rw [loop_errs (E := taskE t) (len := t.length) (k := bif decide ((ordF t (fun _ => true) n []).length < t.length) then 21 else 0) (fun back v hv => ?_) (fun back => ?_) (by omega)]
  · rw [restore_CheckTasks_L1]
    simp only [hv, decide_true, cond_true, task_res h hn hv, Option.bind_some, nI_of (by omega : v + 1 ≤ 9223372036854775807), chk_t]
  · rw [restore_CheckTasks_L1]
    simp only [Nat.lt_irrefl, decide_false, cond_false]
    cases decide ((ordF t (fun _ => true) n []).length < t.length) <;> rfl
theorem lead_known {t : List Task} {i : Nat} (hi : i < t.length) (h : taskE t i = 0) : ∀ s ∈ leads (ix t i), t.any (byName s) = true := by
  unfold taskE at h
  cases h1 : nameB (ix t i).Name
  · simp [h1] at h
  rw [h1] at h
  simp only [Bool.not_true, cond_false] at h
  cases h2 : decide (findI (byName (ix t i).Name) t < (i : Int))
  · rw [h2] at h
    simp only [cond_false] at h
    cases h3 : (!((decide (0 ≤ (ix t i).Cents)) && (decide ((ix t i).Cents ≤ 1000000000)))) || (!((decide (0 ≤ (ix t i).Hours)) && (decide ((ix t i).Hours ≤ 10000))))
    · rw [h3] at h
      simp only [cond_false] at h
      cases h4 : large (ix t i)
      · rw [h4] at h
        simp only [cond_false] at h
        by_cases h5 : known t (ix t i).Needs = 0
        · simp only [h5, bne_self_eq_false, cond_false] at h
          by_cases h6 : firstE (grpE t (ix t i).OneOf) 0 (ix t i).OneOf.length = 0
          · intro s hs
            rw [leads, List.mem_append] at hs
            rcases hs with hs | hs
            · exact known_zero h5 s hs
            · obtain ⟨g, hg, hsg⟩ := List.mem_flatten.1 hs
              obtain ⟨k, hk, rfl⟩ := List.mem_iff_getElem.1 hg
              have := firstE_zero h6 k (by omega) (by omega)
              unfold grpE at this
              rw [ix_eq hk] at this
              cases h7 : decide ((ix t i).OneOf[k].length = 0)
              · rw [h7] at this
                simp only [cond_false] at this
                exact known_zero this s hsg
              · rw [h7] at this; simp at this
          · rw [bne_t h6, cond_true] at h; exact absurd h h6
        · rw [bne_t h5, cond_true] at h; exact absurd h h5
      · rw [h4] at h; simp at h
    · rw [h3] at h; simp at h
  · rw [h2] at h; simp at h
theorem CheckTasks_ref {t : List Task} (h : OkT t) (hn : 1000 < n) : agrafferef08_CheckTasks n t = some (tasksE n t) := by
  have hlen := h.len
  rw [agrafferef08_CheckTasks, tasksE]
  by_cases hl : 60 < t.length
  · simp [hl]
  simp only [hl, decide_false, cond_false, withK_eq]
  by_cases h0 : firstE (taskE t) 0 t.length = 0
  · have hcong : ordF t (fun s => (t.map Task.Name).any (isS s)) n [] = ordF t (fun _ => true) n [] := by
      refine ordF_congr (fun x hx => ⟨any_isS.2 (List.mem_map.2 ⟨x, hx, rfl⟩), fun s hs => ?_⟩) n []
      obtain ⟨i, hi, rfl⟩ := List.mem_iff_getElem.1 hx
      have hz := firstE_zero h0 i (by omega) (by omega)
      rw [← ix_eq hi] at hs
      obtain ⟨y, hy, e⟩ := any_byName.1 (lead_known hi hz s hs)
      exact any_isS.2 (List.mem_map.2 ⟨y, hy, e⟩)
    rw [loop_errs (E := taskE t) (len := t.length) (k := bif decide ((ordF t (fun _ => true) n []).length < t.length) then 21 else 0) (fun back v hv => ?_) (fun back => ?_) (by omega)]
    · rw [agrafferef08_CheckTasks_L1]
      simp only [hv, decide_true, cond_true, task_ref h hn hv, Option.bind_some, nI_of (by omega : v + 1 ≤ 9223372036854775807), chk_t]
    · rw [agrafferef08_CheckTasks_L1]
      simp only [Nat.lt_irrefl, decide_false, cond_false]
      rw [loop_fold (σ := List Str) (st := fun v => (t.take v).map Task.Name) (len := t.length) (k := some (bif decide ((ordF t (fun _ => true) n []).length < t.length) then 21 else 0)) (fun back v hv => ?_) (fun back => ?_) n (by omega) (by simp)]
      · rw [agrafferef08_CheckTasks_L2]
        simp only [hv, decide_true, cond_true, nI_of (by omega : v + 1 ≤ 9223372036854775807), chk_t]
        rw [chk_of (room_of (by simp; omega) (by simp; omega)), List.take_succ_eq_append_getElem hv, List.map_append, ix_eq hv]
        rfl
      · rw [agrafferef08_CheckTasks_L2]
        simp only [Nat.lt_irrefl, decide_false, cond_false, List.take_length, Order_ref h (set := t.map Task.Name) (by simp; omega) hn, Option.bind_some, hcong]
        cases decide ((ordF t (fun _ => true) n []).length < t.length) <;> rfl
  · rw [loop_first (st := fun v => v) (E := taskE t) (err := some) (k := agrafferef08_CheckTasks_L1 n t (fun _ => loopN (agrafferef08_CheckTasks_L2 t fun v6 => (agrafferef08_Order n t v6).bind fun y7 => bif decide (y7.length < t.length) then some 21 else some 0) n ([], 0)) (fun _ => none) t.length) (len := t.length) (fun back v hv _ => ?_) (fun back _ => ?_) n 0 (by omega) (by omega) (fun j h => by omega), Nat.sub_zero, bne_t h0, cond_true, cond_true]
    · rw [agrafferef08_CheckTasks_L1]
      simp only [hv, decide_true, cond_true, task_ref h hn hv, Option.bind_some, nI_of (by omega : v + 1 ≤ 9223372036854775807), chk_t]
    · rw [agrafferef08_CheckTasks_L1, agrafferef08_CheckTasks_L1]
      simp
end
section
set_option maxRecDepth 4000
open Go
variable {n : Nat}
@[simp] theorem gcall_t {α : Type} [Inhabited α] (x : Option α) : gcall true x = x := rfl
@[simp] theorem gcall_f {α : Type} [Inhabited α] (x : Option α) : gcall false x = some default := rfl
theorem set_ix {α : Type} [Inhabited α] {l : List α} {i : Nat} (h : i < l.length) : l.set i (ix l i) = l := by
  rw [ix_eq h]; exact List.set_getElem_self h
def textsB (l : List Str) (m : Int) : Bool := !decide (m < (l.length : Int)) && !l.any fun s => decide (20 < s.length)
theorem texts_eq (l : List Str) (m : Int) (hm : m ≤ 500) (hn : 1000 < n) : agraffelaw08_texts n l m = some (textsB l m) := by
  rw [agraffelaw08_texts, textsB]
  by_cases h : m < (l.length : Int)
  · simp [h]
  · simp only [h, decide_false, cond_false, withK_eq]
    rw [loop_any' (l := l) (p := fun s => decide (20 < s.length)) (bad := some false) (no := some true) (fun back v hv => ?_) (fun back => ?_) n (by omega)]
    · cases l.any fun s => decide (20 < s.length) <;> rfl
    · rw [agraffelaw08_texts_L1]; simp only [hv, decide_true, cond_true, nI_of (by omega : v + 1 ≤ 9223372036854775807), chk_t]
    · rw [agraffelaw08_texts_L1]; simp
theorem textsB_len {l : List Str} {m : Int} (h : textsB l m = true) : (l.length : Int) ≤ m := by
  unfold textsB at h
  simp only [Bool.and_eq_true, Bool.not_eq_true', decide_eq_false_iff_not] at h
  omega
def badT (x : Task) : Bool := ((((decide (20 < x.Name.length)) || !textsB x.Needs 13) || decide (9 < x.OneOf.length)) || decide (13 < x.Parts.length)) || (x.OneOf.any (fun g => !textsB g 9) || x.Parts.any (fun p => decide (20 < p.Part.length)))
def fewB (t : List Task) : Bool := !(((decide (9 < t.length)) && decide (t.length ≤ 60)) || decide (63 < t.length)) && !t.any badT
theorem Few_eq (t : List Task) (hn : 1000 < n) : agraffelaw08_Few n t = some (fewB t) := by
  rw [agraffelaw08_Few, fewB]
  cases hl : ((decide (9 < t.length)) && decide (t.length ≤ 60)) || decide (63 < t.length)
  · simp only [Bool.or_eq_false_iff, decide_eq_false_iff_not] at hl
    simp only [cond_false, withK_eq, Bool.not_false, Bool.true_and]
    rw [loop_any' (l := t) (p := badT) (bad := some false) (no := some true) (fun back v hv => ?_) (fun back => ?_) n (by omega)]
    · cases t.any badT <;> rfl
    · rw [agraffelaw08_Few_L3]
      simp only [hv, decide_true, cond_true, nI_of (by omega : v + 1 ≤ 9223372036854775807), chk_t, withK_eq, texts_eq (n := n) (ix t v).Needs 13 (by omega) hn, gcall_some_, Option.bind_some]
      have e : ((((decide (20 < (ix t v).Name.length)) || !(bif !decide (20 < (ix t v).Name.length) then textsB (ix t v).Needs 13 else default)) || decide (9 < (ix t v).OneOf.length)) || decide (13 < (ix t v).Parts.length)) = ((((decide (20 < (ix t v).Name.length)) || !textsB (ix t v).Needs 13) || decide (9 < (ix t v).OneOf.length)) || decide (13 < (ix t v).Parts.length)) := by
        cases decide (20 < (ix t v).Name.length) <;> simp
      rw [e]
      unfold badT
      cases hb : ((((decide (20 < (ix t v).Name.length)) || !textsB (ix t v).Needs 13) || decide (9 < (ix t v).OneOf.length)) || decide (13 < (ix t v).Parts.length))
      · simp only [Bool.or_eq_false_iff, decide_eq_false_iff_not] at hb
        simp only [cond_false, Bool.false_or]
        rw [loop_any' (l := (ix t v).OneOf) (p := fun g => !textsB g 9) (bad := some false) (no := bif (ix t v).Parts.any (fun p => decide (20 < p.Part.length)) then some false else back (v + 1)) (fun back' v' hv' => ?_) (fun back' => ?_) n (by omega)]
        · cases (ix t v).OneOf.any fun g => !textsB g 9 <;> rfl
        · rw [agraffelaw08_Few_L1]
          simp only [hv', decide_true, cond_true, chk_t, texts_eq (n := n) (ix (ix t v).OneOf v') 9 (by omega) hn, Option.bind_some, nI_of (by omega : v' + 1 ≤ 9223372036854775807)]
        · rw [agraffelaw08_Few_L1]
          simp only [Nat.lt_irrefl, decide_false, cond_false]
          rw [loop_any' (l := (ix t v).Parts) (p := fun p => decide (20 < p.Part.length)) (bad := some false) (no := back (v + 1)) (fun back' v' hv' => ?_) (fun back' => ?_) n (by omega)]
          · rw [agraffelaw08_Few_L2]
            simp only [hv', decide_true, cond_true, chk_t, nI_of (by omega : v' + 1 ≤ 9223372036854775807)]
          · rw [agraffelaw08_Few_L2]
            simp
      · simp
    · rw [agraffelaw08_Few_L3]; simp
  · simp
theorem few_ok {t : List Task} (h : fewB t = true) : OkT t := by
  unfold fewB at h
  simp only [Bool.and_eq_true, Bool.not_eq_true', Bool.or_eq_false_iff, decide_eq_false_iff_not] at h
  obtain ⟨⟨_, hl⟩, hb⟩ := h
  rw [List.any_eq_false] at hb
  have key : ∀ x ∈ t, x.Name.length ≤ 20 ∧ textsB x.Needs 13 = true ∧ x.OneOf.length ≤ 9 ∧ x.Parts.length ≤ 13 ∧ (∀ g ∈ x.OneOf, textsB g 9 = true) ∧ ∀ p ∈ x.Parts, p.Part.length ≤ 20 := by
    intro x hx
    have h1 := hb x hx
    unfold badT at h1
    simp only [Bool.not_eq_true, Bool.or_eq_false_iff, decide_eq_false_iff_not, Bool.not_eq_false', List.any_eq_false, decide_eq_true_eq, Bool.not_eq_true'] at h1
    obtain ⟨⟨⟨⟨a, b⟩, c⟩, d⟩, e, f⟩ := h1
    refine ⟨by omega, b, by omega, by omega, fun g hg => ?_, fun p hp => ?_⟩
    · have := e g hg
      simpa using this
    · have := f p hp
      omega
  have hg9 : ∀ x ∈ t, ∀ g ∈ x.OneOf, g.length ≤ 9 := fun x hx g hg => by have := textsB_len ((key x hx).2.2.2.2.1 g hg); omega
  refine ⟨by omega, fun x hx => by have := (key x hx).1; omega, fun x hx => ?_, fun x hx => by have := (key x hx).2.2.1; omega, fun x hx g hg => by have := hg9 x hx g hg; omega, fun x hx => ?_, fun x hx => by have := (key x hx).2.2.2.1; omega, fun x hx p hp => by have := (key x hx).2.2.2.2.2 p hp; omega⟩
  · have := textsB_len (key x hx).2.1; omega
  · have := textsB_len (key x hx).2.1
    have := (key x hx).2.2.1
    have := flatten_len (b := 9) x.OneOf (hg9 x hx)
    omega
theorem Copied_eq {t : List Task} (h : OkT t) (hn : 1000 < n) : agraffelaw08_Copied n t = some t := by
  have hlen := h.len
  rw [agraffelaw08_Copied, chk_of (room_of (by omega) (by omega)), withK_eq]
  refine loop_fold' (σ := List Task) (st := fun _ => t) (len := t.length) (fun back v hv => ?_) (fun back => ?_) n (by omega) rfl
  · have hx := ix_mem hv
    have h1 := h.needs _ hx
    have h2 := h.oneof _ hx
    have h3 := h.parts _ hx
    rw [agraffelaw08_Copied_L2]
    simp only [hv, decide_true, cond_true, withK_eq, agraffebase_CopyTexts, set_ix hv, chk_t, room_of (b := 16) (n := (ix t v).Needs.length) (by omega) (by omega), room_of (b := 24) (n := (ix t v).Parts.length) (by omega) (by omega), Option.bind_some]
    rw [loop_fold' (σ := List (List Str)) (st := fun v' => (ix t v).OneOf.take v') (len := (ix t v).OneOf.length) (k := back (v + 1, t)) (fun back' v' hv' => ?_) (fun back' => ?_) n (by omega) (s0 := []) (by simp)]
    · rw [agraffelaw08_Copied_L1]
      have hg := h.group _ hx _ (ix_mem hv')
      simp only [set_ix hv, hv', decide_true, cond_true, chk_t, agraffebase_CopyTexts_2, room_of (b := 16) (n := (ix (ix t v).OneOf v').length) (by omega) (by omega), Option.bind_some, nI_of (by omega : v' + 1 ≤ 9223372036854775807)]
      rw [chk_of (room_of (by simp; omega) (by simp; omega)), List.take_succ_eq_append_getElem hv', ix_eq hv']
    · rw [agraffelaw08_Copied_L1]
      simp only [set_ix hv, Nat.lt_irrefl, decide_false, cond_false, List.take_length, nI_of (by omega : v + 1 ≤ 9223372036854775807), chk_t]
  · rw [agraffelaw08_Copied_L2]
    simp
end
section
set_option maxRecDepth 4000
open Go
theorem itoa_no {c : UInt8} (h : c ≠ 45) (h2 : ¬ (48 ≤ c.toNat ∧ c.toNat ≤ 57)) (v : Int) : c ∉ itoaL v := by
  unfold itoaL Lib.itoa
  split
  · intro hm
    rcases List.mem_cons.1 hm with hm | hm
    · exact h hm
    · exact h2 (decDigits_dig _ _ hm)
  · intro hm
    exact h2 (decDigits_dig _ _ hm)
theorem name_no {c : UInt8} (h1 : okC c = false) (h2 : isL c = false) {s : Str} (h : nameB s = true) : c ∉ s := by
  cases s with
  | nil => simp
  | cons d r =>
    simp only [nameB, Bool.and_eq_true, List.all_eq_true] at h
    intro hm
    rcases List.mem_cons.1 hm with e | hm
    · rw [← e, h2] at h; exact absurd h.1.1 (by simp)
    · have := h.1.2 _ hm
      rw [h1] at this; cases this
theorem split_len (c : UInt8) : ∀ s, ∀ x ∈ splitL c s, x.length ≤ s.length
  | [], x, h => by simp [splitL] at h; subst h; simp
  | b :: l, x, h => by
    have ih := split_len c l
    rw [splitL] at h
    cases hb : b == c with
    | true =>
      rw [hb, cond_true] at h
      rcases List.mem_cons.1 h with rfl | h
      · simp
      · have := ih x h; simp; omega
    | false =>
      rw [hb, cond_false] at h
      cases hs : splitL c l with
      | nil => rw [hs] at h; simp at h; subst h; simp
      | cons y r =>
        rw [hs] at h ih
        simp only at h
        rcases List.mem_cons.1 h with rfl | h
        · have := ih y (by simp); simp; omega
        · have := ih x (by simp [h]); simp; omega
theorem split_cnt (c : UInt8) : ∀ s, (splitL c s).length ≤ s.length + 1
  | [] => by simp [splitL]
  | b :: l => by
    have ih := split_cnt c l
    rw [splitL]
    cases hb : b == c with
    | true => simp; omega
    | false =>
      rw [cond_false]
      cases hs : splitL c l with
      | nil => simp
      | cons y r => rw [hs] at ih; simp at ih ⊢; omega
theorem split_ix (c : UInt8) (s : Str) (i : Nat) : (ix (splitL c s) i).length ≤ s.length := by
  by_cases h : i < (splitL c s).length
  · exact split_len c s _ (ix_mem h)
  · have : ix (splitL c s) i = [] := by simp [ix, List.getD, List.getElem?_eq_none (Nat.le_of_not_lt h)]; rfl
    rw [this]; simp
variable {n : Nat}
theorem joinL_len (c : UInt8) (B : Nat) : ∀ l : List Str, (∀ x ∈ l, x.length ≤ B) → (joinL l [c]).length ≤ l.length * (B + 1)
  | [], _ => by rw [joinL, Lib.join_nil]; simp
  | [x], h => by rw [joinL_one]; have := h x (by simp); simp; omega
  | x :: y :: r, h => by
    have ih := joinL_len c B (y :: r) (fun z hz => h z (by simp [hz]))
    have h1 := h x (by simp)
    rw [joinL_cons]
    simp only [List.length_append, List.length_cons, List.length_nil] at ih ⊢
    rw [Nat.add_mul] at ih ⊢
    rw [Nat.add_mul]
    omega
theorem itoa_ok {v : Int} (h : inI v = true) : strconv_Itoa n v = some (itoaL v) := by rw [strconv_Itoa, h, chk_t]
theorem Cut_eq10 (s : Str) (hs : s.length ≤ 1000) (hn : 1100 ≤ n) : agraffebase_Cut n s 10 = some (splitL 10 s) := by
  rw [agraffebase_Cut, withK_eq]
  have := Cut_loop s (by omega) 10 (fun v8 => some v8) s.length 0 n [] 0 (by omega) (by omega) (Nat.le_refl _) (by simp) (by simp)
  simpa using this
theorem lineH_no : ∀ {l : Str}, (10 : UInt8) ∉ l → ∀ r, lineH (l ++ 10 :: r) = l ++ [10] ∧ lineT (l ++ 10 :: r) = r
  | [], _, r => by simp [lineH, lineT]
  | c :: l, h, r => by
    have hc : (c == 10) = false := by simp only [List.mem_cons, not_or] at h; simpa using fun e => h.1 e.symm
    have := lineH_no (l := l) (fun h' => h (by simp [h'])) r
    simp [lineH, lineT, hc, this]
theorem lineH_none : ∀ {l : Str}, (10 : UInt8) ∉ l → lineH l = l ∧ lineT l = []
  | [], _ => ⟨rfl, rfl⟩
  | c :: l, h => by
    have hc : (c == 10) = false := by simp only [List.mem_cons, not_or] at h; simpa using fun e => h.1 e.symm
    have := lineH_none (l := l) (fun h' => h (by simp [h']))
    simp [lineH, lineT, hc, this]
theorem rows_one {s l : Str} (h : splitL 10 s = [l]) : l = s ∧ (10 : UInt8) ∉ s := by
  have h1 := join_split 10 s
  rw [h, joinL_one] at h1
  exact ⟨h1, by have := split_no 10 s l (by rw [h]; simp); rwa [h1] at this⟩
theorem rows_more {s l x : Str} {r : List Str} (h : splitL 10 s = l :: x :: r) : ∃ s', s = l ++ 10 :: s' ∧ (10 : UInt8) ∉ l ∧ splitL 10 s' = x :: r := by
  have h1 := join_split 10 s
  rw [h, joinL_cons] at h1
  have hl : (10 : UInt8) ∉ l := split_no 10 s l (by rw [h]; simp)
  refine ⟨joinL (x :: r) [10], by rw [← h1]; simp, hl, ?_⟩
  exact split_join 10 (x :: r) (by simp) (fun y hy => split_no 10 s y (by rw [h]; simp [List.mem_cons.1 hy]))
theorem lines_one {s : Str} (h : (10 : UInt8) ∉ s) (h0 : s ≠ []) : linesL s = [s] := by
  rw [linesL_cons h0, (lineH_none h).1, (lineH_none h).2]; rfl
theorem lines_more {l s : Str} (h : (10 : UInt8) ∉ l) : linesL (l ++ 10 :: s) = (l ++ [10]) :: linesL s := by
  rw [linesL_cons (by simp), (lineH_no h s).1, (lineH_no h s).2]
theorem cut_nl (l : Str) (hl : l.length ≤ 100000) : strings_CutSuffix n (l ++ [10]) ([10] : Str) = some (l, true) := by
  have e : ((((l ++ [10]).length : Nat) : Int) - ((([10] : Str).length : Nat) : Int)) = ((l.length : Nat) : Int) := by simp
  have e2 : (((l.length : Nat) : Int)).toNat = l.length := by omega
  have h1 : inI ((l.length : Nat) : Int) = true := inI_of (by omega) (by omega)
  have h2 : inC ((l.length : Nat) : Int) (l ++ [10]).length = true := inC_of (by omega) (by simp)
  rw [strings_CutSuffix, internal_stringslite_CutSuffix, internal_stringslite_HasSuffix, e, h1, h2, e2]
  simp
theorem cut_no (l : Str) (hl : l.length ≤ 100000) (h : (10 : UInt8) ∉ l) : strings_CutSuffix n l ([10] : Str) = some (l, false) := by
  rw [strings_CutSuffix, internal_stringslite_CutSuffix, internal_stringslite_HasSuffix]
  by_cases h0 : l = []
  · subst h0; rfl
  · have hpos : 0 < l.length := List.length_pos_iff.2 h0
    have e : (((l.length : Nat) : Int) - ((([10] : Str).length : Nat) : Int)) = ((l.length - 1 : Nat) : Int) := by simp; omega
    have e2 : (((l.length - 1 : Nat) : Int)).toNat = l.length - 1 := by omega
    have h1 : inI ((l.length - 1 : Nat) : Int) = true := inI_of (by omega) (by omega)
    have h2 : inC ((l.length - 1 : Nat) : Int) l.length = true := inC_of (by omega) (by omega)
    have h3 : (List.drop (l.length - 1) l == ([10] : Str)) = false := by
      rw [beq_eq_false_iff_ne]
      intro e
      exact h (List.mem_of_mem_drop (by rw [e]; simp : (10 : UInt8) ∈ List.drop (l.length - 1) l))
    rw [e, h1, h2, e2, h3]
    simp
theorem split32 (s : Str) (hs : s.length ≤ 100000) : strings_Split n s ([32] : Str) = some (splitL 32 s) := by
  have : Nat.blt s.length 4294967281 = true := Nat.ble_eq_true_of_le (by omega)
  rw [strings_Split, this, chk_t]; rfl
end
section
set_option maxRecDepth 4000
open Go
def kTask : Str := [116, 97, 115, 107]
def kNeeds : Str := [110, 101, 101, 100, 115]
def kOne : Str := [111, 110, 101, 111, 102]
def kPart : Str := [112, 97, 114, 116]
structure TS where
  t : List Task
  nm : Str
  c : Int
  h : Int
  nd : List Str
  oo : List (List Str)
  ps : List PartCount
def TS.last (s : TS) : Task := Task.mk s.nm s.c s.h s.nd s.oo s.ps
def TS.all (s : TS) : List Task := s.t.set (s.t.length - 1) s.last
def TS.nil : TS := ⟨[], [], 0, 0, [], [], []⟩
abbrev num10 (s : Str) : Int × Bool := numR 10 s
def stepW (s : TS) (w : List Str) : Option TS :=
  bif ix w 0 == kTask then
    bif decide (w.length = 4) && ((num10 (ix w 2)).2 && (num10 (ix w 3)).2) then
      some ⟨s.all ++ [Task.mk (ix w 1) (num10 (ix w 2)).1 (num10 (ix w 3)).1 [] [] []], ix w 1, (num10 (ix w 2)).1, (num10 (ix w 3)).1, [], [], []⟩
    else none
  else bif decide (s.t.length = 0) || decide (w.length < 2) then none
  else bif ix w 0 == kNeeds then
    bif decide (0 < s.nd.length + s.oo.length + s.ps.length) then none else some { s with nd := w.drop 1 }
  else bif ix w 0 == kOne then
    bif decide (0 < s.ps.length) then none else some { s with oo := s.oo ++ [w.drop 1] }
  else bif ix w 0 == kPart then
    bif decide (w.length = 3) && (num10 (ix w 2)).2 then some { s with ps := s.ps ++ [PartCount.mk (ix w 1) (num10 (ix w 2)).1] } else none
  else none
structure TS.ok (s : TS) (b : Nat) : Prop where
  t : s.t.length ≤ b
  oo : s.oo.length ≤ b
  ps : s.ps.length ≤ b
  nd : s.nd.length ≤ 100001
theorem TS.all_len (s : TS) : s.all.length = s.t.length := by simp [TS.all]
variable {n : Nat}
theorem num_prog (s : Str) (hs : s.length ≤ 100000) : restore_number n s 10 = some (numP 10 s) := by
  have := number_eq (n := n) (d := 10) s (by omega)
  exact this
theorem num_ref (s : Str) (hs : s.length ≤ 100000) (hn : 200 ≤ n) (hn2 : n ≤ 90000) : agraffebase_Number n s 10 = some (numR 10 s) := by
  have := Number_eq (n := n) (d := 10) (by decide) s hn hn2 (by omega)
  exact this
abbrev RS := Unit ⊕ (Bool × (List Task) × Int × Int × Str × (List Str) × (List (List Str)) × (List PartCount))
def readV (s : TS) (w : List Str) (r : RS) : Prop := match r with
  | .inl _ => stepW s w = none
  | .inr (ok, t, c, h, nm, nd, oo, ps) => (ok = false ∧ stepW s w = none) ∨ (ok = true ∧ stepW s w = some ⟨t, nm, c, h, nd, oo, ps⟩)
theorem read_eq (s : TS) (w : List Str) (hs : s.ok 100000) (hw : w ≠ []) (hl : w.length ≤ 100001) (hx : ∀ i, (ix w i).length ≤ 100000) : ∃ r, restore_read_3 n s.t s.nm s.c s.h s.nd s.oo s.ps w = some r ∧ readV s w r := by
  have hpos : 0 < w.length := List.length_pos_iff.2 hw
  have h1 := hs.t; have h2 := hs.oo; have h3 := hs.ps; have h4 := hs.nd
  rw [restore_read_3, decide_eq_true hpos, chk_t]
  have hk1 : ([116, 97, 115, 107] : Str) = kTask := rfl
  have hk2 : ([110, 101, 101, 100, 115] : Str) = kNeeds := rfl
  have hk3 : ([111, 110, 101, 111, 102] : Str) = kOne := rfl
  have hk4 : ([112, 97, 114, 116] : Str) = kPart := rfl
  rw [hk1, hk2, hk3, hk4]
  cases e0 : ix w 0 == kTask with
  | true =>
    rw [cond_true]
    by_cases hl4 : w.length = 4
    · have hr : room 104 (s.t.set (s.t.length - 1) (Task.mk s.nm s.c s.h s.nd s.oo s.ps) ++ [Task.mk (ix w 1) (numP 10 (ix w 2)).1 (numP 10 (ix w 3)).1 [] [] []]).length = true := room_of (by simp; omega) (by simp; omega)
      simp only [hl4, decide_true, Bool.not_true, cond_false, num_prog (n := n) (ix w 2) (hx 2), num_prog (n := n) (ix w 3) (hx 3), Option.bind_some, chk_t, hr, show (2 : Nat) < 4 by decide, show (3 : Nat) < 4 by decide, show (1 : Nat) < 4 by decide]
      refine ⟨_, rfl, ?_⟩
      obtain ⟨p2, q2⟩ := num_eq (d := 10) (by decide) (ix w 2)
      obtain ⟨p3, q3⟩ := num_eq (d := 10) (by decide) (ix w 3)
      simp only [readV, stepW, e0, hl4, decide_true, Bool.true_and, cond_true]
      rw [p2, p3]
      cases hb : (numR 10 (ix w 2)).2 && (numR 10 (ix w 3)).2 with
      | false => exact .inl ⟨rfl, rfl⟩
      | true =>
        simp only [Bool.and_eq_true] at hb
        rw [q2 hb.1, q3 hb.2]
        exact .inr ⟨rfl, rfl⟩
    · simp only [hl4, decide_false, Bool.not_false, cond_true]
      exact ⟨_, rfl, by simp [readV, stepW, e0, hl4]⟩
  | false =>
    rw [cond_false]
    cases e1 : decide (s.t.length = 0) || decide (w.length < 2) with
    | true => exact ⟨_, rfl, by simp only [readV, stepW, e0, e1, cond_true, cond_false]⟩
    | false =>
      simp only [Bool.or_eq_false_iff, decide_eq_false_iff_not] at e1
      have hi : inI (((s.t.length : Nat) : Int) - 1) = true := inI_of (by omega) (by omega)
      have hw1 : 1 ≤ w.length := by omega
      have e1' : (decide (s.t.length = 0) || decide (w.length < 2)) = false := by simp [e1.1]; omega
      simp only [cond_false, hi, chk_t, decide_eq_true (by omega : 0 < s.t.length), hw1, decide_true]
      cases e2 : ix w 0 == kNeeds with
      | true =>
        simp only [cond_true, nI_of (by omega : s.nd.length + s.oo.length ≤ 9223372036854775807), nI_of (by omega : s.nd.length + s.oo.length + s.ps.length ≤ 9223372036854775807), chk_t]
        cases e3 : decide (0 < s.nd.length + s.oo.length + s.ps.length) with
        | true => exact ⟨_, rfl, by simp only [readV, stepW, e0, e1', e2, e3, cond_true, cond_false]⟩
        | false => exact ⟨_, rfl, by simp only [readV, stepW, e0, e1', e2, e3, cond_true, cond_false]; first | exact .inr ⟨trivial, rfl⟩ | exact .inr ⟨trivial, trivial⟩⟩
      | false =>
        rw [cond_false]
        cases e3 : ix w 0 == kOne with
        | true =>
          rw [cond_true]
          cases e4 : decide (0 < s.ps.length) with
          | true => exact ⟨_, rfl, by simp only [readV, stepW, e0, e1', e2, e3, e4, cond_true, cond_false]⟩
          | false =>
            have hr : room 24 (s.oo ++ [w.drop 1]).length = true := room_of (by simp; omega) (by simp; omega)
            simp only [cond_false, hr, chk_t]
            exact ⟨_, rfl, by simp only [readV, stepW, e0, e1', e2, e3, e4, cond_true, cond_false]; first | exact .inr ⟨trivial, rfl⟩ | exact .inr ⟨trivial, trivial⟩⟩
        | false =>
          rw [cond_false]
          cases e4 : ix w 0 == kPart with
          | true =>
            rw [cond_true]
            by_cases hl3 : w.length = 3
            · simp only [hl3, decide_true, Bool.not_true, cond_false, chk_t, num_prog (n := n) (ix w 2) (hx 2), Option.bind_some, show (2 : Nat) < 3 by decide, show (1 : Nat) < 3 by decide]
              obtain ⟨p2, q2⟩ := num_eq (d := 10) (by decide) (ix w 2)
              have hnl : ¬ (3 : Nat) < 2 := by decide
              have e1'' : (decide (s.t.length = 0) || decide ((3 : Nat) < 2)) = false := by simp [e1.1]
              rw [p2]
              cases hb : (numR 10 (ix w 2)).2 with
              | false => exact ⟨_, rfl, by simp only [readV, stepW, e0, e1'', e2, e3, e4, hl3, hb, cond_true, cond_false, decide_true, Bool.and_false]⟩
              | true =>
                have hr : room 24 (s.ps ++ [PartCount.mk (ix w 1) (numP 10 (ix w 2)).1]).length = true := room_of (by simp; omega) (by simp; omega)
                simp only [Bool.not_true, cond_false, hr, chk_t]
                rw [q2 hb]
                exact ⟨_, rfl, by simp only [readV, stepW, e0, e1'', e2, e3, e4, hl3, hb, cond_true, cond_false, decide_true, Bool.and_true]; first | exact .inr ⟨trivial, rfl⟩ | exact .inr ⟨trivial, trivial⟩⟩
            · simp only [hl3, decide_false, Bool.not_false, cond_true]
              exact ⟨_, rfl, by simp only [readV, stepW, e0, e1', e2, e3, e4, hl3, cond_true, cond_false, decide_false, Bool.false_and]⟩
          | false => exact ⟨_, rfl, by simp only [readV, stepW, e0, e1', e2, e3, e4, cond_false]⟩
theorem take_eq (s : TS) (l : Str) (hs : s.ok 100000) (hl : l.length ≤ 1000) (hn : 1100 ≤ n) (hn2 : n ≤ 90000) : ∃ r, agrafferef08_take_3 n s.t s.nm s.c s.h s.nd s.oo s.ps l = some r ∧ (r.1 = false ∧ stepW s (splitL 32 l) = none ∨ r.1 = true ∧ stepW s (splitL 32 l) = some ⟨r.2.1, r.2.2.1, r.2.2.2.1, r.2.2.2.2.1, r.2.2.2.2.2.1, r.2.2.2.2.2.2.1, r.2.2.2.2.2.2.2⟩) := by
  have h1 := hs.t; have h2 := hs.oo; have h3 := hs.ps; have h4 := hs.nd
  have hcnt := split_cnt 32 l
  have hx := split_ix 32 l
  have hpos : 0 < (splitL 32 l).length := List.length_pos_iff.2 (splitL_ne 32 l)
  rw [agrafferef08_take_3, Cut_eq l hl hn, Option.bind_some]
  generalize splitL 32 l = w at hcnt hx hpos ⊢
  have hk1 : ([116, 97, 115, 107] : Str) = kTask := rfl
  have hk2 : ([110, 101, 101, 100, 115] : Str) = kNeeds := rfl
  have hk3 : ([111, 110, 101, 111, 102] : Str) = kOne := rfl
  have hk4 : ([112, 97, 114, 116] : Str) = kPart := rfl
  rw [hk1, hk2, hk3, hk4, decide_eq_true hpos, chk_t]
  have hnum : ∀ i, agraffebase_Number n (ix w i) 10 = some (numR 10 (ix w i)) := fun i => num_ref _ (by have := hx i; omega) (by omega) hn2
  cases e0 : ix w 0 == kTask with
  | true =>
    by_cases hl4 : w.length = 4
    · have hr : room 104 (s.t.set (s.t.length - 1) (Task.mk s.nm s.c s.h s.nd s.oo s.ps) ++ [Task.mk (ix w 1) (numR 10 (ix w 2)).1 (numR 10 (ix w 3)).1 [] [] []]).length = true := room_of (by simp; omega) (by simp; omega)
      simp only [hl4, decide_true, Bool.true_and, cond_true, hnum, Option.bind_some, chk_t, hr, show (2 : Nat) < 4 by decide, show (3 : Nat) < 4 by decide, show (1 : Nat) < 4 by decide]
      refine ⟨_, rfl, ?_⟩
      simp only [stepW, e0, hl4, decide_true, Bool.true_and, cond_true]
      cases hb : (numR 10 (ix w 2)).2 && (numR 10 (ix w 3)).2 with
      | false => exact .inl ⟨rfl, rfl⟩
      | true => exact .inr ⟨rfl, rfl⟩
    · have hst : stepW s w = none := by simp [stepW, e0, hl4]
      simp only [hl4, decide_false, Bool.and_false, cond_false]
      have hneeds : (ix w 0 == kNeeds) = false := by rw [beq_iff_eq.1 e0]; rfl
      have hone : (ix w 0 == kOne) = false := by rw [beq_iff_eq.1 e0]; rfl
      have hpart : (ix w 0 == kPart) = false := by rw [beq_iff_eq.1 e0]; rfl
      cases e1 : decide (s.t.length = 0) || decide (w.length < 2) with
      | true => exact ⟨_, rfl, .inl ⟨rfl, hst⟩⟩
      | false =>
        simp only [Bool.or_eq_false_iff, decide_eq_false_iff_not] at e1
        have hi : inI (((s.t.length : Nat) : Int) - 1) = true := inI_of (by omega) (by omega)
        simp only [cond_false, hi, chk_t, decide_eq_true (by omega : 0 < s.t.length), hneeds, hone, hpart, Bool.false_and, withK_eq]
        exact ⟨_, rfl, .inl ⟨rfl, hst⟩⟩
  | false =>
    simp only [Bool.false_and, cond_false]
    cases e1 : decide (s.t.length = 0) || decide (w.length < 2) with
    | true => exact ⟨_, rfl, .inl ⟨rfl, by simp only [stepW, e0, e1, cond_true, cond_false]⟩⟩
    | false =>
      have e1' := e1
      simp only [Bool.or_eq_false_iff, decide_eq_false_iff_not] at e1
      have hi : inI (((s.t.length : Nat) : Int) - 1) = true := inI_of (by omega) (by omega)
      have hw1 : 1 ≤ w.length := by omega
      simp only [cond_false, hi, chk_t, decide_eq_true (by omega : 0 < s.t.length), hw1, decide_true, withK_eq]
      cases e2 : ix w 0 == kNeeds with
      | true =>
        have hone : (ix w 0 == kOne) = false := by rw [beq_iff_eq.1 e2]; rfl
        have hpart : (ix w 0 == kPart) = false := by rw [beq_iff_eq.1 e2]; rfl
        by_cases hz : 0 < s.nd.length + s.oo.length + s.ps.length
        · have hc : (((true && decide (s.nd.length = 0)) && decide (s.oo.length = 0)) && decide (s.ps.length = 0)) = false := by
            by_cases a : s.nd.length = 0 <;> by_cases b : s.oo.length = 0 <;> by_cases c : s.ps.length = 0 <;> simp [a, b, c] <;> omega
          simp only [hc, hone, hpart, Bool.false_and, cond_false]
          exact ⟨_, rfl, .inl ⟨rfl, by simp only [stepW, e0, e1', e2, hz, decide_true, cond_true, cond_false]⟩⟩
        · have a : s.nd.length = 0 := by omega
          have b : s.oo.length = 0 := by omega
          have c : s.ps.length = 0 := by omega
          have hc : (((true && decide (s.nd.length = 0)) && decide (s.oo.length = 0)) && decide (s.ps.length = 0)) = true := by simp [a, b, c]
          simp only [hc, cond_true]
          exact ⟨_, rfl, .inr ⟨rfl, by simp only [stepW, e0, e1', e2, hz, decide_false, cond_true, cond_false]⟩⟩
      | false =>
        simp only [Bool.false_and, cond_false]
        cases e3 : ix w 0 == kOne with
        | true =>
          have hpart : (ix w 0 == kPart) = false := by rw [beq_iff_eq.1 e3]; rfl
          by_cases hz : 0 < s.ps.length
          · have hc : (true && decide (s.ps.length = 0)) = false := by rw [Bool.true_and]; exact decide_eq_false (by omega)
            simp only [hc, hpart, Bool.false_and, cond_false]
            exact ⟨_, rfl, .inl ⟨rfl, by simp only [stepW, e0, e1', e2, e3, hz, decide_true, cond_true, cond_false]⟩⟩
          · have hc : (true && decide (s.ps.length = 0)) = true := by rw [Bool.true_and]; exact decide_eq_true (by omega)
            have hr : room 24 (s.oo ++ [w.drop 1]).length = true := room_of (by simp; omega) (by simp; omega)
            simp only [hc, cond_true, hr, chk_t]
            exact ⟨_, rfl, .inr ⟨rfl, by simp only [stepW, e0, e1', e2, e3, hz, decide_false, cond_true, cond_false]⟩⟩
        | false =>
          simp only [Bool.false_and, cond_false]
          cases e4 : ix w 0 == kPart with
          | true =>
            by_cases hl3 : w.length = 3
            · have e1'' : (decide (s.t.length = 0) || decide ((3 : Nat) < 2)) = false := by simp [e1.1]
              simp only [hl3, decide_true, Bool.true_and, cond_true, hnum, Option.bind_some, chk_t, show (2 : Nat) < 3 by decide, show (1 : Nat) < 3 by decide]
              cases hb : (numR 10 (ix w 2)).2 with
              | false => exact ⟨_, rfl, .inl ⟨rfl, by simp only [stepW, e0, e1'', e2, e3, e4, hl3, hb, cond_true, cond_false, decide_true, Bool.and_false]⟩⟩
              | true =>
                have hr : room 24 (s.ps ++ [PartCount.mk (ix w 1) (numR 10 (ix w 2)).1]).length = true := room_of (by simp; omega) (by simp; omega)
                simp only [Bool.not_true, cond_false, hr, chk_t]
                exact ⟨_, rfl, .inr ⟨rfl, by simp only [stepW, e0, e1'', e2, e3, e4, hl3, hb, cond_true, cond_false, decide_true, Bool.and_true]⟩⟩
            · have e5 : (true && decide (w.length = 3)) = false := by simp [hl3]
              simp only [e5, cond_false]
              exact ⟨_, rfl, .inl ⟨rfl, by simp only [stepW, e0, e1', e2, e3, e4, hl3, cond_true, cond_false, decide_false, Bool.false_and]⟩⟩
          | false =>
            simp only [Bool.false_and, cond_false]
            exact ⟨_, rfl, .inl ⟨rfl, by simp only [stepW, e0, e1', e2, e3, e4, cond_false]⟩⟩
end
section
set_option maxRecDepth 4000
open Go
def runR : TS → Nat → List Str → Nat ⊕ TS
  | s, _, [] => .inr s
  | s, i, [l] => bif l == [] then .inr s else .inl (i + 1)
  | s, i, l :: x :: r => match stepW s (splitL 32 l) with
    | none => .inl (i + 1)
    | some s' => runR s' (i + 1) (x :: r)
def totL : List Str → Nat
  | [] => 0
  | l :: r => l.length + 1 + totL r
theorem totL_split (c : UInt8) : ∀ s, totL (splitL c s) = s.length + 1
  | [] => by simp [splitL, totL]
  | b :: l => by
    have ih := totL_split c l
    rw [splitL]
    cases hb : b == c with
    | true => rw [cond_true, totL, ih]; simp; omega
    | false =>
      rw [cond_false]
      cases hs : splitL c l with
      | nil => exact absurd hs (splitL_ne c l)
      | cons y r => rw [hs, totL] at ih; simp [totL]; omega
structure SmT (x : Task) (k : Nat) : Prop where
  nm : x.Name.length ≤ k
  ld : x.Needs.length + x.OneOf.flatten.length ≤ k
  oo : x.OneOf.length ≤ k
  gr : ∀ g ∈ x.OneOf, g.length ≤ k
  ps : x.Parts.length ≤ k
  pn : ∀ p ∈ x.Parts, p.Part.length ≤ k
theorem SmT.mono {x : Task} {k m : Nat} (h : SmT x k) (hk : k ≤ m) : SmT x m := ⟨Nat.le_trans h.nm hk, Nat.le_trans h.ld hk, Nat.le_trans h.oo hk, fun g hg => Nat.le_trans (h.gr g hg) hk, Nat.le_trans h.ps hk, fun g hg => Nat.le_trans (h.pn g hg) hk⟩
structure Bd (s : TS) (k : Nat) : Prop where
  len : s.t.length ≤ k
  all : ∀ x ∈ s.t, SmT x k
  last : SmT s.last k
theorem Bd.nil : Bd TS.nil 0 := ⟨by simp [TS.nil], by simp [TS.nil], ⟨by simp [TS.nil, TS.last], by simp [TS.nil, TS.last], by simp [TS.nil, TS.last], by simp [TS.nil, TS.last], by simp [TS.nil, TS.last], by simp [TS.nil, TS.last]⟩⟩
theorem Bd.mono {s : TS} {k m : Nat} (h : Bd s k) (hk : k ≤ m) : Bd s m := ⟨Nat.le_trans h.len hk, fun x hx => (h.all x hx).mono hk, h.last.mono hk⟩
theorem Bd.mem {s : TS} {k : Nat} (h : Bd s k) : ∀ x ∈ s.all, SmT x k := by
  intro x hx
  rcases List.mem_or_eq_of_mem_set hx with hx | rfl
  · exact h.all x hx
  · exact h.last
theorem Bd.ok {s : TS} {k : Nat} (h : Bd s k) (hk : k ≤ 100000) : s.ok 100000 := by
  have h1 := h.len
  have h2 := h.last.oo
  have h3 := h.last.ps
  have h4 := h.last.ld
  simp only [TS.last] at h2 h3 h4
  exact ⟨by omega, by omega, by omega, by omega⟩
theorem Bd.okT {s : TS} {k : Nat} (h : Bd s k) (hk : k ≤ 800) : OkT s.all := by
  have hm : ∀ x ∈ s.all, SmT x 800 := fun x hx => (h.mem x hx).mono hk
  refine ⟨by rw [TS.all_len]; have := h.len; omega, fun x hx => ?_, fun x hx => ?_, fun x hx => (hm x hx).oo, fun x hx g hg => ?_, fun x hx => ?_, fun x hx => ?_, fun x hx p hp => ?_⟩
  · have := (hm x hx).nm; omega
  · have := (hm x hx).ld; omega
  · have := (hm x hx).gr g hg; omega
  · have := (hm x hx).ld; omega
  · have := (hm x hx).ps; omega
  · have := (hm x hx).pn p hp; omega
theorem step_bd {s s' : TS} {k : Nat} {l : Str} (hs : Bd s k) (h : stepW s (splitL 32 l) = some s') : Bd s' (k + (l.length + 1)) := by
  have hcnt := split_cnt 32 l
  have hx := split_ix 32 l
  generalize splitL 32 l = w at hcnt hx h
  have hle : k ≤ k + (l.length + 1) := by omega
  unfold stepW at h
  cases e0 : ix w 0 == kTask with
  | true =>
    rw [e0, cond_true] at h
    cases e1 : decide (w.length = 4) && ((num10 (ix w 2)).2 && (num10 (ix w 3)).2) with
    | false => rw [e1, cond_false] at h; cases h
    | true =>
      rw [e1, cond_true] at h
      cases h
      have hnew : SmT (Task.mk (ix w 1) (num10 (ix w 2)).1 (num10 (ix w 3)).1 [] [] []) (k + (l.length + 1)) := ⟨by have := hx 1; simp only; omega, by simp, by simp, by simp, by simp, by simp⟩
      refine ⟨by have := hs.len; simp [TS.all_len]; omega, fun x hx => ?_, hnew⟩
      rcases List.mem_append.1 hx with hx | hx
      · exact (hs.mem x hx).mono hle
      · rw [List.mem_singleton] at hx; subst hx; exact hnew
  | false =>
    rw [e0, cond_false] at h
    cases e1 : decide (s.t.length = 0) || decide (w.length < 2) with
    | true => rw [e1, cond_true] at h; cases h
    | false =>
      rw [e1, cond_false] at h
      have hb := hs.mono hle
      have hd : (w.drop 1).length ≤ l.length := by simp; omega
      cases e2 : ix w 0 == kNeeds with
      | true =>
        rw [e2, cond_true] at h
        by_cases hz : 0 < s.nd.length + s.oo.length + s.ps.length
        · simp [hz] at h
        · simp only [hz, decide_false, cond_false, Option.some.injEq] at h
          subst h
          have ho : s.oo = [] := List.eq_nil_of_length_eq_zero (by omega)
          refine ⟨hb.len, hb.all, ⟨hb.last.nm, ?_, hb.last.oo, hb.last.gr, hb.last.ps, hb.last.pn⟩⟩
          simp only [TS.last, ho, List.flatten_nil, List.length_nil]
          omega
      | false =>
        rw [e2, cond_false] at h
        cases e3 : ix w 0 == kOne with
        | true =>
          rw [e3, cond_true] at h
          by_cases hz : 0 < s.ps.length
          · simp [hz] at h
          · simp only [hz, decide_false, cond_false, Option.some.injEq] at h
            subst h
            have h1 := hs.last.ld
            have h2 := hs.last.oo
            have h3 := hb.last.gr
            simp only [TS.last] at h1 h2 h3
            refine ⟨hb.len, hb.all, ⟨hb.last.nm, ?_, ?_, fun g hg => ?_, hb.last.ps, hb.last.pn⟩⟩
            · simp only [TS.last, List.flatten_append, List.flatten_cons, List.flatten_nil, List.append_nil, List.length_append]
              omega
            · simp only [TS.last, List.length_append, List.length_cons, List.length_nil]; omega
            · simp only [TS.last] at hg
              rcases List.mem_append.1 hg with hg | hg
              · exact h3 g hg
              · rw [List.mem_singleton] at hg; subst hg; omega
        | false =>
          rw [e3, cond_false] at h
          cases e4 : ix w 0 == kPart with
          | true =>
            rw [e4, cond_true] at h
            cases e5 : decide (w.length = 3) && (num10 (ix w 2)).2 with
            | false => rw [e5, cond_false] at h; cases h
            | true =>
              rw [e5, cond_true] at h
              simp only [Option.some.injEq] at h
              subst h
              have h2 := hs.last.ps
              have h3 := hb.last.pn
              have h4 := hx 1
              simp only [TS.last] at h2 h3
              refine ⟨hb.len, hb.all, ⟨hb.last.nm, hb.last.ld, hb.last.oo, hb.last.gr, ?_, fun p hp => ?_⟩⟩
              · simp only [TS.last, List.length_append, List.length_cons, List.length_nil]; omega
              · simp only [TS.last] at hp
                rcases List.mem_append.1 hp with hp | hp
                · exact h3 p hp
                · rw [List.mem_singleton] at hp; subst hp; simp only; omega
          | false => rw [e4, cond_false] at h; cases h
theorem run_bd : ∀ (rows : List Str) (s : TS) (i k : Nat) (s' : TS), Bd s k → runR s i rows = .inr s' → Bd s' (k + totL rows)
  | [], s, i, k, s', hs, h => by cases h; exact hs.mono (by omega)
  | [l], s, i, k, s', hs, h => by
    rw [runR] at h
    cases hl : l == [] with
    | true => rw [hl, cond_true] at h; cases h; exact hs.mono (by omega)
    | false => rw [hl, cond_false] at h; cases h
  | l :: x :: r, s, i, k, s', hs, h => by
    rw [runR] at h
    cases e : stepW s (splitL 32 l) with
    | none => rw [e] at h; cases h
    | some s2 =>
      rw [e] at h
      have := run_bd (x :: r) s2 (i + 1) _ s' (step_bd hs e) h
      rw [totL]
      exact this.mono (by omega)
variable {n : Nat}
theorem prog_loop {k : Nat × (List Task) × Str × Int × Int × (List Str) × (List (List Str)) × (List PartCount) → Option (Int × Int × (List Task))} {G : TS → Option (Int × Int × (List Task))}
    (hk : ∀ i (s : TS), k (i, s.t, s.nm, s.c, s.h, s.nd, s.oo, s.ps) = G s) : ∀ (rows : List Str) (text : Str) (s : TS) (i b : Nat), splitL 10 text = rows → Bd s b → b + text.length ≤ 99999 → i + text.length ≤ 99999 →
    linK (restore_Parse_L1 n) k (linesL text) (i, s.t, s.nm, s.c, s.h, s.nd, s.oo, s.ps) = match runR s i rows with | .inl j => some ((j : Int), 7, []) | .inr s' => G s'
  | [], text, s, i, b, h, _, _, _ => absurd h (splitL_ne 10 text)
  | [l], text, s, i, b, h, hs, hb, hi => by
    obtain ⟨rfl, hno⟩ := rows_one h
    rw [runR]
    by_cases h0 : l = []
    · subst h0
      rw [linesL_nil, linK, hk]; rfl
    · have hbeq : (l == []) = false := by simpa using h0
      rw [lines_one hno h0, hbeq, cond_false, linK, restore_Parse_L1, cut_no l (by omega) hno, Option.bind_some, chk_of (nI_of (by omega))]
      simp only [withK_eq, split32 l (by omega : l.length ≤ 100000), Option.bind_some]
      obtain ⟨r, hr, _⟩ := read_eq (n := n) s (splitL 32 l) (hs.ok (by omega)) (splitL_ne 32 l) (by have := split_cnt 32 l; omega) (fun j => by have := split_ix 32 l j; omega)
      rw [hr, Option.bind_some]
      rcases r with r | r
      · simp
      · simp
  | l :: x :: r, text, s, i, b, h, hs, hb, hi => by
    obtain ⟨s', rfl, hno, hs'⟩ := rows_more h
    have hlen : (l ++ 10 :: s').length = l.length + 1 + s'.length := by simp; omega
    rw [hlen] at hb hi
    rw [runR, lines_more hno, linK, restore_Parse_L1, cut_nl l (by omega), Option.bind_some, chk_of (nI_of (by omega))]
    simp only [withK_eq, split32 l (by omega : l.length ≤ 100000), Option.bind_some]
    obtain ⟨q, hr, hv⟩ := read_eq (n := n) s (splitL 32 l) (hs.ok (by omega)) (splitL_ne 32 l) (by have := split_cnt 32 l; omega) (fun j => by have := split_ix 32 l j; omega)
    rw [hr, Option.bind_some]
    rcases q with q | ⟨ok, t, c, hh, nm, nd, oo, ps⟩
    · have hv : stepW s (splitL 32 l) = none := hv
      rw [hv]; simp
    · rcases hv with ⟨rfl, hv⟩ | ⟨rfl, hv⟩
      · rw [hv]; simp
      · rw [hv]
        simp only [Bool.not_true, Bool.or_self, cond_false]
        exact prog_loop hk (x :: r) s' ⟨t, nm, c, hh, nd, oo, ps⟩ (i + 1) _ hs' (step_bd hs hv) (by omega) (by omega)
def finR (E : List Task → Int) : Nat ⊕ TS → Int × Int × List Task
  | .inl i => ((i : Int), 7, [])
  | .inr s => bif E s.all != 0 then (0, E s.all, []) else (0, 0, s.all)
theorem Parse_prog {E : List Task → Int} (s : Str) (hl : s.length ≤ 60000) (hE : ∀ s', runR TS.nil 0 (splitL 10 s) = .inr s' → restore_CheckTasks n s'.all = some (E s'.all)) : restore_Parse n s = some (finR E (runR TS.nil 0 (splitL 10 s))) := by
  have h1 : Nat.ble s.length 4611686018427387904 = true := Nat.ble_eq_true_of_le (by omega)
  rw [restore_Parse, decide_eq_false (by omega), cond_false, withK_eq, strings_Lines, Option.bind_some, h1, chk_t]
  have := prog_loop (n := n) (k := fun (v12, v13, v14, v15, v16, v29, v30, v31) => (restore_CheckTasks n (List.set v13 (v13.length - 1) (Task.mk v14 v15 v16 v29 v30 v31))).bind fun y51 => bif (y51 != (0 : Int)) then some (0, y51, ([] : List Task)) else some (0, 0, (List.set v13 (v13.length - 1) (Task.mk v14 v15 v16 v29 v30 v31)))) (G := fun s => (restore_CheckTasks n s.all).bind fun y => bif y != (0 : Int) then some (0, y, []) else some (0, 0, s.all)) (fun _ _ => rfl) (splitL 10 s) s TS.nil 0 0 rfl Bd.nil (by omega) (by omega)
  refine Eq.trans this ?_
  cases e : runR TS.nil 0 (splitL 10 s) with
  | inl j => rfl
  | inr s' =>
    simp only [hE s' e, Option.bind_some, finR]
    cases E s'.all != 0 <;> rfl
end
section
set_option maxRecDepth 4000
open Go
variable {n : Nat}
theorem ref_loop {rows : List Str} {k1 : (List Task) × Str × Int × Int × (List Str) × (List PartCount) × (List (List Str)) → Option (Int × Int × (List Task))} {G : Nat ⊕ TS → Option (Int × Int × (List Task))} (hrl : rows.length ≤ 1000) (hn : 1100 ≤ n) (hn2 : n ≤ 90000) (hx : ∀ l ∈ rows, l.length ≤ 1000)
    (hG : ∀ j : Nat, G (.inl j) = some (7, (j : Int), [])) (hk : ∀ (s : TS), k1 (s.t, s.nm, s.c, s.h, s.nd, s.ps, s.oo) = G (runR s (rows.length - 1) (rows.drop (rows.length - 1)))) :
    ∀ (m i f : Nat) (s : TS) (b : Nat), i + m + 1 = rows.length → m < f → Bd s b → b + totL (rows.drop i) ≤ 99999 →
    loopN (agrafferef08_Parse_L1 n rows k1) f (s.t, s.nm, s.c, s.h, i, s.nd, s.oo, s.ps) = G (runR s i (rows.drop i))
  | 0, i, f, s, b, hi, hf, hs, hb => by
    obtain ⟨f, rfl⟩ : ∃ q, f = q + 1 := ⟨f - 1, by omega⟩
    have : ¬ (((i : Nat) : Int) < ((rows.length : Nat) : Int) - 1) := by omega
    rw [loopN_s, agrafferef08_Parse_L1, decide_eq_false this, cond_false, hk]
    have : rows.length - 1 = i := by omega
    rw [this]
  | m + 1, i, f, s, b, hi, hf, hs, hb => by
    obtain ⟨f, rfl⟩ : ∃ q, f = q + 1 := ⟨f - 1, by omega⟩
    have h1 : (((i : Nat) : Int) < ((rows.length : Nat) : Int) - 1) := by omega
    have hil : i < rows.length := by omega
    have hil2 : i + 1 < rows.length := by omega
    rw [drop_ix hil, totL] at hb
    have hmem := ix_mem (l := rows) hil
    rw [loopN_s, agrafferef08_Parse_L1, decide_eq_true h1, cond_true, decide_eq_true hil, chk_t]
    obtain ⟨r, hr, hv⟩ := take_eq (n := n) s (ix rows i) (hs.ok (by omega)) (hx _ hmem) hn hn2
    rw [hr, Option.bind_some]
    have hrun : runR s i (rows.drop i) = match stepW s (splitL 32 (ix rows i)) with | none => .inl (i + 1) | some s' => runR s' (i + 1) (rows.drop (i + 1)) := by
      rw [drop_ix hil, drop_ix hil2, runR]
      all_goals (cases stepW s (splitL 32 (ix rows i)) <;> rfl)
    rw [hrun]
    have hnI := nI_of (by omega : i + 1 ≤ 9223372036854775807)
    rcases hv with ⟨hok, hv⟩ | ⟨hok, hv⟩
    · rw [hok, hv, hnI]
      simp only [Bool.not_false, cond_true, chk_t, hG]
    · rw [hok, hv, hnI]
      simp only [Bool.not_true, cond_false, chk_t]
      exact ref_loop hrl hn hn2 hx hG hk m (i + 1) f ⟨r.2.1, r.2.2.1, r.2.2.2.1, r.2.2.2.2.1, r.2.2.2.2.2.1, r.2.2.2.2.2.2.1, r.2.2.2.2.2.2.2⟩ _ (by omega) (by omega) (step_bd hs hv) (by omega)
def finQ (E : List Task → Int) : Nat ⊕ TS → Int × Int × List Task
  | .inl i => (7, (i : Int), [])
  | .inr s => bif E s.all != 0 then (E s.all, 0, []) else (0, 0, s.all)
def finG (n : Nat) : Nat ⊕ TS → Option (Int × Int × List Task)
  | .inl j => some (7, (j : Int), [])
  | .inr s' => (agrafferef08_CheckTasks n s'.all).bind fun y => bif y != (0 : Int) then some (y, 0, ([] : List Task)) else some (0, 0, s'.all)
theorem ref_end {E : List Task → Int} {rows : List Str} (hcnt : rows.length ≤ 700) (htot : totL rows ≤ 700) (hpos : 0 < rows.length) (hx : ∀ l ∈ rows, l.length ≤ 700) (hn : 1100 ≤ n) (hn2 : n ≤ 90000)
    (hrun : ∀ s', runR TS.nil 0 rows = .inr s' → agrafferef08_CheckTasks n s'.all = some (E s'.all)) {F : (List Task) × Str × Int × Int × (List Str) × (List PartCount) × (List (List Str)) → Option (Int × Int × (List Task))}
    (hF : ∀ s : TS, F (s.t, s.nm, s.c, s.h, s.nd, s.ps, s.oo) = (bif !(ix rows (rows.length - 1) == ([] : Str)) then some (7, ((rows.length - 1 : Nat) : Int) + 1, ([] : List Task)) else (agrafferef08_CheckTasks n s.all).bind fun y => bif y != (0 : Int) then some (y, 0, ([] : List Task)) else some (0, 0, s.all))) :
    loopN (agrafferef08_Parse_L1 n rows F) n (([] : List Task), ([] : Str), 0, 0, 0, ([] : List Str), ([] : List (List Str)), ([] : List PartCount)) = some (finQ E (runR TS.nil 0 rows)) := by
  have h2 : ∀ s : TS, F (s.t, s.nm, s.c, s.h, s.nd, s.ps, s.oo) = finG n (runR s (rows.length - 1) (rows.drop (rows.length - 1))) := by
    intro s
    rw [hF, drop_ix (by omega : rows.length - 1 < rows.length), List.drop_eq_nil_of_le (by omega : rows.length ≤ rows.length - 1 + 1), runR]
    cases ix rows (rows.length - 1) == ([] : Str) with
    | true => simp only [Bool.not_true, cond_false, cond_true, finG]
    | false =>
      simp only [Bool.not_false, cond_true, cond_false, finG]
      congr 3
  have := ref_loop (n := n) (rows := rows) (k1 := F) (G := finG n) (by omega) hn hn2 (fun l h => by have := hx l h; omega) (fun _ => rfl) h2 (rows.length - 1) 0 n TS.nil 0 (by omega) (by omega) Bd.nil (by rw [List.drop_zero]; omega)
  refine Eq.trans this ?_
  rw [List.drop_zero]
  cases eq : runR TS.nil 0 rows with
  | inl j => rfl
  | inr s' =>
    simp only [finG, hrun s' eq, Option.bind_some, finQ]
    cases E s'.all != 0 <;> rfl
theorem Parse_ref {E : List Task → Int} (s : Str) (hl : s.length ≤ 600) (hn : 1100 ≤ n) (hn2 : n ≤ 90000) (hE : ∀ s', runR TS.nil 0 (splitL 10 s) = .inr s' → agrafferef08_CheckTasks n s'.all = some (E s'.all)) : agrafferef08_Parse n s = some (finQ E (runR TS.nil 0 (splitL 10 s))) := by
  have h6 : decide (60000 < s.length) = false := decide_eq_false (by omega)
  rw [agrafferef08_Parse, h6, cond_false, Cut_eq10 s (by omega) hn, Option.bind_some]
  have hcnt := split_cnt 10 s
  have hx := split_len 10 s
  have htot := totL_split 10 s
  have hpos : 0 < (splitL 10 s).length := List.length_pos_iff.2 (splitL_ne 10 s)
  generalize splitL 10 s = rows at hcnt hx htot hpos hE ⊢
  have e : (((rows.length : Nat) : Int) - 1) = ((rows.length - 1 : Nat) : Int) := by omega
  have e2 : (((rows.length - 1 : Nat) : Int)).toNat = rows.length - 1 := by omega
  rw [chk_of (inI_of (by omega) (by omega)), withK_eq]
  refine ref_end (by omega) (by omega) hpos (fun l h => by have := hx l h; omega) hn hn2 hE fun st => ?_
  simp only [e, e2]
  rw [chk_of (inB_of (by omega) (by omega)), decide_eq_true (by omega : rows.length - 1 < rows.length), chk_t]
  cases ix rows (rows.length - 1) == ([] : Str) with
  | true =>
    have hall : st.t.set (st.t.length - 1) (Task.mk st.nm st.c st.h st.nd st.oo st.ps) = st.all := rfl
    rw [hall, Bool.not_true, cond_false, cond_false]
  | false =>
    have hin : inI (((rows.length - 1 : Nat) : Int) + 1) = true := inI_of (by omega) (by omega)
    rw [hin, chk_t, Bool.not_false, cond_true, cond_true]
end
section
set_option maxRecDepth 4000
open Go
def lineS (ws : List Str) : Str := joinL ws [32] ++ [10]
def textL (ls : List (List Str)) : Str := (ls.map lineS).flatten
def partW (p : PartCount) : List Str := [kPart, p.Part, itoaL p.Count]
def headW (x : Task) : List Str := [kTask, x.Name, itoaL x.Cents, itoaL x.Hours]
def needW (x : Task) : List (List Str) := bif decide (0 < x.Needs.length) then [kNeeds :: x.Needs] else []
def oneW (g : List Str) : List Str := kOne :: g
def taskW (x : Task) : List (List Str) := headW x :: (needW x ++ (x.OneOf.map oneW ++ x.Parts.map partW))
def allW (t : List Task) : List (List Str) := (t.map taskW).flatten
structure NumOk (v : Int) : Prop where
  inI : inI v = true
  abs : v.natAbs < 10 ^ 10
  len : (itoaL v).length ≤ 12
structure GT (x : Task) : Prop where
  nm : nameB x.Name = true
  ce : NumOk x.Cents
  ho : NumOk x.Hours
  nl : x.Needs.length ≤ 10
  nn : ∀ s ∈ x.Needs, nameB s = true
  ol : x.OneOf.length ≤ 6
  og : ∀ g ∈ x.OneOf, 0 < g.length ∧ g.length ≤ 6 ∧ ∀ s ∈ g, nameB s = true
  pl : x.Parts.length ≤ 10
  pn : ∀ p ∈ x.Parts, nameB p.Part = true ∧ NumOk p.Count
theorem name_len {s : Str} (h : nameB s = true) : s.length ≤ 12 := by
  cases s with
  | nil => simp
  | cons c r =>
    simp only [nameB, Bool.and_eq_true, decide_eq_true_eq] at h
    simp only [List.length_cons]; omega
structure OkL (ws : List Str) : Prop where
  len : ws.length ≤ 11
  wd : ∀ w ∈ ws, w.length ≤ 12
theorem OkL.line {ws : List Str} (h : OkL ws) : (lineS ws).length ≤ 144 := by
  have h1 := joinL_len 32 12 ws h.wd
  have h2 : ws.length * 13 ≤ 11 * 13 := Nat.mul_le_mul_right _ h.len
  simp only [lineS, List.length_append, List.length_cons, List.length_nil]
  omega
theorem textL_len : ∀ {ls : List (List Str)}, (∀ ws ∈ ls, OkL ws) → (textL ls).length ≤ ls.length * 144
  | [], _ => by simp [textL]
  | w :: ls, h => by
    have h1 := (h w (by simp)).line
    have h2 := textL_len (ls := ls) fun ws hw => h ws (by simp [hw])
    simp only [textL, List.map_cons, List.flatten_cons, List.length_append, List.length_cons] at h2 ⊢
    omega
theorem textL_app (a b : List (List Str)) : textL (a ++ b) = textL a ++ textL b := by simp [textL]
theorem textL_one (w : List Str) : textL [w] = lineS w := by simp [textL]
theorem textL_nil : textL [] = [] := rfl
theorem part_ok {p : PartCount} (h : nameB p.Part = true ∧ NumOk p.Count) : OkL (partW p) := ⟨by simp [partW], fun w hw => by
  simp only [partW, List.mem_cons, List.not_mem_nil, or_false] at hw
  rcases hw with rfl | rfl | rfl
  · decide
  · exact name_len h.1
  · exact h.2.len⟩
theorem head_ok {x : Task} (h : GT x) : OkL (headW x) := ⟨by simp [headW], fun w hw => by
  simp only [headW, List.mem_cons, List.not_mem_nil, or_false] at hw
  rcases hw with rfl | rfl | rfl | rfl
  · decide
  · exact name_len h.nm
  · exact h.ce.len
  · exact h.ho.len⟩
theorem one_ok {g : List Str} (h : g.length ≤ 10 ∧ ∀ s ∈ g, nameB s = true) {k : Str} (hk : k.length ≤ 12) : OkL (k :: g) := ⟨by simp; omega, fun w hw => by
  rcases List.mem_cons.1 hw with rfl | hw
  · exact hk
  · exact name_len (h.2 w hw)⟩
theorem need_ok {x : Task} (h : GT x) : ∀ ws ∈ needW x, OkL ws := by
  intro ws hw
  unfold needW at hw
  cases e : decide (0 < x.Needs.length) with
  | false => rw [e] at hw; cases hw
  | true =>
    rw [e, cond_true, List.mem_singleton] at hw
    subst hw
    exact one_ok ⟨h.nl, h.nn⟩ (by decide)
theorem task_ok {x : Task} (h : GT x) : (∀ ws ∈ taskW x, OkL ws) ∧ (taskW x).length ≤ 18 := by
  constructor
  · intro ws hw
    unfold taskW at hw
    rcases List.mem_cons.1 hw with rfl | hw
    · exact head_ok h
    · rcases List.mem_append.1 hw with hw | hw
      · exact need_ok h ws hw
      · rcases List.mem_append.1 hw with hw | hw
        · obtain ⟨g, hg, rfl⟩ := List.mem_map.1 hw
          have := h.og g hg
          exact one_ok ⟨by omega, this.2.2⟩ (by decide)
        · obtain ⟨p, hp, rfl⟩ := List.mem_map.1 hw
          exact part_ok (h.pn p hp)
  · have h1 := h.ol
    have h2 := h.pl
    have h3 : (needW x).length ≤ 1 := by unfold needW; cases decide (0 < x.Needs.length) <;> simp
    simp only [taskW, List.length_cons, List.length_append, List.length_map]
    omega
theorem all_ok : ∀ {t : List Task}, (∀ x ∈ t, GT x) → (∀ ws ∈ allW t, OkL ws) ∧ (allW t).length ≤ t.length * 18
  | [], _ => by simp [allW]
  | x :: t, h => by
    obtain ⟨h1, h2⟩ := task_ok (h x (by simp))
    obtain ⟨h3, h4⟩ := all_ok (t := t) fun y hy => h y (by simp [hy])
    have e : allW (x :: t) = taskW x ++ allW t := by simp [allW]
    rw [e]
    refine ⟨fun ws hw => ?_, by simp only [List.length_append, List.length_cons]; omega⟩
    rcases List.mem_append.1 hw with hw | hw
    · exact h1 ws hw
    · exact h3 ws hw
theorem take_snoc {α : Type} [Inhabited α] {l : List α} {v : Nat} (h : v < l.length) : l.take (v + 1) = l.take v ++ [ix l v] := by
  rw [List.take_succ_eq_append_getElem h, ix_eq h]
variable {n : Nat}
theorem write_eq {ws : List Str} {b : Str} (h : OkL ws) (hb : b.length ≤ 100000) : restore_Print_f1 n ws b = some (b ++ lineS ws) := by
  have h1 := joinL_len 32 12 ws h.wd
  have h2 : ws.length * 13 ≤ 11 * 13 := Nat.mul_le_mul_right _ h.len
  have h3 := h.len
  have e : (joinL ws [32] ++ ([10] : Str)).length = (joinL ws [32]).length + 1 := by simp
  have hz : Nat.blt 0 (joinL ws [32] ++ ([10] : Str)).length = true := Nat.ble_eq_true_of_le (by omega)
  rw [restore_Print_f1, strings_Join, Nat.ble_eq_true_of_le (by omega), Nat.ble_eq_true_of_le (by omega), chk_t, chk_t, Option.bind_some, chk_of (nI_of (by omega)), strings_Builder_WriteString, hz, Nat.ble_eq_true_of_le (by omega), chk_t, chk_t]
  rfl
theorem write_eq2 {ws : List Str} {b : Str} (h : OkL ws) (hb : b.length ≤ 100000) : restore_Print_f1_2 n ws b = some (b ++ lineS ws) := write_eq h hb
theorem parts_prog (t : List Task) (i : Nat) (k : Str → Option (Int × Str)) (b : Str) (hx : GT (ix t i)) (hb : b.length ≤ 50000) (hn : 1000 < n) : loopN (restore_Print_L2 n t i k) n (0, b) = k (b ++ textL ((ix t i).Parts.map partW)) := by
  have hp := hx.pl
  refine loop_fold' (σ := Str) (st := fun v => b ++ textL (((ix t i).Parts.take v).map partW)) (len := (ix t i).Parts.length) (fun back v hv => ?_) (fun back => ?_) n (by omega) (by simp [textL])
  · have hm := hx.pn _ (ix_mem hv)
    have hlen := textL_len (ls := ((ix t i).Parts.take v).map partW) (fun ws hw => by
      obtain ⟨p, hp, rfl⟩ := List.mem_map.1 hw
      exact part_ok (hx.pn p (List.mem_of_mem_take hp)))
    have hl2 : (((ix t i).Parts.take v).map partW).length ≤ 10 := by simp; omega
    have hl3 : (((ix t i).Parts.take v).map partW).length * 144 ≤ 10 * 144 := Nat.mul_le_mul_right _ hl2
    rw [restore_Print_L2, decide_eq_true hv, cond_true, chk_t, itoa_ok hm.2.inI, Option.bind_some]
    rw [write_eq (ws := [([112, 97, 114, 116] : Str), (ix (ix t i).Parts v).Part, itoaL (ix (ix t i).Parts v).Count]) (part_ok hm) (by rw [List.length_append]; omega), Option.bind_some, chk_of (nI_of (by omega))]
    rw [take_snoc hv, List.map_append, textL_app, List.append_assoc]
    rw [List.map_cons, List.map_nil, textL_one]
    rfl
  · rw [restore_Print_L2]; simp
theorem ones_prog (t : List Task) (i : Nat) (k : Str → Option (Int × Str)) (b : Str) (hx : GT (ix t i)) (hb : b.length ≤ 50000) (hn : 1000 < n) : loopN (restore_Print_L1 n t i k) n (0, b) = k (b ++ textL ((ix t i).OneOf.map oneW)) := by
  have hp := hx.ol
  refine loop_fold' (σ := Str) (st := fun v => b ++ textL (((ix t i).OneOf.take v).map oneW)) (len := (ix t i).OneOf.length) (fun back v hv => ?_) (fun back => ?_) n (by omega) (by simp [textL])
  · have hm := hx.og _ (ix_mem hv)
    have hok : ∀ g ∈ (ix t i).OneOf, OkL (oneW g) := fun g hg => by have := hx.og g hg; exact one_ok ⟨by omega, this.2.2⟩ (by decide)
    have hlen := textL_len (ls := ((ix t i).OneOf.take v).map oneW) (fun ws hw => by
      obtain ⟨p, hp, rfl⟩ := List.mem_map.1 hw
      exact hok p (List.mem_of_mem_take hp))
    have hl2 : (((ix t i).OneOf.take v).map oneW).length ≤ 6 := by simp; omega
    have hl3 : (((ix t i).OneOf.take v).map oneW).length * 144 ≤ 6 * 144 := Nat.mul_le_mul_right _ hl2
    have hcat := Concat_eq (n := n) [([([111, 110, 101, 111, 102] : Str)] : List Str), ix (ix t i).OneOf v] (by simp) (by simp; omega) hn
    have hfl : ([([([111, 110, 101, 111, 102] : Str)] : List Str), ix (ix t i).OneOf v] : List (List Str)).flatten = oneW (ix (ix t i).OneOf v) := by simp [oneW, kOne]
    rw [hfl] at hcat
    rw [restore_Print_L1, decide_eq_true hv, cond_true, chk_t, hcat, Option.bind_some]
    rw [write_eq2 (hok _ (ix_mem hv)) (by rw [List.length_append]; omega), Option.bind_some, chk_of (nI_of (by omega))]
    rw [take_snoc hv, List.map_append, textL_app, List.append_assoc]
    rw [List.map_cons, List.map_nil, textL_one]
  · rw [restore_Print_L1]; simp
theorem Print_prog {t : List Task} (ht : t.length ≤ 9) (hg : ∀ x ∈ t, GT x) (hn : 1000 < n) (hE : restore_CheckTasks n t = some 0) : restore_Print n t = some (0, textL (allW t)) := by
  rw [restore_Print, hE, Option.bind_some]
  simp only [withK_eq, strings_Builder_String, Option.bind_some]
  show loopN _ _ _ = _
  refine loop_fold' (σ := Str) (st := fun v => textL (allW (t.take v))) (len := t.length) (fun back v hv => ?_) (fun back => ?_) n (by omega) (by simp [textL, allW])
  · have hx := hg _ (ix_mem hv)
    obtain ⟨h1, h2⟩ := all_ok (t := t.take v) fun x hx => hg x (List.mem_of_mem_take hx)
    have h3 := textL_len h1
    have h4 : (t.take v).length ≤ 9 := by simp; omega
    have h5 : (textL (allW (t.take v))).length ≤ 25000 := by
      have : (t.take v).length * 18 ≤ 9 * 18 := Nat.mul_le_mul_right _ h4
      have : (allW (t.take v)).length * 144 ≤ 162 * 144 := Nat.mul_le_mul_right _ (by omega)
      omega
    have hsnoc : textL (allW (t.take (v + 1))) = textL (allW (t.take v)) ++ textL (taskW (ix t v)) := by
      rw [take_snoc hv]; simp [allW, textL]
    rw [hsnoc]
    generalize textL (allW (t.take v)) = b at h5
    have hhead : restore_Print_f1 n [([116, 97, 115, 107] : Str), (ix t v).Name, itoaL (ix t v).Cents, itoaL (ix t v).Hours] b = some (b ++ lineS (headW (ix t v))) := write_eq (head_ok hx) (by omega)
    have hl1 := (head_ok hx).line
    rw [restore_Print_L3, decide_eq_true hv, cond_true]
    simp only [withK_eq, decide_eq_true hv, chk_t, itoa_ok hx.ce.inI, itoa_ok hx.ho.inI, Option.bind_some, hhead]
    have rest : ∀ c : Str, c.length ≤ 40000 → loopN (restore_Print_L1 n t v fun v36 => loopN (restore_Print_L2 n t v fun v43 => chk (nI (v + 1)) (back (v + 1, v43))) n (0, v36)) n (0, c) = back (v + 1, c ++ (textL ((ix t v).OneOf.map oneW) ++ textL ((ix t v).Parts.map partW))) := by
      intro c hc
      have hol := textL_len (ls := (ix t v).OneOf.map oneW) (fun ws hw => by
        obtain ⟨g, hg, rfl⟩ := List.mem_map.1 hw
        have := hx.og g hg
        exact one_ok ⟨by omega, this.2.2⟩ (by decide))
      have ho := hx.ol
      have ho2 : ((ix t v).OneOf.map oneW).length * 144 ≤ 6 * 144 := Nat.mul_le_mul_right _ (by simpa using ho)
      rw [ones_prog t v _ c hx (by omega) hn, parts_prog t v _ _ hx (by rw [List.length_append]; omega) hn, chk_of (nI_of (by omega)), List.append_assoc]
    have hT : textL (taskW (ix t v)) = lineS (headW (ix t v)) ++ (textL (needW (ix t v)) ++ (textL ((ix t v).OneOf.map oneW) ++ textL ((ix t v).Parts.map partW))) := by
      simp [taskW, textL]
    rw [hT]
    cases hnd : decide (0 < (ix t v).Needs.length) with
    | false =>
      have : needW (ix t v) = [] := by rw [needW, hnd]; rfl
      rw [cond_false, rest _ (by rw [List.length_append]; omega), this, textL_nil, List.nil_append, List.append_assoc]
    | true =>
      have hneed : needW (ix t v) = [kNeeds :: (ix t v).Needs] := by rw [needW, hnd]; rfl
      have hok : OkL (kNeeds :: (ix t v).Needs) := one_ok ⟨hx.nl, hx.nn⟩ (by decide)
      have hl2 := hok.line
      have hcat := Concat_eq (n := n) [([([110, 101, 101, 100, 115] : Str)] : List Str), (ix t v).Needs] (by simp) (by have := hx.nl; simp; omega) hn
      have hfl : ([([([110, 101, 101, 100, 115] : Str)] : List Str), (ix t v).Needs] : List (List Str)).flatten = kNeeds :: (ix t v).Needs := by simp [kNeeds]
      rw [hfl] at hcat
      rw [cond_true, hcat, Option.bind_some, write_eq2 hok (by rw [List.length_append]; omega), Option.bind_some, rest _ (by simp only [List.length_append]; omega), hneed, textL_one]
      simp only [List.append_assoc]
  · rw [restore_Print_L3]; simp
end
section
set_option maxRecDepth 4000
open Go
variable {n : Nat}
theorem join_flat : ∀ (l : List Str) (h : Str), joinL (h :: l) [32] = h ++ (l.map (fun x => (32 : UInt8) :: x)).flatten
  | [], h => by rw [joinL_one]; simp
  | x :: l, h => by rw [joinL_cons, join_flat l x]; simp
theorem words_eq {h : Str} {l : List Str} (hok : OkL (h :: l)) (hn : 1000 < n) : agrafferef08_words n h l = some (lineS (h :: l)) := by
  have hline := hok.line
  rw [lineS, join_flat] at hline
  have hlen := hok.len
  simp only [List.length_cons] at hlen
  simp only [List.length_append, List.length_cons, List.length_nil] at hline
  have hpre : ∀ v, v ≤ l.length → ((l.take v).map (fun x => (32 : UInt8) :: x)).flatten.length ≤ (l.map (fun x => (32 : UInt8) :: x)).flatten.length := by
    intro v _
    have : l.map (fun x => (32 : UInt8) :: x) = (l.take v).map (fun x => (32 : UInt8) :: x) ++ (l.drop v).map (fun x => (32 : UInt8) :: x) := by rw [← List.map_append, List.take_append_drop]
    rw [this, List.flatten_append, List.length_append]; omega
  rw [agrafferef08_words]
  simp only [withK_eq]
  refine loop_fold (σ := Str) (st := fun v => h ++ ((l.take v).map (fun x => (32 : UInt8) :: x)).flatten) (len := l.length) (fun back v hv => ?_) (fun back => ?_) n (by omega) (by simp)
  · have h1 := hpre (v + 1) (by omega)
    have e : ((l.take (v + 1)).map (fun x => (32 : UInt8) :: x)).flatten = ((l.take v).map (fun x => (32 : UInt8) :: x)).flatten ++ ([32] ++ ix l v) := by rw [take_snoc hv]; simp
    rw [e] at h1
    simp only [List.length_append, List.length_cons, List.length_nil] at h1
    rw [agrafferef08_words_L1, decide_eq_true hv, cond_true, chk_of (nI_of (by simp only [List.length_append, List.length_cons, List.length_nil]; omega)), chk_of (nI_of (by simp only [List.length_append, List.length_cons, List.length_nil]; omega)), chk_of (nI_of (by omega)), e]
    simp only [List.append_assoc]
  · have h1 := hpre l.length (Nat.le_refl _)
    rw [agrafferef08_words_L1, decide_eq_false (Nat.lt_irrefl _), cond_false, List.take_length, chk_of (nI_of (by simp only [List.length_append, List.length_cons, List.length_nil]; omega)), lineS, join_flat]
theorem words_eq2 {h : Str} {l : List Str} (hok : OkL (h :: l)) (hn : 1000 < n) : agrafferef08_words_2 n h l = some (lineS (h :: l)) := words_eq hok hn
theorem parts_ref (t : List Task) (i : Nat) (k : Str → Option Str) (b : Str) (hx : GT (ix t i)) (hb : b.length ≤ 50000) (hn : 1000 < n) (hn2 : n ≤ 90000) : loopN (agrafferef08_Print_L2 n t i k) n (b, 0) = k (b ++ textL ((ix t i).Parts.map partW)) := by
  have hp := hx.pl
  refine loop_fold (σ := Str) (st := fun v => b ++ textL (((ix t i).Parts.take v).map partW)) (len := (ix t i).Parts.length) (fun back v hv => ?_) (fun back => ?_) n (by omega) (by simp [textL])
  · have hm := hx.pn _ (ix_mem hv)
    have hlen := textL_len (ls := ((ix t i).Parts.take v).map partW) (fun ws hw => by
      obtain ⟨p, hp, rfl⟩ := List.mem_map.1 hw
      exact part_ok (hx.pn p (List.mem_of_mem_take hp)))
    have hl2 : (((ix t i).Parts.take v).map partW).length ≤ 10 := by simp; omega
    have hl3 : (((ix t i).Parts.take v).map partW).length * 144 ≤ 10 * 144 := Nat.mul_le_mul_right _ hl2
    have hline := (part_ok hm).line
    have hw : agrafferef08_words n ([112, 97, 114, 116] : Str) [(ix (ix t i).Parts v).Part, itoaL (ix (ix t i).Parts v).Count] = some (lineS (partW (ix (ix t i).Parts v))) := words_eq (part_ok hm) hn
    rw [agrafferef08_Print_L2, decide_eq_true hv, cond_true, chk_t, Decimal_eq hm.2.inI (by omega) hn2, Option.bind_some, hw, Option.bind_some, chk_of (nI_of (by simp only [List.length_append]; omega)), chk_of (nI_of (by omega))]
    rw [take_snoc hv, List.map_append, textL_app, List.append_assoc]
    rw [List.map_cons, List.map_nil, textL_one]
  · rw [agrafferef08_Print_L2]; simp
theorem ones_ref (t : List Task) (i : Nat) (k : Str → Option Str) (b : Str) (hx : GT (ix t i)) (hb : b.length ≤ 50000) (hn : 1000 < n) : loopN (agrafferef08_Print_L1 n t i k) n (b, 0) = k (b ++ textL ((ix t i).OneOf.map oneW)) := by
  have hp := hx.ol
  refine loop_fold (σ := Str) (st := fun v => b ++ textL (((ix t i).OneOf.take v).map oneW)) (len := (ix t i).OneOf.length) (fun back v hv => ?_) (fun back => ?_) n (by omega) (by simp [textL])
  · have hok : ∀ g ∈ (ix t i).OneOf, OkL (oneW g) := fun g hg => by have := hx.og g hg; exact one_ok ⟨by omega, this.2.2⟩ (by decide)
    have hlen := textL_len (ls := ((ix t i).OneOf.take v).map oneW) (fun ws hw => by
      obtain ⟨p, hp, rfl⟩ := List.mem_map.1 hw
      exact hok p (List.mem_of_mem_take hp))
    have hl2 : (((ix t i).OneOf.take v).map oneW).length ≤ 6 := by simp; omega
    have hl3 : (((ix t i).OneOf.take v).map oneW).length * 144 ≤ 6 * 144 := Nat.mul_le_mul_right _ hl2
    have hline := (hok _ (ix_mem hv)).line
    have hw : agrafferef08_words_2 n ([111, 110, 101, 111, 102] : Str) (ix (ix t i).OneOf v) = some (lineS (oneW (ix (ix t i).OneOf v))) := words_eq2 (hok _ (ix_mem hv)) hn
    rw [agrafferef08_Print_L1, decide_eq_true hv, cond_true, chk_t, hw, Option.bind_some, chk_of (nI_of (by simp only [List.length_append]; omega)), chk_of (nI_of (by omega))]
    rw [take_snoc hv, List.map_append, textL_app, List.append_assoc]
    rw [List.map_cons, List.map_nil, textL_one]
  · rw [agrafferef08_Print_L1]; simp
theorem Print_ref {t : List Task} (ht : t.length ≤ 9) (hg : ∀ x ∈ t, GT x) (hn : 1000 < n) (hn2 : n ≤ 90000) : agrafferef08_Print n t = some (textL (allW t)) := by
  rw [agrafferef08_Print]
  simp only [withK_eq]
  refine loop_fold (σ := Str) (st := fun v => textL (allW (t.take v))) (len := t.length) (fun back v hv => ?_) (fun back => ?_) n (by omega) (by simp [textL, allW])
  · have hx := hg _ (ix_mem hv)
    obtain ⟨h1, h2⟩ := all_ok (t := t.take v) fun x hx => hg x (List.mem_of_mem_take hx)
    have h3 := textL_len h1
    have h4 : (t.take v).length ≤ 9 := by simp; omega
    have h5 : (textL (allW (t.take v))).length ≤ 25000 := by
      have : (t.take v).length * 18 ≤ 9 * 18 := Nat.mul_le_mul_right _ h4
      have : (allW (t.take v)).length * 144 ≤ 162 * 144 := Nat.mul_le_mul_right _ (by omega)
      omega
    have hsnoc : textL (allW (t.take (v + 1))) = textL (allW (t.take v)) ++ textL (taskW (ix t v)) := by
      rw [take_snoc hv]; simp [allW, textL]
    rw [hsnoc]
    generalize textL (allW (t.take v)) = b at h5
    have hhead : agrafferef08_words n ([116, 97, 115, 107] : Str) [(ix t v).Name, itoaL (ix t v).Cents, itoaL (ix t v).Hours] = some (lineS (headW (ix t v))) := words_eq (head_ok hx) hn
    have hl1 := (head_ok hx).line
    rw [agrafferef08_Print_L3, decide_eq_true hv, cond_true]
    simp only [withK_eq, Decimal_eq hx.ce.inI (by omega : 100 ≤ n) hn2, Decimal_eq hx.ho.inI (by omega : 100 ≤ n) hn2, Option.bind_some, hhead]
    rw [chk_of (nI_of (by simp only [List.length_append]; omega))]
    have rest : ∀ c : Str, c.length ≤ 40000 → loopN (agrafferef08_Print_L1 n t v fun v29 => loopN (agrafferef08_Print_L2 n t v fun v36 => chk (nI (v + 1)) (back (v36, v + 1))) n (v29, 0)) n (c, 0) = back (c ++ (textL ((ix t v).OneOf.map oneW) ++ textL ((ix t v).Parts.map partW)), v + 1) := by
      intro c hc
      have hol := textL_len (ls := (ix t v).OneOf.map oneW) (fun ws hw => by
        obtain ⟨g, hg, rfl⟩ := List.mem_map.1 hw
        have := hx.og g hg
        exact one_ok ⟨by omega, this.2.2⟩ (by decide))
      have ho := hx.ol
      have ho2 : ((ix t v).OneOf.map oneW).length * 144 ≤ 6 * 144 := Nat.mul_le_mul_right _ (by simpa using ho)
      rw [ones_ref t v _ c hx (by omega) hn, parts_ref t v _ _ hx (by rw [List.length_append]; omega) hn hn2, chk_of (nI_of (by omega)), List.append_assoc]
    have hT : textL (taskW (ix t v)) = lineS (headW (ix t v)) ++ (textL (needW (ix t v)) ++ (textL ((ix t v).OneOf.map oneW) ++ textL ((ix t v).Parts.map partW))) := by
      simp [taskW, textL]
    rw [hT]
    cases hnd : decide (0 < (ix t v).Needs.length) with
    | false =>
      have : needW (ix t v) = [] := by rw [needW, hnd]; rfl
      rw [cond_false, rest _ (by rw [List.length_append]; omega), this, textL_nil, List.nil_append, List.append_assoc]
    | true =>
      have hneed : needW (ix t v) = [kNeeds :: (ix t v).Needs] := by rw [needW, hnd]; rfl
      have hok : OkL (kNeeds :: (ix t v).Needs) := one_ok ⟨hx.nl, hx.nn⟩ (by decide)
      have hl2 := hok.line
      have hw : agrafferef08_words_2 n ([110, 101, 101, 100, 115] : Str) (ix t v).Needs = some (lineS (kNeeds :: (ix t v).Needs)) := words_eq2 hok hn
      rw [cond_true, hw, Option.bind_some, chk_of (nI_of (by simp only [List.length_append]; omega)), rest _ (by simp only [List.length_append]; omega), hneed, textL_one]
      simp only [List.append_assoc]
  · rw [agrafferef08_Print_L3]; simp
end
section
set_option maxRecDepth 4000
open Go
def runW : TS → List (List Str) → Option TS
  | s, [] => some s
  | s, w :: r => (stepW s w).bind fun s' => runW s' r
theorem runW_app : ∀ (a b : List (List Str)) (s : TS), runW s (a ++ b) = (runW s a).bind fun s' => runW s' b
  | [], b, s => rfl
  | w :: a, b, s => by
    rw [List.cons_append, runW, runW]
    cases stepW s w with
    | none => rfl
    | some s' => exact runW_app a b s'
structure RdL (ws : List Str) : Prop where
  ne : ws ≠ []
  no32 : ∀ w ∈ ws, (32 : UInt8) ∉ w
  no10 : ∀ w ∈ ws, (10 : UInt8) ∉ w
theorem join_no {c d : UInt8} (hcd : c ≠ d) : ∀ (ws : List Str), (∀ w ∈ ws, c ∉ w) → c ∉ joinL ws [d]
  | [], _ => by rw [joinL, Lib.join_nil]; simp
  | [w], h => by rw [joinL_one]; exact h w (by simp)
  | w :: x :: r, h => by
    have ih := join_no hcd (x :: r) fun y hy => h y (by simp [List.mem_cons.1 hy])
    rw [joinL_cons]
    simp only [List.mem_append, List.mem_singleton, not_or]
    exact ⟨⟨h w (by simp), hcd⟩, ih⟩
theorem split_text : ∀ (ls : List (List Str)), (∀ ws ∈ ls, RdL ws) → splitL 10 (textL ls) = ls.map (fun ws => joinL ws [32]) ++ [[]]
  | [], _ => rfl
  | w :: ls, h => by
    have e : textL (w :: ls) = joinL w [32] ++ 10 :: textL ls := by simp [textL, lineS]
    rw [e, split_app 10 _ _ (join_no (by decide) w (h w (by simp)).no10), split_text ls fun ws hw => h ws (by simp [hw])]
    rfl
theorem runR_text : ∀ (ls : List (List Str)) (s s' : TS) (i : Nat), (∀ ws ∈ ls, RdL ws) → runW s ls = some s' → runR s i (ls.map (fun ws => joinL ws [32]) ++ [[]]) = .inr s'
  | [], s, s', i, _, h => by cases h; rfl
  | w :: ls, s, s', i, hr, h => by
    have hw := hr w (by simp)
    rw [runW] at h
    have hsp : splitL 32 (joinL w [32]) = w := split_join 32 w hw.ne hw.no32
    obtain ⟨y, r, e⟩ : ∃ y r, ls.map (fun ws => joinL ws [32]) ++ [[]] = y :: r := by
      cases ls with
      | nil => exact ⟨_, _, rfl⟩
      | cons a b => exact ⟨_, _, rfl⟩
    rw [List.map_cons, List.cons_append, e, runR, hsp]
    cases hst : stepW s w with
    | none => rw [hst] at h; cases h
    | some s2 =>
      rw [hst, Option.bind_some] at h
      have := runR_text ls s2 s' (i + 1) (fun ws hw => hr ws (by simp [hw])) h
      rw [e] at this
      exact this
theorem num_back {v : Int} (h : NumOk v) : num10 (itoaL v) = (v, true) := num_itoa (d := 10) (by decide) h.abs
theorem name_no32 {s : Str} (h : nameB s = true) : (32 : UInt8) ∉ s := name_no (by decide) (by decide) h
theorem name_no10 {s : Str} (h : nameB s = true) : (10 : UInt8) ∉ s := name_no (by decide) (by decide) h
theorem itoa_no32 (v : Int) : (32 : UInt8) ∉ itoaL v := itoa_no (by decide) (by decide) v
theorem itoa_no10 (v : Int) : (10 : UInt8) ∉ itoaL v := itoa_no (by decide) (by decide) v
theorem rd_head {x : Task} (h : GT x) : RdL (headW x) := ⟨by simp [headW], fun w hw => by
    simp only [headW, List.mem_cons, List.not_mem_nil, or_false] at hw
    rcases hw with rfl | rfl | rfl | rfl
    · decide
    · exact name_no32 h.nm
    · exact itoa_no32 _
    · exact itoa_no32 _, fun w hw => by
    simp only [headW, List.mem_cons, List.not_mem_nil, or_false] at hw
    rcases hw with rfl | rfl | rfl | rfl
    · decide
    · exact name_no10 h.nm
    · exact itoa_no10 _
    · exact itoa_no10 _⟩
theorem rd_names {k : Str} {l : List Str} (h1 : (32 : UInt8) ∉ k) (h2 : (10 : UInt8) ∉ k) (h : ∀ s ∈ l, nameB s = true) : RdL (k :: l) := ⟨by simp, fun w hw => by
    rcases List.mem_cons.1 hw with rfl | hw
    · exact h1
    · exact name_no32 (h w hw), fun w hw => by
    rcases List.mem_cons.1 hw with rfl | hw
    · exact h2
    · exact name_no10 (h w hw)⟩
theorem rd_part {p : PartCount} (h : nameB p.Part = true) : RdL (partW p) := ⟨by simp [partW], fun w hw => by
    simp only [partW, List.mem_cons, List.not_mem_nil, or_false] at hw
    rcases hw with rfl | rfl | rfl
    · decide
    · exact name_no32 h
    · exact itoa_no32 _, fun w hw => by
    simp only [partW, List.mem_cons, List.not_mem_nil, or_false] at hw
    rcases hw with rfl | rfl | rfl
    · decide
    · exact name_no10 h
    · exact itoa_no10 _⟩
theorem rd_task {x : Task} (h : GT x) : ∀ ws ∈ taskW x, RdL ws := by
  intro ws hw
  unfold taskW at hw
  rcases List.mem_cons.1 hw with rfl | hw
  · exact rd_head h
  · rcases List.mem_append.1 hw with hw | hw
    · unfold needW at hw
      cases e : decide (0 < x.Needs.length) with
      | false => rw [e] at hw; cases hw
      | true =>
        rw [e, cond_true, List.mem_singleton] at hw
        subst hw
        exact rd_names (by decide) (by decide) h.nn
    · rcases List.mem_append.1 hw with hw | hw
      · obtain ⟨g, hg, rfl⟩ := List.mem_map.1 hw
        exact rd_names (by decide) (by decide) (h.og g hg).2.2
      · obtain ⟨p, hp, rfl⟩ := List.mem_map.1 hw
        exact rd_part (h.pn p hp).1
theorem run_ones : ∀ (l : List (List Str)) (s : TS), 0 < s.t.length → s.ps = [] → (∀ g ∈ l, 0 < g.length) → runW s (l.map oneW) = some { s with oo := s.oo ++ l }
  | [], s, _, _, _ => by simp [runW]
  | g :: l, s, ht, hp, hg => by
    have h0 : 0 < g.length := hg g (by simp)
    have e : stepW s (oneW g) = some { s with oo := s.oo ++ [g] } := by
      have h1 : (ix (oneW g) 0 == kTask) = false := rfl
      have h2 : (ix (oneW g) 0 == kNeeds) = false := rfl
      have h3 : (ix (oneW g) 0 == kOne) = true := by simp [oneW, ix]
      have h4 : (decide (s.t.length = 0) || decide ((oneW g).length < 2)) = false := by
        rw [decide_eq_false (by omega), decide_eq_false (by simp only [oneW, List.length_cons]; omega)]; rfl
      rw [stepW, h1, h2, h3, h4, hp]
      rfl
    rw [List.map_cons, runW, e, Option.bind_some, run_ones l { s with oo := s.oo ++ [g] } ht hp fun g hg' => hg g (by simp [hg'])]
    simp
theorem run_parts : ∀ (l : List PartCount) (s : TS), 0 < s.t.length → (∀ p ∈ l, NumOk p.Count) → runW s (l.map partW) = some { s with ps := s.ps ++ l }
  | [], s, _, _ => by simp [runW]
  | p :: l, s, ht, hp => by
    have e : stepW s (partW p) = some { s with ps := s.ps ++ [p] } := by
      have h1 : (ix (partW p) 0 == kTask) = false := rfl
      have h2 : (ix (partW p) 0 == kNeeds) = false := rfl
      have h3 : (ix (partW p) 0 == kOne) = false := rfl
      have h5 : (ix (partW p) 0 == kPart) = true := rfl
      have h4 : (decide (s.t.length = 0) || decide ((partW p).length < 2)) = false := by
        rw [decide_eq_false (by omega)]; rfl
      have h6 : ix (partW p) 2 = itoaL p.Count := rfl
      have h7 : ix (partW p) 1 = p.Part := rfl
      have h8 : (partW p).length = 3 := rfl
      rw [stepW, h1, h2, h3, h4, h5, h6, h7, h8, num_back (hp p (by simp))]
      rfl
    rw [List.map_cons, runW, e, Option.bind_some, run_parts l { s with ps := s.ps ++ [p] } ht fun q hq => hp q (by simp [hq])]
    simp
theorem run_task {x : Task} (h : GT x) (s : TS) : ∃ s', runW s (taskW x) = some s' ∧ s'.all = s.all ++ [x] := by
  have e : stepW s (headW x) = some ⟨s.all ++ [Task.mk x.Name x.Cents x.Hours [] [] []], x.Name, x.Cents, x.Hours, [], [], []⟩ := by
    have h1 : (ix (headW x) 0 == kTask) = true := rfl
    have h2 : ix (headW x) 1 = x.Name := rfl
    have h3 : ix (headW x) 2 = itoaL x.Cents := rfl
    have h4 : ix (headW x) 3 = itoaL x.Hours := rfl
    have h5 : (headW x).length = 4 := rfl
    rw [stepW, h1, h2, h3, h4, h5, num_back h.ce, num_back h.ho]
    rfl
  have hn : ∀ s : TS, 0 < s.t.length → s.nd = [] → s.oo = [] → s.ps = [] → runW s (needW x) = some { s with nd := x.Needs } := by
    intro s ht h1 h2 h3
    unfold needW
    cases hd : decide (0 < x.Needs.length) with
    | false =>
      have : x.Needs = [] := by
        have := of_decide_eq_false hd
        exact List.eq_nil_of_length_eq_zero (by omega)
      rw [cond_false, runW, this, ← h1]
    | true =>
      have hpos := of_decide_eq_true hd
      have e1 : (ix (kNeeds :: x.Needs) 0 == kTask) = false := rfl
      have e2 : (ix (kNeeds :: x.Needs) 0 == kNeeds) = true := rfl
      have e4 : (decide (s.t.length = 0) || decide ((kNeeds :: x.Needs).length < 2)) = false := by
        rw [decide_eq_false (by omega), decide_eq_false (by simp only [List.length_cons]; omega)]; rfl
      rw [cond_true, runW, stepW, e1, e2, e4, h1, h2, h3]
      rfl
  refine ⟨⟨s.all ++ [Task.mk x.Name x.Cents x.Hours [] [] []], x.Name, x.Cents, x.Hours, x.Needs, x.OneOf, x.Parts⟩, ?_, ?_⟩
  · have ht : 0 < (s.all ++ [Task.mk x.Name x.Cents x.Hours [] [] []]).length := by simp
    rw [taskW, runW, e, Option.bind_some, runW_app, hn _ ht rfl rfl rfl, Option.bind_some, runW_app, run_ones _ _ ht rfl (fun g hg => (h.og g hg).1), Option.bind_some, run_parts _ _ ht (fun p hp => (h.pn p hp).2)]
    rfl
  · simp [TS.all, TS.last]
theorem run_all : ∀ {t : List Task} (s : TS), (∀ x ∈ t, GT x) → ∃ s', runW s (allW t) = some s' ∧ s'.all = s.all ++ t
  | [], s, _ => ⟨s, rfl, by simp⟩
  | x :: t, s, h => by
    obtain ⟨s1, h1, h2⟩ := run_task (h x (by simp)) s
    obtain ⟨s2, h3, h4⟩ := run_all (t := t) s1 fun y hy => h y (by simp [hy])
    have e : allW (x :: t) = taskW x ++ allW t := by simp [allW]
    exact ⟨s2, by rw [e, runW_app, h1, Option.bind_some, h3], by rw [h4, h2]; simp⟩
theorem round_trip {t : List Task} (h : ∀ x ∈ t, GT x) : ∃ s', runR TS.nil 0 (splitL 10 (textL (allW t))) = .inr s' ∧ s'.all = t := by
  obtain ⟨s', h1, h2⟩ := run_all TS.nil h
  have hr : ∀ ws ∈ allW t, RdL ws := by
    intro ws hw
    obtain ⟨l, hl, hw⟩ := List.mem_flatten.1 hw
    obtain ⟨x, hx, rfl⟩ := List.mem_map.1 hl
    exact rd_task (h x hx) ws hw
  exact ⟨s', by rw [split_text _ hr]; exact runR_text _ _ _ 0 hr h1, by rw [h2]; simp [TS.all, TS.nil]⟩
end
section
set_option maxRecDepth 4000
open Go
variable {n : Nat}
theorem Texts_same (l : List Str) (hl : l.length ≤ 900) (hn : 1000 < n) : agraffebase_Texts n l l = some true := by
  rw [agraffebase_Texts, decide_eq_true rfl, Bool.not_true, cond_false, withK_eq]
  refine loop_through (st := fun v => v) (len := l.length) (fun back v hv => ?_) (fun back => ?_) n (by omega)
  · rw [agraffebase_Texts_L1, decide_eq_true hv, cond_true, chk_t, beq_self_eq_true, Bool.not_true, cond_false, chk_of (nI_of (by omega))]
  · rw [agraffebase_Texts_L1, decide_eq_false (Nat.lt_irrefl _), cond_false]
theorem Counts_same (l : List PartCount) (hl : l.length ≤ 900) (hn : 1000 < n) : agraffelaw08_sameCounts n l l = some true := by
  rw [agraffelaw08_sameCounts, decide_eq_true rfl, Bool.not_true, cond_false, withK_eq]
  refine loop_through (st := fun v => v) (len := l.length) (fun back v hv => ?_) (fun back => ?_) n (by omega)
  · rw [agraffelaw08_sameCounts_L1, decide_eq_true hv, cond_true, chk_t, beq_self_eq_true, beq_self_eq_true, chk_of (nI_of (by omega))]
    rfl
  · rw [agraffelaw08_sameCounts_L1, decide_eq_false (Nat.lt_irrefl _), cond_false]
theorem Same_eq {t : List Task} (h : OkT t) (hn : 1000 < n) : agraffelaw08_Same n t t = some true := by
  have hlen := h.len
  rw [agraffelaw08_Same, decide_eq_true rfl, Bool.not_true, cond_false, withK_eq]
  refine loop_through (st := fun v => v) (len := t.length) (fun back v hv => ?_) (fun back => ?_) n (by omega)
  · have hx := ix_mem hv
    have h1 := h.needs _ hx
    have h2 := h.oneof _ hx
    have h3 := h.parts _ hx
    rw [agraffelaw08_Same_L2, decide_eq_true hv, cond_true]
    simp only [withK_eq, chk_t, beq_self_eq_true, bne_self_eq_false, Bool.not_true, Bool.or_self, Bool.not_false, gcall_t, Texts_same (n := n) _ h1 hn, Option.bind_some, decide_true, Counts_same (n := n) _ h3 hn, cond_false]
    refine loop_through (st := fun v => v) (len := (ix t v).OneOf.length) (fun back' v' hv' => ?_) (fun back' => ?_) n (by omega)
    · have hg := h.group _ hx _ (ix_mem hv')
      rw [agraffelaw08_Same_L1, decide_eq_true hv', cond_true, chk_t, chk_t, Texts_same (n := n) _ hg hn, Option.bind_some, Bool.not_true, cond_false, chk_of (nI_of (by omega))]
    · rw [agraffelaw08_Same_L1, decide_eq_false (Nat.lt_irrefl _), cond_false, chk_of (nI_of (by omega))]
  · rw [agraffelaw08_Same_L2, decide_eq_false (Nat.lt_irrefl _), cond_false]
theorem num_ok {v : Int} (h0 : 0 ≤ v) (h1 : v ≤ 1000000000) : NumOk v := by
  have ha : v.natAbs < 10 ^ 10 := by omega
  refine ⟨inI_of (by omega) (by omega), ha, ?_⟩
  have hb := num_itoa (d := 10) (by decide) ha
  have hm := magL_len (itoaL v)
  unfold numR at hb
  cases hc : (magL (itoaL v)).isEmpty || decide (10 < (magL (itoaL v)).length) with
  | true =>
    rw [hc, cond_true] at hb
    have := congrArg Prod.snd hb
    cases this
  | false =>
    simp only [Bool.or_eq_false_iff, decide_eq_false_iff_not] at hc
    omega
theorem known_names {t : List Task} {l : List Str} (h : known t l = 0) (ht : ∀ x ∈ t, nameB x.Name = true) : ∀ s ∈ l, nameB s = true := by
  intro s hs
  have := known_zero h s hs
  obtain ⟨x, hx, he⟩ := any_byName.1 this
  rw [← he]; exact ht x hx
theorem bif_err {c : Bool} {e x : Int} (he : e ≠ 0) (h : (bif c then e else x) = 0) : c = false ∧ x = 0 := by
  cases c with
  | true => exact absurd h he
  | false => exact ⟨rfl, h⟩
theorem bif_self {e x : Int} (h : (bif e != 0 then e else x) = 0) : e = 0 ∧ x = 0 := by
  by_cases he : e = 0
  · subst he; exact ⟨rfl, h⟩
  · rw [bne_t he, cond_true] at h; exact absurd h he
theorem right_of {t : List Task} (hE : tasksE n t = 0) : t.length ≤ 60 ∧ ∀ x ∈ t, GT x := by
  unfold tasksE at hE
  obtain ⟨h60, hE⟩ := bif_err (by decide) hE
  obtain ⟨hf, _⟩ := bif_self hE
  have hz := firstE_zero hf
  have key : ∀ i, i < t.length → nameB (ix t i).Name = true ∧ ((decide (0 ≤ (ix t i).Cents)) && (decide ((ix t i).Cents ≤ 1000000000))) = true ∧ ((decide (0 ≤ (ix t i).Hours)) && (decide ((ix t i).Hours ≤ 10000))) = true ∧ large (ix t i) = false ∧ known t (ix t i).Needs = 0 ∧ firstE (grpE t (ix t i).OneOf) 0 (ix t i).OneOf.length = 0 ∧ cnts (ix t i).Parts 1000 = 0 := by
    intro i hi
    have h := hz i (by omega) (by omega)
    unfold taskE at h
    obtain ⟨a1, h⟩ := bif_err (by decide) h
    obtain ⟨_, h⟩ := bif_err (by decide) h
    obtain ⟨a2, h⟩ := bif_err (by decide) h
    obtain ⟨a3, h⟩ := bif_err (by decide) h
    obtain ⟨a4, h⟩ := bif_self h
    obtain ⟨a5, a6⟩ := bif_self h
    simp only [Bool.or_eq_false_iff, Bool.not_eq_false'] at a1 a2
    exact ⟨a1, a2.1, a2.2, a3, a4, a5, a6⟩
  have hn : ∀ x ∈ t, nameB x.Name = true := by
    intro x hx
    obtain ⟨i, hi, rfl⟩ := List.mem_iff_getElem.1 hx
    have := (key i hi).1
    rwa [ix_eq hi] at this
  refine ⟨by simpa using h60, fun x hx => ?_⟩
  obtain ⟨i, hi, rfl⟩ := List.mem_iff_getElem.1 hx
  have hk := key i hi
  rw [ix_eq hi] at hk
  generalize t[i] = x at hk
  obtain ⟨k1, k2, k3, k4, k5, k6, k7⟩ := hk
  simp only [Bool.and_eq_true, decide_eq_true_eq] at k2 k3
  unfold large at k4
  simp only [Bool.or_eq_false_iff, decide_eq_false_iff_not, List.any_eq_false, decide_eq_true_eq] at k4
  obtain ⟨⟨⟨l1, l2⟩, l3⟩, l4⟩ := k4
  have kg := firstE_zero k6
  have kp := firstE_zero k7
  refine ⟨k1, num_ok k2.1 k2.2, num_ok k3.1 (by omega), by omega, known_names k5 hn, by omega, fun g hg => ?_, by omega, fun p hp => ?_⟩
  · obtain ⟨j, hj, rfl⟩ := List.mem_iff_getElem.1 hg
    have h := kg j (by omega) (by omega)
    unfold grpE at h
    rw [ix_eq hj] at h
    obtain ⟨b1, b2⟩ := bif_err (by decide) h
    have := l3 _ hg
    simp only [decide_eq_false_iff_not] at b1
    exact ⟨by omega, by omega, known_names b2 hn⟩
  · obtain ⟨j, hj, rfl⟩ := List.mem_iff_getElem.1 hp
    have h := kp j (by omega) (by omega)
    unfold cntE at h
    rw [ix_eq hj] at h
    obtain ⟨b1, h⟩ := bif_err (by decide) h
    obtain ⟨_, h⟩ := bif_err (by decide) h
    obtain ⟨b3, _⟩ := bif_err (by decide) h
    simp only [Bool.not_eq_false', Bool.and_eq_true, decide_eq_true_eq] at b1 b3
    exact ⟨b1, num_ok (by omega) (by omega)⟩
theorem pure_RestoreTexts (a0 : List Task) (a1 : Str) : agraffelaw08_RestoreTexts 5000 a0 a1 = some true := by
  have h1000 : (1000 : Nat) < 5000 := by decide
  rw [agraffelaw08_RestoreTexts, agraffelaw08_awake, Option.bind_some, Bool.not_true, cond_false, Few_eq a0 h1000, Option.bind_some]
  cases hg : ((!fewB a0) || ((decide (600 < a1.length)) && (decide (a1.length ≤ 60000)))) || (decide (60100 < a1.length)) with
  | true => rfl
  | false =>
    simp only [Bool.or_eq_false_iff, Bool.not_eq_false', decide_eq_false_iff_not] at hg
    obtain ⟨⟨hf, hl⟩, hl2⟩ := hg
    have hok := few_ok hf
    have hres := CheckTasks_res hok h1000
    have href := CheckTasks_ref hok h1000
    have k1 : ((restore_Parse 5000 a1).bind fun y9 => (agrafferef08_Parse 5000 a1).bind fun y10 =>
        (gcall ((y9.2.1 == y10.1) && (y9.1 == y10.2.1)) (agraffelaw08_Same 5000 y9.2.2 y10.2.2)).bind fun y11 => some (((y9.2.1 == y10.1) && (y9.1 == y10.2.1)) && y11)) = some true := by
      have hnil : agraffelaw08_Same 5000 [] [] = some true := Same_eq ⟨by simp, by simp, by simp, by simp, by simp, by simp, by simp, by simp⟩ h1000
      by_cases hbig : 60000 < a1.length
      · have e1 : restore_Parse 5000 a1 = some (0, 8, []) := by rw [restore_Parse, decide_eq_true hbig, cond_true]
        have e2 : agrafferef08_Parse 5000 a1 = some (8, 0, []) := by rw [agrafferef08_Parse, decide_eq_true hbig, cond_true]
        rw [e1, e2]
        simp only [Option.bind_some, beq_self_eq_true, Bool.and_self, gcall_t, hnil]
      · have hsm : a1.length ≤ 600 := by
          rcases Nat.lt_or_ge 600 a1.length with h | h
          · rw [decide_eq_true h, decide_eq_true (by omega : a1.length ≤ 60000)] at hl; cases hl
          · exact h
        have hbd : ∀ s', runR TS.nil 0 (splitL 10 a1) = .inr s' → OkT s'.all := by
          intro s' hs'
          have := run_bd _ _ _ _ _ Bd.nil hs'
          rw [totL_split] at this
          exact this.okT (by omega)
        have e1 := Parse_prog (n := 5000) (E := tasksE 5000) a1 (by omega) fun s' hs' => CheckTasks_res (hbd s' hs') h1000
        have e2 := Parse_ref (n := 5000) (E := tasksE 5000) a1 hsm (by decide) (by decide) fun s' hs' => CheckTasks_ref (hbd s' hs') h1000
        rw [e1, e2]
        cases hr : runR TS.nil 0 (splitL 10 a1) with
        | inl j => simp only [finR, finQ, Option.bind_some, beq_self_eq_true, Bool.and_self, gcall_t, hnil]
        | inr s' =>
          have hsame := Same_eq (hbd s' hr) h1000
          simp only [finR, finQ, Option.bind_some]
          cases tasksE 5000 s'.all != 0 with
          | true => simp only [cond_true, beq_self_eq_true, Bool.and_self, gcall_t, hnil, Option.bind_some]
          | false => simp only [cond_false, beq_self_eq_true, Bool.and_self, gcall_t, hsame, Option.bind_some]
    rw [cond_false, Copied_eq hok h1000, Option.bind_some]
    simp only [withK_eq, k1, href, Option.bind_some]
    by_cases hE : tasksE 5000 a0 = 0
    · obtain ⟨h60, hgt⟩ := right_of hE
      have h9 : a0.length ≤ 9 := by
        unfold fewB at hf
        simp only [Bool.and_eq_true, Bool.not_eq_true', Bool.or_eq_false_iff, decide_eq_false_iff_not] at hf
        have := hf.1.1
        rcases Nat.lt_or_ge 9 a0.length with h | h
        · rw [decide_eq_true h, decide_eq_true h60] at this; cases this
        · exact h
      rw [hE] at hres
      obtain ⟨o1, o2⟩ := all_ok hgt
      have o3 := textL_len o1
      obtain ⟨s', hr, hall⟩ := round_trip hgt
      have e1 := Parse_prog (n := 5000) (E := tasksE 5000) (textL (allW a0)) (by
        have : a0.length * 18 ≤ 9 * 18 := Nat.mul_le_mul_right _ h9
        have : (allW a0).length * 144 ≤ 162 * 144 := Nat.mul_le_mul_right _ (by omega)
        omega) fun q hq => by
          rw [hr] at hq; cases hq
          rw [hall, hE]; exact hres
      rw [hr, finR, hall, hE] at e1
      have hb : ((0 : Int) != 0) = false := rfl
      rw [hb, cond_false] at e1
      rw [Print_prog h9 hgt h1000 hres, Option.bind_some]
      simp only [hE, hb, cond_false, e1, Option.bind_some, Bool.not_false, gcall_t, Print_ref h9 hgt h1000 (by decide : (5000 : Nat) ≤ 90000), beq_self_eq_true, Bool.not_true, Bool.or_self, Same_eq hok h1000]
    · have hp : restore_Print 5000 a0 = some (tasksE 5000 a0, []) := by
        rw [restore_Print, hres, Option.bind_some, bne_t hE, cond_true]
      rw [hp, Option.bind_some, bne_t hE, cond_true]
      simp
end
end Go.Proofs.YtchkkpbkgghcoaaGreatDoor.As
