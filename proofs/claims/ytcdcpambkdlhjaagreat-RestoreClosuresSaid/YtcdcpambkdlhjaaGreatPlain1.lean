/- What the functions compute, on plain data, and what follows from it, part 1: no condition. -/
import Derived.Test.YtcdcpambkdlhjaaGreatGround3
namespace Go.Proofs.YtcdcpambkdlhjaaGreat.As
open Go
section
set_option maxRecDepth 4000
open Go
structure PartCount where
  Part : Str
  Count : Int
  deriving Inhabited, DecidableEq
def ePartCount (x : PartCount) : V := .agg [vt x.Part, vi x.Count]
theorem ePartCount_frzE (x : PartCount) : frzE (ePartCount x) = true := rfl
structure Task where
  Name : Str
  Cents : Int
  Hours : Int
  Needs : List Str
  OneOf : List (List Str)
  Parts : List PartCount
  deriving Inhabited, DecidableEq
def eTask (x : Task) : V := .agg [vt x.Name, vi x.Cents, vi x.Hours, eS 1 vt x.Needs, eS 1 (eS 1 vt) x.OneOf, eS 2 ePartCount x.Parts]
theorem eTask_frz (x : Task) : (eTask x).frz = true := rfl
theorem eTask_frzE (x : Task) : frzE (eTask x) = true := rfl
structure Range where
  Lo : Int
  Hi : Int
  deriving Inhabited, DecidableEq
def agraffelaw08_awake (n : Nat) : Option Bool := some true
def agraffelaw08_texts_L1 (a0 : List Str) (k1 : (Unit → Option Bool)) (back : Nat → Option Bool) : Nat → Option Bool
  | v1 =>
  bif decide (v1 < a0.length) then
    bif decide (20 < ((ix a0 v1).length)) then
      some false
    else
      chk (nI (v1 + 1)) <|
      back (v1 + 1)
  else
    k1 ()
def agraffelaw08_texts (n : Nat) (a0 : List Str) (a1 : Int) : Option Bool :=
  bif decide (a1 < ((a0.length : Nat) : Int)) then
    some false
  else
    withK (fun (_ : Unit) =>
        some true) fun k1 =>
    loopN (agraffelaw08_texts_L1 a0 k1) n 0
def agraffelaw08_Few_L2 (a0 : List Task) (v6 : Nat) (k2 : (Unit → Option Bool)) (back : Nat → Option Bool) : Nat → Option Bool
  | v11 =>
  bif decide (v11 < (((ix a0 v6).Parts).length)) then
    chk (decide (v11 < ((ix a0 v6).Parts).length)) <|
    bif decide (20 < (((ix ((ix a0 v6).Parts) v11).Part).length)) then
      some false
    else
      chk (nI (v11 + 1)) <|
      back (v11 + 1)
  else
    k2 ()
def agraffelaw08_Few_L1 (n : Nat) (a0 : List Task) (v6 : Nat) (k1 : (Unit → Option Bool)) (back : Nat → Option Bool) : Nat → Option Bool
  | v9 =>
  bif decide (v9 < (((ix a0 v6).OneOf).length)) then
    chk (decide (v9 < ((ix a0 v6).OneOf).length)) <|
    (agraffelaw08_texts n (ix ((ix a0 v6).OneOf) v9) 9).bind fun y10 =>
    bif !y10 then
      some false
    else
      chk (nI (v9 + 1)) <|
      back (v9 + 1)
  else
    k1 ()
def agraffelaw08_Few_L3 (n : Nat) (a0 : List Task) (k3 : (Unit → Option Bool)) (back : Nat → Option Bool) : Nat → Option Bool
  | v6 =>
  bif decide (v6 < a0.length) then
    withK (fun (_ : Unit) =>
        chk (nI (v6 + 1)) <|
        back (v6 + 1)) fun k2 =>
    (gcall (!(decide (20 < (((ix a0 v6).Name).length)))) (agraffelaw08_texts n ((ix a0 v6).Needs) 13)).bind fun y7 =>
    bif (((decide (20 < (((ix a0 v6).Name).length))) || (!y7)) || (decide (9 < (((ix a0 v6).OneOf).length)))) || (decide (13 < (((ix a0 v6).Parts).length))) then
      some false
    else
      withK (fun (_ : Unit) =>
          loopN (agraffelaw08_Few_L2 a0 v6 k2) n 0) fun k1 =>
      loopN (agraffelaw08_Few_L1 n a0 v6 k1) n 0
  else
    k3 ()
def agraffelaw08_Few (n : Nat) (a0 : List Task) : Option Bool :=
  bif ((decide (9 < a0.length)) && (decide (a0.length ≤ 60))) || (decide (63 < a0.length)) then
    some false
  else
    withK (fun (_ : Unit) =>
        some true) fun k3 =>
    loopN (agraffelaw08_Few_L3 n a0 k3) n 0
def agraffebase_CopyTexts (n : Nat) (a0 : List Str) : Option Unit :=
  chk (room 16 a0.length) <|
  some ()
def agraffebase_CopyTexts_2 (n : Nat) (a0 : List Str) : Option Unit :=
  chk (room 16 a0.length) <|
  some ()
def agraffelaw08_Copied_L1 (n : Nat) (v7 : Nat) (v8 : List Task) (k1 : ((List (List Str)) → Option (List Task))) (back : Nat × (List (List Str)) → Option (List Task)) : Nat × (List (List Str)) → Option (List Task)
  | (v11, v12) =>
  bif decide (v11 < (((ix (List.set (List.set v8 v7 (ix v8 v7)) v7 (ix (List.set v8 v7 (ix v8 v7)) v7)) v7).OneOf).length)) then
    chk (decide (v11 < ((ix (List.set (List.set v8 v7 (ix v8 v7)) v7 (ix (List.set v8 v7 (ix v8 v7)) v7)) v7).OneOf).length)) <|
    (agraffebase_CopyTexts n (ix ((ix (List.set (List.set v8 v7 (ix v8 v7)) v7 (ix (List.set v8 v7 (ix v8 v7)) v7)) v7).OneOf) v11)).bind fun y13 =>
    chk (room 24 (v12 ++ ([(ix ((ix (List.set (List.set v8 v7 (ix v8 v7)) v7 (ix (List.set v8 v7 (ix v8 v7)) v7)) v7).OneOf) v11)] : List (List Str))).length) <|
    chk (nI (v11 + 1)) <|
    back (v11 + 1, (v12 ++ ([(ix ((ix (List.set (List.set v8 v7 (ix v8 v7)) v7 (ix (List.set v8 v7 (ix v8 v7)) v7)) v7).OneOf) v11)] : List (List Str))))
  else
    k1 v12
def agraffelaw08_Copied_L2 (n : Nat) (k2 : ((List Task) → Option (List Task))) (back : Nat × (List Task) → Option (List Task)) : Nat × (List Task) → Option (List Task)
  | (v7, v8) =>
  bif decide (v7 < v8.length) then
    withK (fun (v14 : (List (List Str))) =>
        chk (nI (v7 + 1)) <|
        back (v7 + 1, (List.set (List.set (List.set v8 v7 (ix v8 v7)) v7 (ix (List.set v8 v7 (ix v8 v7)) v7)) v7 (Task.mk ((ix (List.set (List.set v8 v7 (ix v8 v7)) v7 (ix (List.set v8 v7 (ix v8 v7)) v7)) v7).Name) ((ix (List.set (List.set v8 v7 (ix v8 v7)) v7 (ix (List.set v8 v7 (ix v8 v7)) v7)) v7).Cents) ((ix (List.set (List.set v8 v7 (ix v8 v7)) v7 (ix (List.set v8 v7 (ix v8 v7)) v7)) v7).Hours) ((ix (List.set (List.set v8 v7 (ix v8 v7)) v7 (ix (List.set v8 v7 (ix v8 v7)) v7)) v7).Needs) v14 ((ix (List.set (List.set v8 v7 (ix v8 v7)) v7 (ix (List.set v8 v7 (ix v8 v7)) v7)) v7).Parts))))) fun k1 =>
    (agraffebase_CopyTexts_2 n ((ix v8 v7).Needs)).bind fun y9 =>
    chk (decide (v7 < (List.set v8 v7 (ix v8 v7)).length)) <|
    chk (room 24 ((ix (List.set v8 v7 (ix v8 v7)) v7).Parts).length) <|
    chk (decide (v7 < (List.set (List.set v8 v7 (ix v8 v7)) v7 (ix (List.set v8 v7 (ix v8 v7)) v7)).length)) <|
    loopN (agraffelaw08_Copied_L1 n v7 v8 k1) n (0, ([] : List (List Str)))
  else
    k2 v8
def agraffelaw08_Copied (n : Nat) (a0 : List Task) : Option (List Task) :=
  chk (room 104 a0.length) <|
  withK (fun (v15 : (List Task)) =>
      some v15) fun k2 =>
  loopN (agraffelaw08_Copied_L2 n k2) n (0, a0)
def restore_isName_L1 (a0 : Str) (k1 : (Unit → Option Bool)) (back : Nat → Option Bool) : Nat → Option Bool
  | v1 =>
  bif decide (v1 < a0.length) then
    bif (!(((decide ((97 : Int) ≤ (((ix a0 v1).toNat : Nat) : Int))) && (decide ((((ix a0 v1).toNat : Nat) : Int) ≤ (122 : Int)))) || ((decide ((65 : Int) ≤ (((ix a0 v1).toNat : Nat) : Int))) && (decide ((((ix a0 v1).toNat : Nat) : Int) ≤ (90 : Int)))))) && ((decide (v1 = 0)) || (((((ix a0 v1).toNat : Nat) : Int) != (45 : Int)) && ((decide ((((ix a0 v1).toNat : Nat) : Int) < (48 : Int))) || (decide ((57 : Int) < (((ix a0 v1).toNat : Nat) : Int)))))) then
      some false
    else
      chk (nI (v1 + 1)) <|
      back (v1 + 1)
  else
    k1 ()
def restore_isName (n : Nat) (a0 : Str) : Option Bool :=
  withK (fun (_ : Unit) =>
      some ((!(a0 == ([] : Str))) && (decide (a0.length ≤ 12)))) fun k1 =>
  loopN (restore_isName_L1 a0 k1) n 0
def restore_list_find_f1 (n : Nat) (a0 : Task) (a1 : Str) : Option Unit :=
  some ()
def slices_IndexFunc_Task_L1 (n : Nat) (a0 : List Task) (a1 : Str) (k1 : (Unit → Option Int)) (back : Nat → Option Int) : Nat → Option Int
  | v2 =>
  bif decide (v2 < a0.length) then
    (restore_list_find_f1 n (ix a0 v2) a1).bind fun y3 =>
    bif ((ix a0 v2).Name == a1) then
      some ((v2 : Nat) : Int)
    else
      chk (nI (v2 + 1)) <|
      back (v2 + 1)
  else
    k1 ()
def slices_IndexFunc_Task (n : Nat) (a0 : List Task) (a1 : Str) : Option Int :=
  withK (fun (_ : Unit) =>
      some (-1)) fun k1 =>
  loopN (slices_IndexFunc_Task_L1 n a0 a1 k1) n 0
def restore_list_find (n : Nat) (a0 : List Task) (a1 : Str) : Option Int :=
  (slices_IndexFunc_Task n a0 a1).bind fun y1 =>
  some y1
def restore_within (n : Nat) (a0 : Int) (a1 : Int) (a2 : Int) : Option Unit :=
  some ()
def restore_list_checkTask_f1 (n : Nat) (a0 : List Str) : Option Unit :=
  some ()
def slices_IndexFunc_string_L1 (n : Nat) (a0 : List (List Str)) (k1 : (Unit → Option Int)) (back : Nat → Option Int) : Nat → Option Int
  | v2 =>
  bif decide (v2 < a0.length) then
    (restore_list_checkTask_f1 n (ix a0 v2)).bind fun y3 =>
    bif decide (6 < (ix a0 v2).length) then
      some ((v2 : Nat) : Int)
    else
      chk (nI (v2 + 1)) <|
      back (v2 + 1)
  else
    k1 ()
def slices_IndexFunc_string (n : Nat) (a0 : List (List Str)) : Option Int :=
  withK (fun (_ : Unit) =>
      some (-1)) fun k1 =>
  loopN (slices_IndexFunc_string_L1 n a0 k1) n 0
def slices_ContainsFunc_string (n : Nat) (a0 : List (List Str)) : Option Bool :=
  (slices_IndexFunc_string n a0).bind fun y1 =>
  some (decide ((0 : Int) ≤ y1))
def slices_Index_string_L1 (a0 : List Str) (a1 : Str) (k1 : (Unit → Option Int)) (back : Nat → Option Int) : Nat → Option Int
  | v1 =>
  bif decide (v1 < a0.length) then
    bif (a1 == (ix a0 v1)) then
      some ((v1 : Nat) : Int)
    else
      chk (nI (v1 + 1)) <|
      back (v1 + 1)
  else
    k1 ()
def slices_Index_string (n : Nat) (a0 : List Str) (a1 : Str) : Option Int :=
  withK (fun (_ : Unit) =>
      some (-1)) fun k1 =>
  loopN (slices_Index_string_L1 a0 a1 k1) n 0
def slices_Contains_string (n : Nat) (a0 : List Str) (a1 : Str) : Option Bool :=
  (slices_Index_string n a0 a1).bind fun y1 =>
  some (decide ((0 : Int) ≤ y1))
def restore_list_known_L1 (n : Nat) (a0 : List Task) (a1 : List Str) (k1 : (Unit → Option Int)) (back : Nat → Option Int) : Nat → Option Int
  | v3 =>
  bif decide (v3 < a1.length) then
    (restore_list_find n a0 (ix a1 v3)).bind fun y4 =>
    bif decide (y4 < (0 : Int)) then
      some 6
    else
      chk (decide (v3 ≤ a1.length)) <|
      (slices_Contains_string n (List.take v3 a1) (ix a1 v3)).bind fun y5 =>
      bif y5 then
        some 5
      else
        chk (nI (v3 + 1)) <|
        back (v3 + 1)
  else
    k1 ()
def restore_list_known (n : Nat) (a0 : List Task) (a1 : List Str) : Option Int :=
  withK (fun (_ : Unit) =>
      some 0) fun k1 =>
  loopN (restore_list_known_L1 n a0 a1 k1) n 0
def restore_checkCounts_f1 (n : Nat) (a0 : PartCount) (a1 : Str) (a2 : Int) : Option Unit :=
  some ()
def slices_IndexFunc_PartCount_L1 (n : Nat) (a0 : List PartCount) (a1 : Str) (a2 : Int) (k1 : (Unit → Option Int)) (back : Nat → Option Int) : Nat → Option Int
  | v2 =>
  bif decide (v2 < a0.length) then
    (restore_checkCounts_f1 n (ix a0 v2) a1 a2).bind fun y3 =>
    bif ((ix a0 v2).Part == a1) then
      some ((v2 : Nat) : Int)
    else
      chk (nI (v2 + 1)) <|
      back (v2 + 1)
  else
    k1 ()
def slices_IndexFunc_PartCount (n : Nat) (a0 : List PartCount) (a1 : Str) (a2 : Int) : Option Int :=
  withK (fun (_ : Unit) =>
      some (-1)) fun k1 =>
  loopN (slices_IndexFunc_PartCount_L1 n a0 a1 a2 k1) n 0
def slices_ContainsFunc_PartCount (n : Nat) (a0 : List PartCount) (a1 : Str) (a2 : Int) : Option Bool :=
  (slices_IndexFunc_PartCount n a0 a1 a2).bind fun y1 =>
  some (decide ((0 : Int) ≤ y1))
def restore_checkCounts_L1 (n : Nat) (a0 : List PartCount) (a1 : Int) (k1 : (Unit → Option Int)) (back : Nat → Option Int) : Nat → Option Int
  | v4 =>
  bif decide (v4 < a0.length) then
    (restore_isName n ((ix a0 v4).Part)).bind fun y5 =>
    bif !y5 then
      some 4
    else
      chk (decide (v4 ≤ a0.length)) <|
      (slices_ContainsFunc_PartCount n (List.take v4 a0) ((ix a0 v4).Part) ((ix a0 v4).Count)).bind fun y6 =>
      bif y6 then
        some 5
      else
        (restore_within n ((ix a0 v4).Count) 1 a1).bind fun y7 =>
        bif !((decide (1 ≤ ((ix a0 v4).Count))) && (decide (((ix a0 v4).Count) ≤ a1))) then
          some 2
        else
          chk (nI (v4 + 1)) <|
          back (v4 + 1)
  else
    k1 ()
def restore_checkCounts (n : Nat) (a0 : List PartCount) (a1 : Int) : Option Int :=
  withK (fun (_ : Unit) =>
      some 0) fun k1 =>
  loopN (restore_checkCounts_L1 n a0 a1 k1) n 0
def restore_list_checkTask_L1 (n : Nat) (a0 : List Task) (a1 : Int) (k1 : (Unit → Option Int)) (back : Nat → Option Int) : Nat → Option Int
  | v8 =>
  bif decide (v8 < (((ix a0 a1.toNat).OneOf).length)) then
    chk (decide (v8 < ((ix a0 a1.toNat).OneOf).length)) <|
    bif decide (((ix ((ix a0 a1.toNat).OneOf) v8).length) = 0) then
      some 10
    else
      (restore_list_known n a0 (ix ((ix a0 a1.toNat).OneOf) v8)).bind fun y9 =>
      bif (y9 != (0 : Int)) then
        some y9
      else
        chk (nI (v8 + 1)) <|
        back (v8 + 1)
  else
    k1 ()
def restore_list_checkTask (n : Nat) (a0 : List Task) (a1 : Int) : Option Int :=
  chk (inB a1 a0.length) <|
  chk (decide (a1.toNat < a0.length)) <|
  (restore_isName n ((ix a0 a1.toNat).Name)).bind fun y1 =>
  bif !y1 then
    some 4
  else
    (restore_list_find n a0 ((ix a0 a1.toNat).Name)).bind fun y2 =>
    bif decide (y2 < a1) then
      some 5
    else
      (restore_within n ((ix a0 a1.toNat).Cents) 0 1000000000).bind fun y3 =>
      (gcall (!(!((decide (0 ≤ ((ix a0 a1.toNat).Cents))) && (decide (((ix a0 a1.toNat).Cents) ≤ 1000000000))))) (restore_within n ((ix a0 a1.toNat).Hours) 0 10000)).bind fun y4 =>
      bif (!((decide (0 ≤ ((ix a0 a1.toNat).Cents))) && (decide (((ix a0 a1.toNat).Cents) ≤ 1000000000)))) || (!((decide (0 ≤ ((ix a0 a1.toNat).Hours))) && (decide (((ix a0 a1.toNat).Hours) ≤ 10000)))) then
        some 2
      else
        (gcall (!((decide (10 < (((ix a0 a1.toNat).Needs).length))) || (decide (6 < (((ix a0 a1.toNat).OneOf).length))))) (slices_ContainsFunc_string n ((ix a0 a1.toNat).OneOf))).bind fun y5 =>
        bif (((decide (10 < (((ix a0 a1.toNat).Needs).length))) || (decide (6 < (((ix a0 a1.toNat).OneOf).length)))) || y5) || (decide (10 < (((ix a0 a1.toNat).Parts).length))) then
          some 8
        else
          (restore_list_known n a0 ((ix a0 a1.toNat).Needs)).bind fun y6 =>
          bif (y6 != (0 : Int)) then
            some y6
          else
            withK (fun (_ : Unit) =>
                (restore_checkCounts n ((ix a0 a1.toNat).Parts) 1000).bind fun y10 =>
                some y10) fun k1 =>
            loopN (restore_list_checkTask_L1 n a0 a1 k1) n 0
def restore_CheckTasks_f1 (n : Nat) (a0 : Str) : Option Unit :=
  some ()
def slices_Grow_string (n : Nat) (a0 : Int) : Option (List Str) :=
  bif decide (a0 < (0 : Int)) then
    none
  else
    withK (fun (v1 : (List Str)) =>
        some v1) fun k1 =>
    chk (inI (0 - 0)) <|
    chk (inI (a0 - (0 - 0))) <|
    bif decide ((0 : Int) < (a0 - (0 - 0))) then
      chk (decide (0 ≤ (a0 - (0 - 0)))) <|
      chk (decide (0 < (a0 - (0 - 0)).toNat)) <|
      chk (room 16 ((a0 - (0 - 0)).toNat)) <|
      chk (decide (0 ≤ ((a0 - (0 - 0)).toNat))) <|
      k1 ([] : List Str)
    else
      k1 ([] : List Str)
def slices_Concat_string_L2 (a0 : List (List Str)) (k2 : ((List Str) → Option (List Str))) (back : Nat × (List Str) → Option (List Str)) : Nat × (List Str) → Option (List Str)
  | (v5, v6) =>
  bif decide (v5 < a0.length) then
    chk (room 16 (v6 ++ (ix a0 v5)).length) <|
    chk (nI (v5 + 1)) <|
    back (v5 + 1, (v6 ++ (ix a0 v5)))
  else
    k2 v6
def slices_Concat_string_L1 (a0 : List (List Str)) (k1 : (Nat → Option (List Str))) (back : Nat × Nat → Option (List Str)) : Nat × Nat → Option (List Str)
  | (v1, v2) =>
  bif decide (v2 < a0.length) then
    chk (nI (v1 + ((ix a0 v2).length))) <|
    bif decide ((v1 + ((ix a0 v2).length)) < 0) then
      none
    else
      chk (nI (v2 + 1)) <|
      back (v1 + ((ix a0 v2).length), v2 + 1)
  else
    k1 v1
def slices_Concat_string (n : Nat) (a0 : List (List Str)) : Option (List Str) :=
  withK (fun (v3 : Nat) =>
      (slices_Grow_string n ((v3 : Nat) : Int)).bind fun y4 =>
      withK (fun (v7 : (List Str)) =>
          some v7) fun k2 =>
      loopN (slices_Concat_string_L2 a0 k2) n (0, y4)) fun k1 =>
  loopN (slices_Concat_string_L1 a0 k1) n (0, 0)
def restore_leads (n : Nat) (a0 : Task) : Option (List Str) :=
  chk (room 24 (([a0.Needs] : List (List Str)) ++ a0.OneOf).length) <|
  (slices_Concat_string n (([a0.Needs] : List (List Str)) ++ a0.OneOf)).bind fun y1 =>
  some y1
def slices_Index_string_2_L1 (a0 : List Str) (a1 : Str) (k1 : (Unit → Option Int)) (back : Nat → Option Int) : Nat → Option Int
  | v1 =>
  bif decide (v1 < a0.length) then
    bif (a1 == (ix a0 v1)) then
      some ((v1 : Nat) : Int)
    else
      chk (nI (v1 + 1)) <|
      back (v1 + 1)
  else
    k1 ()
def slices_Index_string_2 (n : Nat) (a0 : List Str) (a1 : Str) : Option Int :=
  withK (fun (_ : Unit) =>
      some (-1)) fun k1 =>
  loopN (slices_Index_string_2_L1 a0 a1 k1) n 0
def slices_Contains_string_2 (n : Nat) (a0 : List Str) (a1 : Str) : Option Bool :=
  (slices_Index_string_2 n a0 a1).bind fun y1 =>
  some (decide ((0 : Int) ≤ y1))
def restore_list_order_f1_2 (n : Nat) (a0 : Str) (a1 : List Str) : Option Bool :=
  (restore_CheckTasks_f1 n a0).bind fun y1 =>
  (gcall true (slices_Contains_string_2 n a1 a0)).bind fun y2 =>
  some (true && (!y2))
def slices_IndexFunc_string_3_L1 (n : Nat) (a0 : List Str) (a1 : List Str) (k1 : (Unit → Option Int)) (back : Nat → Option Int) : Nat → Option Int
  | v2 =>
  bif decide (v2 < a0.length) then
    (restore_list_order_f1_2 n (ix a0 v2) a1).bind fun y3 =>
    bif y3 then
      some ((v2 : Nat) : Int)
    else
      chk (nI (v2 + 1)) <|
      back (v2 + 1)
  else
    k1 ()
def slices_IndexFunc_string_3 (n : Nat) (a0 : List Str) (a1 : List Str) : Option Int :=
  withK (fun (_ : Unit) =>
      some (-1)) fun k1 =>
  loopN (slices_IndexFunc_string_3_L1 n a0 a1 k1) n 0
def slices_ContainsFunc_string_3 (n : Nat) (a0 : List Str) (a1 : List Str) : Option Bool :=
  (slices_IndexFunc_string_3 n a0 a1).bind fun y1 =>
  some (decide ((0 : Int) ≤ y1))
def restore_list_order_f2_2 (n : Nat) (a0 : Task) (a1 : List Str) : Option Bool :=
  (restore_list_order_f1_2 n a0.Name a1).bind fun y1 =>
  (gcall y1 (restore_leads n a0)).bind fun y2 =>
  (gcall y1 (slices_ContainsFunc_string_3 n y2 a1)).bind fun y3 =>
  some (y1 && (!y3))
def slices_IndexFunc_Task_3_L1 (n : Nat) (a0 : List Task) (a1 : List Str) (k1 : (Unit → Option Int)) (back : Nat → Option Int) : Nat → Option Int
  | v2 =>
  bif decide (v2 < a0.length) then
    (restore_list_order_f2_2 n (ix a0 v2) a1).bind fun y3 =>
    bif y3 then
      some ((v2 : Nat) : Int)
    else
      chk (nI (v2 + 1)) <|
      back (v2 + 1)
  else
    k1 ()
def slices_IndexFunc_Task_3 (n : Nat) (a0 : List Task) (a1 : List Str) : Option Int :=
  withK (fun (_ : Unit) =>
      some (-1)) fun k1 =>
  loopN (slices_IndexFunc_Task_3_L1 n a0 a1 k1) n 0
def restore_list_order_L1 (n : Nat) (a0 : List Task) (back : (List Str) → Option (List Str)) : (List Str) → Option (List Str)
  | v2 =>
  (slices_IndexFunc_Task_3 n a0 v2).bind fun y3 =>
  bif decide (y3 < (0 : Int)) then
    some v2
  else
    chk (inB y3 a0.length) <|
    chk (decide (y3.toNat < a0.length)) <|
    chk (room 16 (v2 ++ ([(ix a0 y3.toNat).Name] : List Str)).length) <|
    back (v2 ++ ([(ix a0 y3.toNat).Name] : List Str))
def restore_list_order (n : Nat) (a0 : List Task) : Option (List Str) :=
  loopN (restore_list_order_L1 n a0) n ([] : List Str)
def restore_CheckTasks_L1 (n : Nat) (a0 : List Task) (k1 : (Unit → Option Int)) (back : Nat → Option Int) : Nat → Option Int
  | v2 =>
  bif decide (v2 < a0.length) then
    (restore_list_checkTask n a0 ((v2 : Nat) : Int)).bind fun y3 =>
    bif (y3 != (0 : Int)) then
      some y3
    else
      chk (nI (v2 + 1)) <|
      back (v2 + 1)
  else
    k1 ()
def restore_CheckTasks (n : Nat) (a0 : List Task) : Option Int :=
  bif decide (60 < a0.length) then
    some 8
  else
    withK (fun (_ : Unit) =>
        (restore_list_order n a0).bind fun y4 =>
        bif decide (y4.length < a0.length) then
          some 21
        else
          some 0) fun k1 =>
    loopN (restore_CheckTasks_L1 n a0 k1) n 0
def agraffebase_isLetter (n : Nat) (a0 : Int) : Option Unit :=
  some ()
def agraffebase_isDigit (n : Nat) (a0 : Int) : Option Unit :=
  some ()
def agraffebase_IsName_L1 (n : Nat) (a0 : Str) (k1 : (Unit → Option Bool)) (back : Nat → Option Bool) : Nat → Option Bool
  | v4 =>
  bif decide (v4 < a0.length) then
    (agraffebase_isLetter n (((List.getD a0 v4 0).toNat : Nat) : Int)).bind fun y5 =>
    (gcall (!(((decide ((97 : Int) ≤ (((List.getD a0 v4 0).toNat : Nat) : Int))) && (decide ((((List.getD a0 v4 0).toNat : Nat) : Int) ≤ (122 : Int)))) || ((decide ((65 : Int) ≤ (((List.getD a0 v4 0).toNat : Nat) : Int))) && (decide ((((List.getD a0 v4 0).toNat : Nat) : Int) ≤ (90 : Int)))))) (agraffebase_isDigit n (((List.getD a0 v4 0).toNat : Nat) : Int))).bind fun y6 =>
    bif ((!(((decide ((97 : Int) ≤ (((List.getD a0 v4 0).toNat : Nat) : Int))) && (decide ((((List.getD a0 v4 0).toNat : Nat) : Int) ≤ (122 : Int)))) || ((decide ((65 : Int) ≤ (((List.getD a0 v4 0).toNat : Nat) : Int))) && (decide ((((List.getD a0 v4 0).toNat : Nat) : Int) ≤ (90 : Int)))))) && (!((decide ((48 : Int) ≤ (((List.getD a0 v4 0).toNat : Nat) : Int))) && (decide ((((List.getD a0 v4 0).toNat : Nat) : Int) ≤ (57 : Int)))))) && ((((List.getD a0 v4 0).toNat : Nat) : Int) != (45 : Int)) then
      some false
    else
      chk (nI (v4 + 1)) <|
      back (v4 + 1)
  else
    k1 ()
def agraffebase_IsName (n : Nat) (a0 : Str) : Option Bool :=
  chk (!(!((decide (a0.length = 0)) || (decide (12 < a0.length)))) || decide (0 < a0.length)) <|
  (gcall (!((decide (a0.length = 0)) || (decide (12 < a0.length)))) (agraffebase_isLetter n (((List.getD a0 0 0).toNat : Nat) : Int))).bind fun y1 =>
  bif ((decide (a0.length = 0)) || (decide (12 < a0.length))) || (!(((decide ((97 : Int) ≤ (((List.getD a0 0 0).toNat : Nat) : Int))) && (decide ((((List.getD a0 0 0).toNat : Nat) : Int) ≤ (122 : Int)))) || ((decide ((65 : Int) ≤ (((List.getD a0 0 0).toNat : Nat) : Int))) && (decide ((((List.getD a0 0 0).toNat : Nat) : Int) ≤ (90 : Int)))))) then
    some false
  else
    withK (fun (_ : Unit) =>
        some true) fun k1 =>
    loopN (agraffebase_IsName_L1 n a0 k1) n 0
def agrafferef08_Find_L1 (a0 : List Task) (a1 : Str) (k1 : (Unit → Option Int)) (back : Nat → Option Int) : Nat → Option Int
  | v1 =>
  bif decide (v1 < a0.length) then
    bif (((ix a0 v1).Name) == a1) then
      some ((v1 : Nat) : Int)
    else
      chk (nI (v1 + 1)) <|
      back (v1 + 1)
  else
    k1 ()
def agrafferef08_Find (n : Nat) (a0 : List Task) (a1 : Str) : Option Int :=
  withK (fun (_ : Unit) =>
      some (-1)) fun k1 =>
  loopN (agrafferef08_Find_L1 a0 a1 k1) n 0
def agraffebase_Within (n : Nat) (a0 : Int) (a1 : Int) (a2 : Int) : Option Unit :=
  some ()
def agraffebase_HasText_L1 (a0 : List Str) (a1 : Str) (k1 : (Unit → Option Bool)) (back : Nat → Option Bool) : Nat → Option Bool
  | v1 =>
  bif decide (v1 < a0.length) then
    bif ((ix a0 v1) == a1) then
      some true
    else
      chk (nI (v1 + 1)) <|
      back (v1 + 1)
  else
    k1 ()
def agraffebase_HasText (n : Nat) (a0 : List Str) (a1 : Str) : Option Bool :=
  withK (fun (_ : Unit) =>
      some false) fun k1 =>
  loopN (agraffebase_HasText_L1 a0 a1 k1) n 0
def agrafferef08_tasks_L1 (n : Nat) (a0 : List Task) (a1 : List Str) (k1 : (Unit → Option Int)) (back : Nat → Option Int) : Nat → Option Int
  | v3 =>
  bif decide (v3 < a1.length) then
    (agrafferef08_Find n a0 (ix a1 v3)).bind fun y4 =>
    bif decide (y4 < (0 : Int)) then
      some 6
    else
      chk (decide (v3 ≤ a1.length)) <|
      (agraffebase_HasText n (List.take v3 a1) (ix a1 v3)).bind fun y5 =>
      bif y5 then
        some 5
      else
        chk (nI (v3 + 1)) <|
        back (v3 + 1)
  else
    k1 ()
def agrafferef08_tasks (n : Nat) (a0 : List Task) (a1 : List Str) : Option Int :=
  withK (fun (_ : Unit) =>
      some 0) fun k1 =>
  loopN (agrafferef08_tasks_L1 n a0 a1 k1) n 0
def agrafferef08_FindPart_L1 (a0 : List PartCount) (a1 : Str) (k1 : (Unit → Option Int)) (back : Nat → Option Int) : Nat → Option Int
  | v1 =>
  bif decide (v1 < a0.length) then
    bif (((ix a0 v1).Part) == a1) then
      some ((v1 : Nat) : Int)
    else
      chk (nI (v1 + 1)) <|
      back (v1 + 1)
  else
    k1 ()
def agrafferef08_FindPart (n : Nat) (a0 : List PartCount) (a1 : Str) : Option Int :=
  withK (fun (_ : Unit) =>
      some (-1)) fun k1 =>
  loopN (agrafferef08_FindPart_L1 a0 a1 k1) n 0
def agrafferef08_counts_L1 (n : Nat) (a0 : List PartCount) (a1 : Int) (k1 : (Unit → Option Int)) (back : Nat → Option Int) : Nat → Option Int
  | v4 =>
  bif decide (v4 < a0.length) then
    (agraffebase_IsName n ((ix a0 v4).Part)).bind fun y5 =>
    bif !y5 then
      some 4
    else
      chk (decide (v4 ≤ a0.length)) <|
      (agrafferef08_FindPart n (List.take v4 a0) ((ix a0 v4).Part)).bind fun y6 =>
      bif decide ((0 : Int) ≤ y6) then
        some 5
      else
        (agraffebase_Within n ((ix a0 v4).Count) 1 a1).bind fun y7 =>
        bif !((decide (1 ≤ ((ix a0 v4).Count))) && (decide (((ix a0 v4).Count) ≤ a1))) then
          some 2
        else
          chk (nI (v4 + 1)) <|
          back (v4 + 1)
  else
    k1 ()
def agrafferef08_counts (n : Nat) (a0 : List PartCount) (a1 : Int) : Option Int :=
  withK (fun (_ : Unit) =>
      some 0) fun k1 =>
  loopN (agrafferef08_counts_L1 n a0 a1 k1) n 0
def agrafferef08_task_L2 (n : Nat) (a0 : List Task) (a1 : Int) (k2 : (Unit → Option Int)) (back : Nat → Option Int) : Nat → Option Int
  | v10 =>
  bif decide (v10 < (((ix a0 a1.toNat).OneOf).length)) then
    chk (decide (v10 < ((ix a0 a1.toNat).OneOf).length)) <|
    bif decide (((ix ((ix a0 a1.toNat).OneOf) v10).length) = 0) then
      some 10
    else
      (agrafferef08_tasks n a0 (ix ((ix a0 a1.toNat).OneOf) v10)).bind fun y11 =>
      bif (y11 != (0 : Int)) then
        some y11
      else
        chk (nI (v10 + 1)) <|
        back (v10 + 1)
  else
    k2 ()
def agrafferef08_task_L1 (a0 : List Task) (a1 : Int) (k1 : (Bool → Option Int)) (back : Bool × Nat → Option Int) : Bool × Nat → Option Int
  | (v5, v6) =>
  bif decide (v6 < (((ix a0 a1.toNat).OneOf).length)) then
    chk (!(!v5) || decide (v6 < ((ix a0 a1.toNat).OneOf).length)) <|
    chk (!(!v5) || decide (v6 < ((ix a0 a1.toNat).OneOf).length)) <|
    chk (nI (v6 + 1)) <|
    back (v5 || (decide (6 < ((ix ((ix a0 a1.toNat).OneOf) v6).length))), v6 + 1)
  else
    k1 v5
def agrafferef08_task (n : Nat) (a0 : List Task) (a1 : Int) : Option Int :=
  chk (inB a1 a0.length) <|
  chk (decide (a1.toNat < a0.length)) <|
  (agraffebase_IsName n ((ix a0 a1.toNat).Name)).bind fun y1 =>
  bif !y1 then
    some 4
  else
    chk (inC a1 a0.length) <|
    (agrafferef08_Find n (List.take a1.toNat a0) ((ix a0 a1.toNat).Name)).bind fun y2 =>
    bif decide ((0 : Int) ≤ y2) then
      some 5
    else
      (agraffebase_Within n ((ix a0 a1.toNat).Cents) 0 1000000000).bind fun y3 =>
      (gcall (!(!((decide (0 ≤ ((ix a0 a1.toNat).Cents))) && (decide (((ix a0 a1.toNat).Cents) ≤ 1000000000))))) (agraffebase_Within n ((ix a0 a1.toNat).Hours) 0 10000)).bind fun y4 =>
      bif (!((decide (0 ≤ ((ix a0 a1.toNat).Cents))) && (decide (((ix a0 a1.toNat).Cents) ≤ 1000000000)))) || (!((decide (0 ≤ ((ix a0 a1.toNat).Hours))) && (decide (((ix a0 a1.toNat).Hours) ≤ 10000)))) then
        some 2
      else
        withK (fun (v7 : Bool) =>
            bif v7 then
              some 8
            else
              (agrafferef08_tasks n a0 ((ix a0 a1.toNat).Needs)).bind fun y8 =>
              bif (y8 != (0 : Int)) then
                some y8
              else
                withK (fun (_ : Unit) =>
                    (agrafferef08_counts n ((ix a0 a1.toNat).Parts) 1000).bind fun y12 =>
                    some y12) fun k2 =>
                loopN (agrafferef08_task_L2 n a0 a1 k2) n 0) fun k1 =>
        loopN (agrafferef08_task_L1 a0 a1 k1) n (((decide (10 < (((ix a0 a1.toNat).Needs).length))) || (decide (6 < (((ix a0 a1.toNat).OneOf).length)))) || (decide (10 < (((ix a0 a1.toNat).Parts).length))), 0)
def agrafferef08_Leads_L1 (a0 : Task) (k1 : ((List Str) → Option (List Str))) (back : Nat × (List Str) → Option (List Str)) : Nat × (List Str) → Option (List Str)
  | (v2, v3) =>
  bif decide (v2 < a0.OneOf.length) then
    chk (room 16 (v3 ++ (ix a0.OneOf v2)).length) <|
    chk (nI (v2 + 1)) <|
    back (v2 + 1, (v3 ++ (ix a0.OneOf v2)))
  else
    k1 v3
def agrafferef08_Leads (n : Nat) (a0 : Task) : Option (List Str) :=
  (agraffebase_CopyTexts_2 n a0.Needs).bind fun y1 =>
  withK (fun (v4 : (List Str)) =>
      some v4) fun k1 =>
  loopN (agrafferef08_Leads_L1 a0 k1) n (0, a0.Needs)
def agraffebase_HasText_2_L1 (a0 : List Str) (a1 : Str) (k1 : (Unit → Option Bool)) (back : Nat → Option Bool) : Nat → Option Bool
  | v1 =>
  bif decide (v1 < a0.length) then
    bif ((ix a0 v1) == a1) then
      some true
    else
      chk (nI (v1 + 1)) <|
      back (v1 + 1)
  else
    k1 ()
def agraffebase_HasText_2 (n : Nat) (a0 : List Str) (a1 : Str) : Option Bool :=
  withK (fun (_ : Unit) =>
      some false) fun k1 =>
  loopN (agraffebase_HasText_2_L1 a0 a1 k1) n 0
def agrafferef08_Order_L1 (n : Nat) (a1 : List Str) (v26 : List Str) (y42 : (List Str)) (k1 : (Bool → Option (List Str))) (back : Bool × Nat → Option (List Str)) : Bool × Nat → Option (List Str)
  | (v45, v46) =>
  bif decide (v46 < y42.length) then
    (gcall v45 (agraffebase_HasText n a1 (ix y42 v46))).bind fun y47 =>
    (gcall (v45 && !(!y47)) (agraffebase_HasText_2 n v26 (ix y42 v46))).bind fun y48 =>
    chk (nI (v46 + 1)) <|
    back (v45 && ((!y47) || y48), v46 + 1)
  else
    k1 v45
def agrafferef08_Order_L2 (n : Nat) (a0 : List Task) (a1 : List Str) (v26 : List Str) (k3 : (Int → Option (List Str))) (back : Int × Nat → Option (List Str)) : Int × Nat → Option (List Str)
  | (v38, v39) =>
  bif (decide (v39 < a0.length)) && (decide (v38 < (0 : Int))) then
    withK (fun (v50 : Int) =>
        chk (nI (v39 + 1)) <|
        back (v50, v39 + 1)) fun k2 =>
    chk (decide (v39 < a0.length)) <|
    (agraffebase_HasText n a1 ((ix a0 v39).Name)).bind fun y40 =>
    (gcall (!(!y40)) (agraffebase_HasText_2 n v26 ((ix a0 v39).Name))).bind fun y41 =>
    bif (!y40) || y41 then
      k2 v38
    else
      (agrafferef08_Leads n (ix a0 v39)).bind fun y42 =>
      withK (fun (v49 : Bool) =>
          bif v49 then
            k2 ((v39 : Nat) : Int)
          else
            k2 v38) fun k1 =>
      loopN (agrafferef08_Order_L1 n a1 v26 y42 k1) n (true, 0)
  else
    k3 v38
def agrafferef08_Order_L3 (n : Nat) (a0 : List Task) (a1 : List Str) (back : (List Str) → Option (List Str)) : (List Str) → Option (List Str)
  | v26 =>
  withK (fun (v51 : Int) =>
      bif decide (v51 < (0 : Int)) then
        some v26
      else
        chk (inB v51 a0.length) <|
        chk (decide (v51.toNat < a0.length)) <|
        chk (room 16 (v26 ++ ([(ix a0 v51.toNat).Name] : List Str)).length) <|
        back (v26 ++ ([(ix a0 v51.toNat).Name] : List Str))) fun k3 =>
  loopN (agrafferef08_Order_L2 n a0 a1 v26 k3) n ((-1), 0)
def agrafferef08_Order (n : Nat) (a0 : List Task) (a1 : List Str) : Option (List Str) :=
  loopN (agrafferef08_Order_L3 n a0 a1) n ([] : List Str)
def agrafferef08_CheckTasks_L2 (a0 : List Task) (k2 : ((List Str) → Option Int)) (back : (List Str) × Nat → Option Int) : (List Str) × Nat → Option Int
  | (v4, v5) =>
  bif decide (v5 < a0.length) then
    chk (room 16 (v4 ++ ([(ix a0 v5).Name] : List Str)).length) <|
    chk (nI (v5 + 1)) <|
    back ((v4 ++ ([(ix a0 v5).Name] : List Str)), v5 + 1)
  else
    k2 v4
def agrafferef08_CheckTasks_L1 (n : Nat) (a0 : List Task) (k1 : (Unit → Option Int)) (back : Nat → Option Int) : Nat → Option Int
  | v2 =>
  bif decide (v2 < a0.length) then
    (agrafferef08_task n a0 ((v2 : Nat) : Int)).bind fun y3 =>
    bif (y3 != (0 : Int)) then
      some y3
    else
      chk (nI (v2 + 1)) <|
      back (v2 + 1)
  else
    k1 ()
def agrafferef08_CheckTasks (n : Nat) (a0 : List Task) : Option Int :=
  bif decide (60 < a0.length) then
    some 8
  else
    withK (fun (_ : Unit) =>
        withK (fun (v6 : (List Str)) =>
            (agrafferef08_Order n a0 v6).bind fun y7 =>
            bif decide (y7.length < a0.length) then
              some 21
            else
              some 0) fun k2 =>
        loopN (agrafferef08_CheckTasks_L2 a0 k2) n (([] : List Str), 0)) fun k1 =>
    loopN (agrafferef08_CheckTasks_L1 n a0 k1) n 0
def restore_list_checkSet_L2 (a1 : List Str) (k2 : (Unit → Option Int)) (back : Nat → Option Int) : Nat → Option Int
  | v4 =>
  bif decide (v4 < a1.length) then
    chk (inI (((v4 : Nat) : Int) - 1)) <|
    chk (inB (((v4 : Nat) : Int) - 1) a1.length) <|
    chk (decide ((((v4 : Nat) : Int) - 1).toNat < a1.length)) <|
    bif (bLt (ix a1 v4) (ix a1 ((((v4 : Nat) : Int) - 1).toNat)) || ((ix a1 v4) == (ix a1 ((((v4 : Nat) : Int) - 1).toNat)))) then
      some 9
    else
      chk (nI (v4 + 1)) <|
      back (v4 + 1)
  else
    k2 ()
def restore_list_checkSet_L1 (n : Nat) (a0 : List Task) (a1 : List Str) (k1 : (Unit → Option Int)) (back : Nat → Option Int) : Nat → Option Int
  | v2 =>
  bif decide (v2 < a1.length) then
    (restore_list_find n a0 (ix a1 v2)).bind fun y3 =>
    bif decide (y3 < (0 : Int)) then
      some 6
    else
      chk (nI (v2 + 1)) <|
      back (v2 + 1)
  else
    k1 ()
def restore_list_checkSet (n : Nat) (a0 : List Task) (a1 : List Str) : Option Int :=
  withK (fun (_ : Unit) =>
      withK (fun (_ : Unit) =>
          some 0) fun k2 =>
      loopN (restore_list_checkSet_L2 a1 k2) n 1) fun k1 =>
  loopN (restore_list_checkSet_L1 n a0 a1 k1) n 0
def restore_checkSets_L1 (n : Nat) (a0 : List Task) (a1 : List (List Str)) (k1 : (Unit → Option Int)) (back : Nat → Option Int) : Nat → Option Int
  | v3 =>
  bif decide (v3 < a1.length) then
    (restore_list_checkSet n a0 (ix a1 v3)).bind fun y4 =>
    bif (y4 != (0 : Int)) then
      some y4
    else
      chk (nI (v3 + 1)) <|
      back (v3 + 1)
  else
    k1 ()
def restore_checkSets (n : Nat) (a0 : List Task) (a1 : List (List Str)) : Option Int :=
  (restore_CheckTasks n a0).bind fun y1 =>
  bif (y1 != (0 : Int)) then
    some y1
  else
    withK (fun (_ : Unit) =>
        some 0) fun k1 =>
    loopN (restore_checkSets_L1 n a0 a1 k1) n 0
def restore_in (n : Nat) (a0 : List Str) : Option Unit :=
  some ()
def restore_in_f1 (n : Nat) (a0 : Str) (a1 : List Str) : Option Bool :=
  (slices_Contains_string n a1 a0).bind fun y1 =>
  some y1
def restore_CheckClosure_f1 (n : Nat) (a0 : Str) (a1 : List Str) : Option Bool :=
  (restore_in_f1 n a0 a1).bind fun y1 =>
  some (!y1)
def slices_IndexFunc_string_4_L1 (n : Nat) (a0 : List Str) (a1 : List Str) (k1 : (Unit → Option Int)) (back : Nat → Option Int) : Nat → Option Int
  | v2 =>
  bif decide (v2 < a0.length) then
    (restore_CheckClosure_f1 n (ix a0 v2) a1).bind fun y3 =>
    bif y3 then
      some ((v2 : Nat) : Int)
    else
      chk (nI (v2 + 1)) <|
      back (v2 + 1)
  else
    k1 ()
def slices_IndexFunc_string_4 (n : Nat) (a0 : List Str) (a1 : List Str) : Option Int :=
  withK (fun (_ : Unit) =>
      some (-1)) fun k1 =>
  loopN (slices_IndexFunc_string_4_L1 n a0 a1 k1) n 0
def slices_ContainsFunc_string_4 (n : Nat) (a0 : List Str) (a1 : List Str) : Option Bool :=
  (slices_IndexFunc_string_4 n a0 a1).bind fun y1 =>
  some (decide ((0 : Int) ≤ y1))
def slices_IndexFunc_string_6_L1 (n : Nat) (a0 : List Str) (a1 : List Str) (k1 : (Unit → Option Int)) (back : Nat → Option Int) : Nat → Option Int
  | v2 =>
  bif decide (v2 < a0.length) then
    (restore_in_f1 n (ix a0 v2) a1).bind fun y3 =>
    bif y3 then
      some ((v2 : Nat) : Int)
    else
      chk (nI (v2 + 1)) <|
      back (v2 + 1)
  else
    k1 ()
def slices_IndexFunc_string_6 (n : Nat) (a0 : List Str) (a1 : List Str) : Option Int :=
  withK (fun (_ : Unit) =>
      some (-1)) fun k1 =>
  loopN (slices_IndexFunc_string_6_L1 n a0 a1 k1) n 0
def slices_ContainsFunc_string_6 (n : Nat) (a0 : List Str) (a1 : List Str) : Option Bool :=
  (slices_IndexFunc_string_6 n a0 a1).bind fun y1 =>
  some (decide ((0 : Int) ≤ y1))
def restore_CheckClosure_f2 (n : Nat) (a0 : List Str) (a1 : List Str) : Option Bool :=
  (slices_ContainsFunc_string_6 n a0 a1).bind fun y1 =>
  some (!y1)
def slices_IndexFunc_string_5_L1 (n : Nat) (a0 : List (List Str)) (a1 : List Str) (k1 : (Unit → Option Int)) (back : Nat → Option Int) : Nat → Option Int
  | v2 =>
  bif decide (v2 < a0.length) then
    (restore_CheckClosure_f2 n (ix a0 v2) a1).bind fun y3 =>
    bif y3 then
      some ((v2 : Nat) : Int)
    else
      chk (nI (v2 + 1)) <|
      back (v2 + 1)
  else
    k1 ()
def slices_IndexFunc_string_5 (n : Nat) (a0 : List (List Str)) (a1 : List Str) : Option Int :=
  withK (fun (_ : Unit) =>
      some (-1)) fun k1 =>
  loopN (slices_IndexFunc_string_5_L1 n a0 a1 k1) n 0
def slices_ContainsFunc_string_5 (n : Nat) (a0 : List (List Str)) (a1 : List Str) : Option Bool :=
  (slices_IndexFunc_string_5 n a0 a1).bind fun y1 =>
  some (decide ((0 : Int) ≤ y1))
def restore_CheckClosure_L2 (n : Nat) (a0 : List Task) (a2 : List Str) (k2 : (Unit → Option Int)) (back : Nat → Option Int) : Nat → Option Int
  | v11 =>
  bif decide (v11 < a2.length) then
    (restore_list_find n a0 (ix a2 v11)).bind fun y12 =>
    chk (inB y12 a0.length) <|
    chk (decide (y12.toNat < a0.length)) <|
    (slices_ContainsFunc_string_5 n ((ix a0 y12.toNat).OneOf) a2).bind fun y13 =>
    bif y13 then
      some 12
    else
      chk (nI (v11 + 1)) <|
      back (v11 + 1)
  else
    k2 ()
def restore_CheckClosure_L1 (n : Nat) (a0 : List Task) (a2 : List Str) (k1 : (Unit → Option Int)) (back : Nat → Option Int) : Nat → Option Int
  | v6 =>
  bif decide (v6 < a2.length) then
    (restore_list_find n a0 (ix a2 v6)).bind fun y7 =>
    chk (inB y7 a0.length) <|
    chk (decide (y7.toNat < a0.length)) <|
    (slices_ContainsFunc_string_4 n ((ix a0 y7.toNat).Needs) a2).bind fun y8 =>
    bif y8 then
      some 14
    else
      chk (nI (v6 + 1)) <|
      back (v6 + 1)
  else
    k1 ()
def restore_CheckClosure (n : Nat) (a0 : List Task) (a1 : List Str) (a2 : List Str) : Option Int :=
  (restore_checkSets n a0 ([a1, a2] : List (List Str))).bind fun y1 =>
  bif (y1 != (0 : Int)) then
    some y1
  else
    (restore_in n a2).bind fun y2 =>
    (slices_ContainsFunc_string_4 n a1 a2).bind fun y3 =>
    bif y3 then
      some 14
    else
      withK (fun (_ : Unit) =>
          withK (fun (_ : Unit) =>
              some 0) fun k2 =>
          loopN (restore_CheckClosure_L2 n a0 a2 k2) n 0) fun k1 =>
      loopN (restore_CheckClosure_L1 n a0 a2 k1) n 0
def restore_ByFirst_f1_L2 (a2 : List Task) (self : (Str × (List (Str × Bool)) × (List Task) → Option (List (Str × Bool)))) (y1 : Int) (back : Nat × (List (Str × Bool)) → Option (List (Str × Bool))) : Nat × (List (Str × Bool)) → Option (List (Str × Bool))
  | (v8, v9) =>
  bif decide (v8 < (((ix a2 y1.toNat).OneOf).length)) then
    chk (decide (v8 < ((ix a2 y1.toNat).OneOf).length)) <|
    chk (decide (0 < (ix ((ix a2 y1.toNat).OneOf) v8).length)) <|
    (self ((ix (ix ((ix a2 y1.toNat).OneOf) v8) 0), v9, a2)).bind fun y10 =>
    chk (nI (v8 + 1)) <|
    back (v8 + 1, y10)
  else
    some v9
def restore_ByFirst_f1_L1 (a2 : List Task) (self : (Str × (List (Str × Bool)) × (List Task) → Option (List (Str × Bool)))) (y1 : Int) (k1 : ((List (Str × Bool)) → Option (List (Str × Bool)))) (back : Nat × (List (Str × Bool)) → Option (List (Str × Bool))) : Nat × (List (Str × Bool)) → Option (List (Str × Bool))
  | (v3, v4) =>
  bif decide (v3 < (((ix a2 y1.toNat).Needs).length)) then
    chk (decide (v3 < ((ix a2 y1.toNat).Needs).length)) <|
    (self ((ix ((ix a2 y1.toNat).Needs) v3), v4, a2)).bind fun y5 =>
    chk (nI (v3 + 1)) <|
    back (v3 + 1, y5)
  else
    k1 v4
def restore_ByFirst_f1_F (n : Nat) (self : Str × (List (Str × Bool)) × (List Task) → Option (List (Str × Bool))) : Str × (List (Str × Bool)) × (List Task) → Option (List (Str × Bool))
  | (a0, a1, a2) =>
  bif (Option.getD (List.lookup a0 a1) false) then
    some a1
  else
    (restore_list_find n a2 a0).bind fun y1 =>
    chk (inB y1 a2.length) <|
    chk (decide (y1.toNat < a2.length)) <|
    withK (fun (v6 : (List (Str × Bool))) =>
        loopN (restore_ByFirst_f1_L2 a2 self y1) n (0, v6)) fun k1 =>
    loopN (restore_ByFirst_f1_L1 a2 self y1 k1) n (0, (mPut a0 true a1))
def restore_ByFirst_f1 (n : Nat) (a0 : Str) (a1 : List (Str × Bool)) (a2 : List Task) : Option (List (Str × Bool)) := loopN (restore_ByFirst_f1_F n) n (a0, a1, a2)
def math_bits_Len64 (n : Nat) (a0 : Int) : Option Int :=
  withK (fun (v1, v2) =>
      withK (fun (v3, v4) =>
          withK (fun (v5, v6) =>
              chk (inB (IntKind.u8.wrap v5) (([0, 1, 2, 2, 3, 3, 3, 3, 4, 4, 4, 4, 4, 4, 4, 4, 5, 5, 5, 5, 5, 5, 5, 5, 5, 5, 5, 5, 5, 5, 5, 5, 6, 6, 6, 6, 6, 6, 6, 6, 6, 6, 6, 6, 6, 6, 6, 6, 6, 6, 6, 6, 6, 6, 6, 6, 6, 6, 6, 6, 6, 6, 6, 6, 7, 7, 7, 7, 7, 7, 7, 7, 7, 7, 7, 7, 7, 7, 7, 7, 7, 7, 7, 7, 7, 7, 7, 7, 7, 7, 7, 7, 7, 7, 7, 7, 7, 7, 7, 7, 7, 7, 7, 7, 7, 7, 7, 7, 7, 7, 7, 7, 7, 7, 7, 7, 7, 7, 7, 7, 7, 7, 7, 7, 7, 7, 7, 7, 8, 8, 8, 8, 8, 8, 8, 8, 8, 8, 8, 8, 8, 8, 8, 8, 8, 8, 8, 8, 8, 8, 8, 8, 8, 8, 8, 8, 8, 8, 8, 8, 8, 8, 8, 8, 8, 8, 8, 8, 8, 8, 8, 8, 8, 8, 8, 8, 8, 8, 8, 8, 8, 8, 8, 8, 8, 8, 8, 8, 8, 8, 8, 8, 8, 8, 8, 8, 8, 8, 8, 8, 8, 8, 8, 8, 8, 8, 8, 8, 8, 8, 8, 8, 8, 8, 8, 8, 8, 8, 8, 8, 8, 8, 8, 8, 8, 8, 8, 8, 8, 8, 8, 8, 8, 8, 8, 8, 8, 8, 8, 8, 8, 8, 8, 8, 8, 8, 8, 8, 8, 8, 8, 8, 8, 8, 8, 8] : Str).length)) <|
              chk (inI (v6 + (((List.getD ([0, 1, 2, 2, 3, 3, 3, 3, 4, 4, 4, 4, 4, 4, 4, 4, 5, 5, 5, 5, 5, 5, 5, 5, 5, 5, 5, 5, 5, 5, 5, 5, 6, 6, 6, 6, 6, 6, 6, 6, 6, 6, 6, 6, 6, 6, 6, 6, 6, 6, 6, 6, 6, 6, 6, 6, 6, 6, 6, 6, 6, 6, 6, 6, 7, 7, 7, 7, 7, 7, 7, 7, 7, 7, 7, 7, 7, 7, 7, 7, 7, 7, 7, 7, 7, 7, 7, 7, 7, 7, 7, 7, 7, 7, 7, 7, 7, 7, 7, 7, 7, 7, 7, 7, 7, 7, 7, 7, 7, 7, 7, 7, 7, 7, 7, 7, 7, 7, 7, 7, 7, 7, 7, 7, 7, 7, 7, 7, 8, 8, 8, 8, 8, 8, 8, 8, 8, 8, 8, 8, 8, 8, 8, 8, 8, 8, 8, 8, 8, 8, 8, 8, 8, 8, 8, 8, 8, 8, 8, 8, 8, 8, 8, 8, 8, 8, 8, 8, 8, 8, 8, 8, 8, 8, 8, 8, 8, 8, 8, 8, 8, 8, 8, 8, 8, 8, 8, 8, 8, 8, 8, 8, 8, 8, 8, 8, 8, 8, 8, 8, 8, 8, 8, 8, 8, 8, 8, 8, 8, 8, 8, 8, 8, 8, 8, 8, 8, 8, 8, 8, 8, 8, 8, 8, 8, 8, 8, 8, 8, 8, 8, 8, 8, 8, 8, 8, 8, 8, 8, 8, 8, 8, 8, 8, 8, 8, 8, 8, 8, 8, 8, 8, 8, 8, 8, 8] : Str) ((IntKind.u8.wrap v5).toNat) 0).toNat : Nat) : Int))) <|
              some (v6 + (((List.getD ([0, 1, 2, 2, 3, 3, 3, 3, 4, 4, 4, 4, 4, 4, 4, 4, 5, 5, 5, 5, 5, 5, 5, 5, 5, 5, 5, 5, 5, 5, 5, 5, 6, 6, 6, 6, 6, 6, 6, 6, 6, 6, 6, 6, 6, 6, 6, 6, 6, 6, 6, 6, 6, 6, 6, 6, 6, 6, 6, 6, 6, 6, 6, 6, 7, 7, 7, 7, 7, 7, 7, 7, 7, 7, 7, 7, 7, 7, 7, 7, 7, 7, 7, 7, 7, 7, 7, 7, 7, 7, 7, 7, 7, 7, 7, 7, 7, 7, 7, 7, 7, 7, 7, 7, 7, 7, 7, 7, 7, 7, 7, 7, 7, 7, 7, 7, 7, 7, 7, 7, 7, 7, 7, 7, 7, 7, 7, 7, 8, 8, 8, 8, 8, 8, 8, 8, 8, 8, 8, 8, 8, 8, 8, 8, 8, 8, 8, 8, 8, 8, 8, 8, 8, 8, 8, 8, 8, 8, 8, 8, 8, 8, 8, 8, 8, 8, 8, 8, 8, 8, 8, 8, 8, 8, 8, 8, 8, 8, 8, 8, 8, 8, 8, 8, 8, 8, 8, 8, 8, 8, 8, 8, 8, 8, 8, 8, 8, 8, 8, 8, 8, 8, 8, 8, 8, 8, 8, 8, 8, 8, 8, 8, 8, 8, 8, 8, 8, 8, 8, 8, 8, 8, 8, 8, 8, 8, 8, 8, 8, 8, 8, 8, 8, 8, 8, 8, 8, 8, 8, 8, 8, 8, 8, 8, 8, 8, 8, 8, 8, 8, 8, 8, 8, 8, 8, 8] : Str) ((IntKind.u8.wrap v5).toNat) 0).toNat : Nat) : Int))) fun k3 =>
          bif decide ((256 : Int) ≤ v3) then
            chk (inI (v4 + 8)) <|
            k3 (Int.fdiv v3 (2 ^ (min 8 64)), v4 + 8)
          else
            k3 (v3, v4)) fun k2 =>
      bif decide ((65536 : Int) ≤ v1) then
        chk (inI (v2 + 16)) <|
        k2 (Int.fdiv v1 (2 ^ (min 16 64)), v2 + 16)
      else
        k2 (v1, v2)) fun k1 =>
  bif decide ((4294967296 : Int) ≤ a0) then
    k1 (Int.fdiv a0 (2 ^ (min 32 64)), 32)
  else
    k1 (a0, 0)
def math_bits_Len (n : Nat) (a0 : Int) : Option Int :=
  (math_bits_Len64 n a0).bind fun y1 =>
  some y1
def cmp_isNaN_string (n : Nat) (a0 : Str) : Option Unit :=
  some ()
def cmp_Less_string (n : Nat) (a0 : Str) (a1 : Str) : Option Unit :=
  (cmp_isNaN_string n a0).bind fun y1 =>
  (gcall (!(a0 == a0)) (cmp_isNaN_string n a1)).bind fun y2 =>
  some ()
def slices_insertionSortOrdered_string_L1 (n : Nat) (a1 : Int) (k1 : ((List Str) → Option (List Str))) (back : Int × (List Str) → Option (List Str)) : Int × (List Str) → Option (List Str)
  | (v9, v10) =>
  chk (!(decide (a1 < v9)) || inB v9 v10.length) <|
  chk (!(decide (a1 < v9)) || decide (v9.toNat < v10.length)) <|
  chk (!(decide (a1 < v9)) || inI (v9 - 1)) <|
  chk (!(decide (a1 < v9)) || inB (v9 - 1) v10.length) <|
  chk (!(decide (a1 < v9)) || decide ((v9 - 1).toNat < v10.length)) <|
  (gcall (decide (a1 < v9)) (cmp_Less_string n (ix v10 v9.toNat) (ix v10 ((v9 - 1).toNat)))).bind fun y11 =>
  bif (decide (a1 < v9)) && (((!((ix v10 v9.toNat) == (ix v10 v9.toNat))) && (!(!((ix v10 ((v9 - 1).toNat)) == (ix v10 ((v9 - 1).toNat)))))) || (bLt (ix v10 v9.toNat) (ix v10 ((v9 - 1).toNat)))) then
    chk (inI (v9 - 1)) <|
    chk (inB (v9 - 1) v10.length) <|
    chk (decide ((v9 - 1).toNat < v10.length)) <|
    chk (inB v9 v10.length) <|
    chk (decide (v9.toNat < v10.length)) <|
    chk (decide ((v9 - 1).toNat < (List.set v10 v9.toNat (ix v10 ((v9 - 1).toNat))).length)) <|
    back (v9 - 1, (List.set (List.set v10 v9.toNat (ix v10 ((v9 - 1).toNat))) ((v9 - 1).toNat) (ix v10 v9.toNat)))
  else
    k1 v10
def slices_insertionSortOrdered_string_L2 (n : Nat) (a1 : Int) (a2 : Int) (back : Int × (List Str) → Option (List Str)) : Int × (List Str) → Option (List Str)
  | (v6, v7) =>
  bif decide (v6 < a2) then
    withK (fun (v12 : (List Str)) =>
        chk (inI (v6 + 1)) <|
        back (v6 + 1, v12)) fun k1 =>
    loopN (slices_insertionSortOrdered_string_L1 n a1 k1) n (v6, v7)
  else
    some v7
def slices_insertionSortOrdered_string (n : Nat) (a0 : List Str) (a1 : Int) (a2 : Int) : Option (List Str) :=
  chk (inI (a1 + 1)) <|
  loopN (slices_insertionSortOrdered_string_L2 n a1 a2) n (a1 + 1, a0)
def slices_pdqsortOrdered_string_L1 (n : Nat) (a0 : List Str) (a1 : Int) (a2 : Int) (a3 : Int) (back : Unit → Option (List Str)) : Unit → Option (List Str)
  | _ =>
  chk (inI (a2 - a1)) <|
  bif decide ((a2 - a1) ≤ (12 : Int)) then
    (slices_insertionSortOrdered_string n a0 a1 a2).bind fun y1 =>
    chk (decide (a0.length = y1.length)) <|
    some y1
  else
    bif (a3 == (0 : Int)) then
      none
    else
      none
def slices_pdqsortOrdered_string (n : Nat) (a0 : List Str) (a1 : Int) (a2 : Int) (a3 : Int) : Option (List Str) :=
  loopN (slices_pdqsortOrdered_string_L1 n a0 a1 a2 a3) n ()
def slices_Sort_string (n : Nat) (a0 : List Str) : Option (List Str) :=
  (math_bits_Len n (IntKind.u64.wrap ((a0.length : Nat) : Int))).bind fun y1 =>
  (slices_pdqsortOrdered_string n a0 0 ((a0.length : Nat) : Int) y1).bind fun y2 =>
  chk (decide (a0.length = y2.length)) <|
  some y2
noncomputable def restore_ByFirst_L2 (k2 : ((List Str) → Option (Int × (List Str)))) (back : (List Str) × (Option (Str × Bool)) × (List (Str × Bool)) → Option (Int × (List Str))) : (List Str) × (Option (Str × Bool)) × (List (Str × Bool)) → Option (Int × (List Str))
  | (v9, v10, v11) =>
  bif decide (v11.length = 0) then
    k2 v9
  else
    pickK v11 fun j12 x13 =>
    chk (room 16 (v9 ++ ([x13.1] : List Str)).length) <|
    back ((v9 ++ ([x13.1] : List Str)), (some x13), (List.eraseIdx v11 j12))
def restore_ByFirst_L1 (n : Nat) (a0 : List Task) (a1 : List Str) (k1 : ((List (Str × Bool)) → Option (Int × (List Str)))) (back : Nat × (List (Str × Bool)) → Option (Int × (List Str))) : Nat × (List (Str × Bool)) → Option (Int × (List Str))
  | (v3, v4) =>
  bif decide (v3 < a1.length) then
    (restore_ByFirst_f1 n (ix a1 v3) v4 a0).bind fun y5 =>
    chk (nI (v3 + 1)) <|
    back (v3 + 1, y5)
  else
    k1 v4
noncomputable def restore_ByFirst (n : Nat) (a0 : List Task) (a1 : List Str) : Option (Int × (List Str)) :=
  (restore_checkSets n a0 ([a1] : List (List Str))).bind fun y1 =>
  bif (y1 != (0 : Int)) then
    some (y1, ([] : List Str))
  else
    withK (fun (v6 : (List (Str × Bool))) =>
        withK (fun (v14 : (List Str)) =>
            (slices_Sort_string n v14).bind fun y15 =>
            chk (decide (v14.length = y15.length)) <|
            some (0, y15)) fun k2 =>
        loopN (restore_ByFirst_L2 k2) n (([] : List Str), none, v6)) fun k1 =>
    loopN (restore_ByFirst_L1 n a0 a1 k1) n (0, ([] : List (Str × Bool)))
def agrafferef08_CheckSet_L2 (a1 : List Str) (k2 : (Unit → Option Int)) (back : Nat → Option Int) : Nat → Option Int
  | v4 =>
  bif decide (v4 < a1.length) then
    chk (inI (((v4 : Nat) : Int) - 1)) <|
    chk (inB (((v4 : Nat) : Int) - 1) a1.length) <|
    chk (decide ((((v4 : Nat) : Int) - 1).toNat < a1.length)) <|
    bif !bLt (ix a1 ((((v4 : Nat) : Int) - 1).toNat)) (ix a1 v4) then
      some 9
    else
      chk (nI (v4 + 1)) <|
      back (v4 + 1)
  else
    k2 ()
def agrafferef08_CheckSet_L1 (n : Nat) (a0 : List Task) (a1 : List Str) (k1 : (Unit → Option Int)) (back : Nat → Option Int) : Nat → Option Int
  | v2 =>
  bif decide (v2 < a1.length) then
    (agrafferef08_Find n a0 (ix a1 v2)).bind fun y3 =>
    bif decide (y3 < (0 : Int)) then
      some 6
    else
      chk (nI (v2 + 1)) <|
      back (v2 + 1)
  else
    k1 ()
def agrafferef08_CheckSet (n : Nat) (a0 : List Task) (a1 : List Str) : Option Int :=
  withK (fun (_ : Unit) =>
      withK (fun (_ : Unit) =>
          some 0) fun k2 =>
      loopN (agrafferef08_CheckSet_L2 a1 k2) n 1) fun k1 =>
  loopN (agrafferef08_CheckSet_L1 n a0 a1 k1) n 0
def agrafferef08_Put_L1 (a0 : List Str) (a1 : Str) (k2 : (Bool × (List Str) → Option (List Str))) (back : (List Str) × Bool × Nat → Option (List Str)) : (List Str) × Bool × Nat → Option (List Str)
  | (v3, v4, v5) =>
  bif decide (v5 < a0.length) then
    withK (fun (v6, v7) =>
        chk (room 16 (v6 ++ ([(ix a0 v5)] : List Str)).length) <|
        chk (nI (v5 + 1)) <|
        back ((v6 ++ ([(ix a0 v5)] : List Str)), v7, v5 + 1)) fun k1 =>
    bif (!v4) && (!bLt (ix a0 v5) a1) then
      bif !((ix a0 v5) == a1) then
        chk (room 16 (v3 ++ ([a1] : List Str)).length) <|
        k1 ((v3 ++ ([a1] : List Str)), true)
      else
        k1 (v3, true)
    else
      k1 (v3, v4)
  else
    k2 (v4, v3)
def agrafferef08_Put (n : Nat) (a0 : List Str) (a1 : Str) : Option (List Str) :=
  withK (fun (v8, v9) =>
      withK (fun (v10 : (List Str)) =>
          some v10) fun k3 =>
      bif !v8 then
        chk (room 16 (v9 ++ ([a1] : List Str)).length) <|
        k3 (v9 ++ ([a1] : List Str))
      else
        k3 v9) fun k2 =>
  loopN (agrafferef08_Put_L1 a0 a1 k2) n (([] : List Str), false, 0)
def agrafferef08_ByFirst_L2 (n : Nat) (v68 : List Str) (k3 : ((List Str) × Bool → Option (List Str))) (back : (List Str) × Bool × Nat → Option (List Str)) : (List Str) × Bool × Nat → Option (List Str)
  | (v73, v74, v75) =>
  bif decide (v75 < v68.length) then
    withK (fun (v78, v79) =>
        chk (nI (v75 + 1)) <|
        back (v78, v79, v75 + 1)) fun k2 =>
    (agraffebase_HasText n v73 (ix v68 v75)).bind fun y76 =>
    bif !y76 then
      (agrafferef08_Put n v73 (ix v68 v75)).bind fun y77 =>
      k2 (y77, true)
    else
      k2 (v73, v74)
  else
    k3 (v73, v74)
def agrafferef08_ByFirst_L1 (a0 : List Task) (v63 : Nat) (k1 : ((List Str) → Option (List Str))) (back : Nat × (List Str) → Option (List Str)) : Nat × (List Str) → Option (List Str)
  | (v66, v67) =>
  bif decide (v66 < (((ix a0 v63).OneOf).length)) then
    chk (decide (v66 < ((ix a0 v63).OneOf).length)) <|
    chk (decide (0 < (ix ((ix a0 v63).OneOf) v66).length)) <|
    chk (room 16 (v67 ++ ([(ix (ix ((ix a0 v63).OneOf) v66) 0)] : List Str)).length) <|
    chk (nI (v66 + 1)) <|
    back (v66 + 1, (v67 ++ ([(ix (ix ((ix a0 v63).OneOf) v66) 0)] : List Str)))
  else
    k1 v67
def agrafferef08_ByFirst_L3 (n : Nat) (a0 : List Task) (k4 : ((List Str) × Bool → Option (List Str))) (back : (List Str) × Bool × Nat → Option (List Str)) : (List Str) × Bool × Nat → Option (List Str)
  | (v61, v62, v63) =>
  bif decide (v63 < a0.length) then
    withK (fun (v80, v81) =>
        chk (nI (v63 + 1)) <|
        back (v80, v81, v63 + 1)) fun k3 =>
    (agraffebase_HasText n v61 ((ix a0 v63).Name)).bind fun y64 =>
    bif !y64 then
      k3 (v61, v62)
    else
      (agraffebase_CopyTexts_2 n ((ix a0 v63).Needs)).bind fun y65 =>
      withK (fun (v68 : (List Str)) =>
          loopN (agrafferef08_ByFirst_L2 n v68 k3) n (v61, v62, 0)) fun k1 =>
      loopN (agrafferef08_ByFirst_L1 a0 v63 k1) n (0, ((ix a0 v63).Needs))
  else
    k4 (v61, v62)
def agrafferef08_ByFirst_L4 (n : Nat) (a0 : List Task) (k5 : ((List Str) → Option (List Str))) (k4 : (List Str) × Bool → Option (List Str)) : (List Str) × Bool → Option (List Str)
  | (v41, v42) =>
  bif v42 then
    loopN (agrafferef08_ByFirst_L3 n a0 k4) n (v41, false, 0)
  else
    k5 v41
def agrafferef08_ByFirst (n : Nat) (a0 : List Task) (a1 : List Str) : Option (List Str) :=
  (agraffebase_CopyTexts_2 n a1).bind fun y1 =>
  withK (fun (v82 : (List Str)) =>
      some v82) fun k5 =>
  loopN (agrafferef08_ByFirst_L4 n a0 k5) n (a1, true)
def agraffebase_Texts_L1 (a0 : List Str) (a1 : List Str) (k1 : (Unit → Option Bool)) (back : Nat → Option Bool) : Nat → Option Bool
  | v1 =>
  bif decide (v1 < a0.length) then
    chk (decide (v1 < a1.length)) <|
    bif !((ix a0 v1) == (ix a1 v1)) then
      some false
    else
      chk (nI (v1 + 1)) <|
      back (v1 + 1)
  else
    k1 ()
def agraffebase_Texts (n : Nat) (a0 : List Str) (a1 : List Str) : Option Bool :=
  bif !decide (a0.length = a1.length) then
    some false
  else
    withK (fun (_ : Unit) =>
        some true) fun k1 =>
    loopN (agraffebase_Texts_L1 a0 a1 k1) n 0
def agrafferef08_all_L1 (n : Nat) (a0 : List Str) (a1 : List Str) (k1 : (Unit → Option Bool)) (back : Nat → Option Bool) : Nat → Option Bool
  | v2 =>
  bif decide (v2 < a0.length) then
    (agraffebase_HasText n a1 (ix a0 v2)).bind fun y3 =>
    bif !y3 then
      some false
    else
      chk (nI (v2 + 1)) <|
      back (v2 + 1)
  else
    k1 ()
def agrafferef08_all (n : Nat) (a0 : List Str) (a1 : List Str) : Option Bool :=
  withK (fun (_ : Unit) =>
      some true) fun k1 =>
  loopN (agrafferef08_all_L1 n a0 a1 k1) n 0
def agrafferef08_some_L1 (n : Nat) (a0 : List Str) (a1 : List Str) (k1 : (Unit → Option Bool)) (back : Nat → Option Bool) : Nat → Option Bool
  | v2 =>
  bif decide (v2 < a0.length) then
    (agraffebase_HasText n a1 (ix a0 v2)).bind fun y3 =>
    bif y3 then
      some true
    else
      chk (nI (v2 + 1)) <|
      back (v2 + 1)
  else
    k1 ()
def agrafferef08_some (n : Nat) (a0 : List Str) (a1 : List Str) : Option Bool :=
  withK (fun (_ : Unit) =>
      some false) fun k1 =>
  loopN (agrafferef08_some_L1 n a0 a1 k1) n 0
def agrafferef08_Closure_L2 (n : Nat) (a0 : List Task) (a2 : List Str) (y12 : Int) (k2 : (Unit → Option Int)) (back : Nat → Option Int) : Nat → Option Int
  | v14 =>
  bif decide (v14 < (((ix a0 y12.toNat).OneOf).length)) then
    chk (decide (v14 < ((ix a0 y12.toNat).OneOf).length)) <|
    (agrafferef08_some n (ix ((ix a0 y12.toNat).OneOf) v14) a2).bind fun y15 =>
    bif !y15 then
      some 12
    else
      chk (nI (v14 + 1)) <|
      back (v14 + 1)
  else
    k2 ()
def agrafferef08_Closure_L3 (n : Nat) (a0 : List Task) (a2 : List Str) (k3 : (Unit → Option Int)) (back : Nat → Option Int) : Nat → Option Int
  | v11 =>
  bif decide (v11 < a2.length) then
    withK (fun (_ : Unit) =>
        chk (nI (v11 + 1)) <|
        back (v11 + 1)) fun k2 =>
    (agrafferef08_Find n a0 (ix a2 v11)).bind fun y12 =>
    chk (inB y12 a0.length) <|
    chk (decide (y12.toNat < a0.length)) <|
    loopN (agrafferef08_Closure_L2 n a0 a2 y12 k2) n 0
  else
    k3 ()
def agrafferef08_Closure_L1 (n : Nat) (a0 : List Task) (a2 : List Str) (k1 : (Unit → Option Int)) (back : Nat → Option Int) : Nat → Option Int
  | v4 =>
  bif decide (v4 < a2.length) then
    (agrafferef08_Find n a0 (ix a2 v4)).bind fun y5 =>
    chk (inB y5 a0.length) <|
    chk (decide (y5.toNat < a0.length)) <|
    (agrafferef08_all n ((ix a0 y5.toNat).Needs) a2).bind fun y6 =>
    bif !y6 then
      some 14
    else
      chk (nI (v4 + 1)) <|
      back (v4 + 1)
  else
    k1 ()
def agrafferef08_Closure (n : Nat) (a0 : List Task) (a1 : List Str) (a2 : List Str) : Option Int :=
  (agrafferef08_all n a1 a2).bind fun y1 =>
  bif !y1 then
    some 14
  else
    withK (fun (_ : Unit) =>
        withK (fun (_ : Unit) =>
            some 0) fun k3 =>
        loopN (agrafferef08_Closure_L3 n a0 a2 k3) n 0) fun k1 =>
    loopN (agrafferef08_Closure_L1 n a0 a2 k1) n 0
noncomputable def agraffelaw08_RestoreClosures (n : Nat) (a0 : List Task) (a1 : List Str) (a2 : List Str) : Option Bool :=
  (agraffelaw08_awake n).bind fun y1 =>
  bif !y1 then
    some false
  else
    (agraffelaw08_Few n a0).bind fun y2 =>
    (gcall (!(!y2)) (agraffelaw08_texts n a1 12)).bind fun y3 =>
    (gcall (!((!y2) || (!y3))) (agraffelaw08_texts n a2 12)).bind fun y4 =>
    bif ((!y2) || (!y3)) || (!y4) then
      some true
    else
      (agraffelaw08_Copied n a0).bind fun y5 =>
      (agraffebase_CopyTexts_2 n a1).bind fun y6 =>
      (agraffebase_CopyTexts_2 n a2).bind fun y7 =>
      (restore_CheckClosure n y5 a1 a2).bind fun y8 =>
      (agraffelaw08_Copied n a0).bind fun y9 =>
      (agraffebase_CopyTexts_2 n a1).bind fun y10 =>
      (restore_ByFirst n y9 a1).bind fun y11 =>
      (agrafferef08_CheckTasks n a0).bind fun y12 =>
      withK (fun (v14 : Int) =>
          bif (v14 != (0 : Int)) then
            some (((y8 == v14) && (y11.1 == v14)) && (decide (y11.2.length = 0)))
          else
            withK (fun (v20 : Bool) =>
                bif v20 then
                  some false
                else
                  withK (fun (v23 : Int) =>
                      some (y8 == v23)) fun k3 =>
                  (agrafferef08_CheckSet n a0 a2).bind fun y21 =>
                  bif (y21 == (0 : Int)) then
                    (agrafferef08_Closure n a0 a1 a2).bind fun y22 =>
                    k3 y22
                  else
                    k3 y21) fun k2 =>
            (gcall (!(y11.1 != (0 : Int))) (agrafferef08_ByFirst n a0 a1)).bind fun y15 =>
            (gcall (!(y11.1 != (0 : Int))) (agraffebase_Texts n y11.2 y15)).bind fun y16 =>
            (gcall (!((y11.1 != (0 : Int)) || (!y16))) (agraffelaw08_Copied n a0)).bind fun y17 =>
            bif !((y11.1 != (0 : Int)) || (!y16)) then
              (agraffebase_CopyTexts_2 n y11.2).bind fun y18 =>
              (restore_CheckClosure n y17 a1 y11.2).bind fun y19 =>
              k2 (((y11.1 != (0 : Int)) || (!y16)) || (y19 != (0 : Int)))
            else
              k2 (((y11.1 != (0 : Int)) || (!y16)) || false)) fun k1 =>
      bif (y12 == (0 : Int)) then
        (agrafferef08_CheckSet n a0 a1).bind fun y13 =>
        k1 y13
      else
        k1 y12
end
section
set_option maxRecDepth 4000
open Go
theorem loopN_s {α β : Type} (F : (α → Option β) → α → Option β) (n : Nat) (t : α) : loopN F (n + 1) t = F (loopN F n) t := rfl
@[simp] theorem chk_t {α : Type} (k : Option α) : chk true k = k := rfl
theorem chk_of {α : Type} {b : Bool} {k : Option α} (h : b = true) : chk b k = k := by subst h; rfl
@[simp] theorem withK_eq {α β : Type} (j : α → Option β) (f : (α → Option β) → Option β) : withK j f = f j := rfl
@[simp] theorem gcall_some_ {α : Type} [Inhabited α] (g : Bool) (x : α) : (gcall g (some x)) = some (bif g then x else default) := by cases g <;> rfl
theorem nI_of {n : Nat} (h : n ≤ 9223372036854775807) : nI n = true := by simp [nI, h]
theorem inI_of {n : Int} (h : -9223372036854775808 ≤ n) (h2 : n ≤ 9223372036854775807) : inI n = true := by simp [inI, h, h2]
theorem room_of {b n : Nat} (h : n * b ≤ 140737488355328) (h2 : n ≤ 9223372036854775807) : room b n = true := by simp [room, h, h2]
theorem inB_of {q : Int} {n : Nat} (h : 0 ≤ q) (h2 : q.toNat < n) : inB q n = true := by simp [inB, h, h2]
theorem inC_of {q : Int} {n : Nat} (h : 0 ≤ q) (h2 : q.toNat ≤ n) : inC q n = true := by simp [inC, h, h2]
theorem drop_ix {α : Type} [Inhabited α] {l : List α} {v : Nat} (h : v < l.length) : l.drop v = ix l v :: l.drop (v + 1) := by
  rw [ix_eq h]; exact List.drop_eq_getElem_cons h
theorem drop_nil {α : Type} {l : List α} {v : Nat} (h : ¬ v < l.length) : l.drop v = [] := List.drop_eq_nil_of_le (by omega)
def isL (c : UInt8) : Bool := (decide ((97 : Int) ≤ ((c.toNat : Nat) : Int)) && decide (((c.toNat : Nat) : Int) ≤ (122 : Int))) || (decide ((65 : Int) ≤ ((c.toNat : Nat) : Int)) && decide (((c.toNat : Nat) : Int) ≤ (90 : Int)))
def isD (c : UInt8) : Bool := decide ((48 : Int) ≤ ((c.toNat : Nat) : Int)) && decide (((c.toNat : Nat) : Int) ≤ (57 : Int))
def okC (c : UInt8) : Bool := isL c || isD c || (((c.toNat : Nat) : Int) == (45 : Int))
def nameB (s : Str) : Bool := match s with
  | [] => false
  | c :: r => isL c && r.all okC && decide (r.length < 12)
end
section
set_option maxRecDepth 4000
open Go
theorem bne_t {x : Int} (h : ¬ x = 0) : (x != 0) = true := by simp [bne, h]
def firstE (E : Nat → Int) : Nat → Nat → Int
  | _, 0 => 0
  | v, m + 1 => bif E v != 0 then E v else firstE E (v + 1) m
theorem firstE_zero {E : Nat → Int} : ∀ {m v : Nat}, firstE E v m = 0 → ∀ j, v ≤ j → j < v + m → E j = 0
  | 0, v, _, j, h1, h2 => by omega
  | m + 1, v, h, j, h1, h2 => by
    unfold firstE at h
    by_cases e : E v = 0
    · simp [e] at h
      by_cases hj : j = v
      · rw [hj]; exact e
      · exact firstE_zero h j (by omega) (by omega)
    · rw [bne_t e, cond_true] at h; exact absurd h e
theorem loop_first {σ R : Type} {F : (σ → Option R) → σ → Option R} {st : Nat → σ} {E : Nat → Int} {err : Int → Option R} {k : Option R} {len : Nat}
    (h1 : ∀ back v, v < len → (∀ j, j < v → E j = 0) → F back (st v) = bif E v != 0 then err (E v) else back (st (v + 1)))
    (h2 : ∀ back, (∀ j, j < len → E j = 0) → F back (st len) = k) : ∀ n v, len - v < n → v ≤ len → (∀ j, j < v → E j = 0) → loopN F n (st v) = bif firstE E v (len - v) != 0 then err (firstE E v (len - v)) else k := by
  intro n
  induction n with
  | zero => intro v h; omega
  | succ n ih =>
    intro v hn hv hz
    rw [loopN_s]
    by_cases h : v < len
    · rw [h1 _ v h hz, show len - v = (len - (v + 1)) + 1 by omega]
      unfold firstE
      by_cases e : E v = 0
      · simp only [e, bne_self_eq_false, cond_false]
        exact ih (v + 1) (by omega) (by omega) fun j hj => by
          by_cases hjv : j = v
          · rw [hjv]; exact e
          · exact hz j (by omega)
      · rw [bne_t e, cond_true, cond_true, bne_t e, cond_true]
    · have : v = len := by omega
      subst this
      rw [h2 _ hz, Nat.sub_self]
      simp [firstE]
theorem loop_through {σ R : Type} {F : (σ → Option R) → σ → Option R} {st : Nat → σ} {k : Option R} {len : Nat} (h1 : ∀ back v, v < len → F back (st v) = back (st (v + 1))) (h2 : ∀ back, F back (st len) = k) : ∀ n, len < n → loopN F n (st 0) = k := by
  intro n hn
  have := loop_first (F := F) (st := st) (E := fun _ => 0) (err := fun _ => none) (k := k) (len := len) (fun back v hv _ => by simp [h1 back v hv]) (fun back _ => h2 back) n 0 (by omega) (by omega) (fun _ _ => rfl)
  rw [this, Nat.sub_zero]
  have : firstE (fun _ => (0 : Int)) 0 len = 0 := by
    have : ∀ m v, firstE (fun _ => (0 : Int)) v m = 0 := by
      intro m
      induction m with
      | zero => intro v; rfl
      | succ m ih => intro v; simp [firstE, ih]
    exact this _ _
  rw [this]; rfl
def findI {α : Type} (p : α → Bool) (l : List α) : Int := match l.findIdx? p with
  | some i => ((i : Nat) : Int)
  | none => -1
theorem findI_pos {α : Type} [Inhabited α] {p : α → Bool} {l : List α} (h : ¬ findI p l < 0) : 0 ≤ findI p l ∧ (findI p l).toNat < l.length ∧ p (ix l (findI p l).toNat) = true ∧ ∀ j, j < (findI p l).toNat → p (ix l j) = false := by
  unfold findI at h ⊢
  split at h
  · rename_i i e
    rw [List.findIdx?_eq_some_iff_getElem] at e
    obtain ⟨hi, hp, hb⟩ := e
    refine ⟨by omega, by simpa using hi, ?_, fun j hj => ?_⟩
    · rw [ix_eq (by simpa using hi)]; simpa using hp
    · have hj : j < i := by simpa using hj
      rw [ix_eq (by omega)]
      simpa using hb j hj
  · omega
end
section
set_option maxRecDepth 4000
open Go
theorem loop_find' {α R : Type} [Inhabited α] {l : List α} {p : α → Bool} {F : (Nat → Option R) → Nat → Option R} {yes : Nat → Option R} {no : Option R}
    (h1 : ∀ back v, v < l.length → F back v = bif p (ix l v) then yes v else back (v + 1)) (h2 : ∀ back, F back l.length = no) :
    ∀ n v, v ≤ l.length → l.length - v < n → loopN F n v = match (l.drop v).findIdx? p with | some i => yes (v + i) | none => no := by
  intro n
  induction n with
  | zero => intro v _ h; omega
  | succ n ih =>
    intro v hv hn
    rw [loopN_s]
    by_cases h : v < l.length
    · rw [h1 _ v h, drop_ix h, List.findIdx?_cons]
      cases hp : p (ix l v) with
      | true => simp
      | false =>
        simp only [cond_false, Bool.false_eq_true, if_false]
        rw [ih (v + 1) (by omega) (by omega)]
        cases hh : (l.drop (v + 1)).findIdx? p with
        | none => simp
        | some i => simp [Nat.add_assoc, Nat.add_comm 1 i]
    · have : v = l.length := by omega
      subst this
      rw [h2, drop_nil h]
      simp
theorem any_findIdx {α : Type} (p : α → Bool) (l : List α) : (l.findIdx? p).isSome = l.any p := by
  induction l with
  | nil => rfl
  | cons x l ih =>
    rw [List.findIdx?_cons, List.any_cons]
    cases p x <;> simp [ih]
theorem loop_any' {α R : Type} [Inhabited α] {l : List α} {p : α → Bool} {F : (Nat → Option R) → Nat → Option R} {bad no : Option R}
    (h1 : ∀ back v, v < l.length → F back v = bif p (ix l v) then bad else back (v + 1)) (h2 : ∀ back, F back l.length = no) (n : Nat) (hn : l.length < n) : loopN F n 0 = bif l.any p then bad else no := by
  rw [loop_find' (yes := fun _ => bad) h1 h2 n 0 (by omega) (by omega), List.drop_zero, ← any_findIdx]
  cases l.findIdx? p <;> rfl
theorem loop_findI {α : Type} [Inhabited α] {l : List α} {p : α → Bool} {F : (Nat → Option Int) → Nat → Option Int}
    (h1 : ∀ back v, v < l.length → F back v = bif p (ix l v) then some ((v : Nat) : Int) else back (v + 1)) (h2 : ∀ back, F back l.length = some (-1)) (n : Nat) (hn : l.length < n) : loopN F n 0 = some (findI p l) := by
  rw [loop_find' h1 h2 n 0 (by omega) (by omega), List.drop_zero, findI]
  cases l.findIdx? p <;> simp
theorem findI_any {α : Type} (p : α → Bool) (l : List α) : decide ((0 : Int) ≤ findI p l) = l.any p := by
  rw [← any_findIdx, findI]
  cases l.findIdx? p <;> simp
theorem findI_none {α : Type} (p : α → Bool) (l : List α) : decide (findI p l < (0 : Int)) = !l.any p := by
  rw [← any_findIdx, findI]
  cases l.findIdx? p
  · simp
  · simp only [Option.isSome_some, Bool.not_true, decide_eq_false_iff_not]; omega
theorem any_congr {α : Type} {p q : α → Bool} {l : List α} (h : ∀ x ∈ l, p x = q x) : l.any p = l.any q := by
  induction l with
  | nil => rfl
  | cons x l ih =>
    rw [List.any_cons, List.any_cons, h x (by simp), ih fun y hy => h y (by simp [hy])]
theorem findI_congr {α : Type} {p q : α → Bool} {l : List α} (h : ∀ x ∈ l, p x = q x) : findI p l = findI q l := by
  have : l.findIdx? p = l.findIdx? q := by
    induction l with
    | nil => rfl
    | cons x l ih =>
      rw [List.findIdx?_cons, List.findIdx?_cons, h x (by simp), ih fun y hy => h y (by simp [hy])]
  rw [findI, findI, this]
theorem findI_take {α : Type} [Inhabited α] {p : α → Bool} {l : List α} {i : Nat} : (l.take i).any p = (decide (findI p l < (i : Int)) && l.any p) := by
  rw [← any_findIdx, ← any_findIdx, findI]
  cases h : l.findIdx? p with
  | none =>
    rw [List.findIdx?_eq_none_iff] at h
    have : (l.take i).findIdx? p = none := by
      rw [List.findIdx?_eq_none_iff]
      exact fun x hx => h x (List.mem_of_mem_take hx)
    simp [this]
  | some j =>
    rw [List.findIdx?_eq_some_iff_getElem] at h
    obtain ⟨hj, hp, hb⟩ := h
    simp only [Option.isSome_some, Bool.and_true]
    rw [any_findIdx, Bool.eq_iff_iff, List.any_eq_true, decide_eq_true_eq]
    constructor
    · rintro ⟨x, hx, hpx⟩
      obtain ⟨k, hk, rfl⟩ := List.mem_iff_getElem.1 hx
      simp only [List.length_take] at hk
      rw [List.getElem_take] at hpx
      by_cases hkj : k < j
      · have := hb k hkj
        rw [hpx] at this; simp at this
      · omega
    · intro hji
      have hji : j < i := by omega
      exact ⟨l[j], List.mem_iff_getElem.2 ⟨j, by simp; omega, by simp⟩, hp⟩
theorem loop_fold {σ R : Type} {F : (σ × Nat → Option R) → σ × Nat → Option R} {st : Nat → σ} {k : Option R} {len : Nat} (h1 : ∀ back v, v < len → F back (st v, v) = back (st (v + 1), v + 1)) (h2 : ∀ back, F back (st len, len) = k) (n : Nat) (hn : len < n) {s0 : σ} (h0 : st 0 = s0) : loopN F n (s0, 0) = k := by
  subst h0
  exact loop_through (st := fun v => (st v, v)) h1 h2 n hn
theorem loop_fold' {σ R : Type} {F : (Nat × σ → Option R) → Nat × σ → Option R} {st : Nat → σ} {k : Option R} {len : Nat} (h1 : ∀ back v, v < len → F back (v, st v) = back (v + 1, st (v + 1))) (h2 : ∀ back, F back (len, st len) = k) (n : Nat) (hn : len < n) {s0 : σ} (h0 : st 0 = s0) : loopN F n (0, s0) = k := by
  subst h0
  exact loop_through (st := fun v => (v, st v)) h1 h2 n hn
end
section
set_option maxRecDepth 4000
open Go
theorem getD_ix (s : Str) (v : Nat) : List.getD s v 0 = ix s v := by
  simp only [ix, List.getD]; rfl
theorem isName_loop (s : Str) (k : Unit → Option Bool) : ∀ (n v : Nat), s.length - v < n → 0 < v → s.length < 9223372036854775807 → loopN (restore_isName_L1 s k) n v = bif (s.drop v).all okC then k () else some false := by
  intro n
  induction n with
  | zero => intro v h; omega
  | succ n ih =>
    intro v hn hv hl
    rw [loopN_s, restore_isName_L1]
    by_cases h : v < s.length
    · rw [drop_ix h]
      have h2 : ¬ v = 0 := by omega
      simp only [h, decide_true, cond_true, h2, decide_false, Bool.false_or, List.all_cons, nI_of (by omega : v + 1 ≤ 9223372036854775807), chk_t]
      rw [ih (v + 1) (by omega) (by omega) hl]
      have key : (!((decide ((97 : Int) ≤ (((ix s v).toNat : Nat) : Int)) && decide ((((ix s v).toNat : Nat) : Int) ≤ (122 : Int))) || (decide ((65 : Int) ≤ (((ix s v).toNat : Nat) : Int)) && decide ((((ix s v).toNat : Nat) : Int) ≤ (90 : Int)))) && (((((ix s v).toNat : Nat) : Int) != (45 : Int)) && (decide ((((ix s v).toNat : Nat) : Int) < (48 : Int)) || decide ((57 : Int) < (((ix s v).toNat : Nat) : Int))))) = !okC (ix s v) := by
        have hd : (decide ((((ix s v).toNat : Nat) : Int) < (48 : Int)) || decide ((57 : Int) < (((ix s v).toNat : Nat) : Int))) = !isD (ix s v) := by
          simp only [isD, Bool.not_and, ← decide_not, Int.not_le]
        rw [hd]
        show (!isL (ix s v) && _) = _
        simp only [okC]
        cases isL (ix s v) <;> cases isD (ix s v) <;> cases hh : (((((ix s v).toNat : Nat) : Int)) == (45 : Int)) <;> simp [bne, hh]
      rw [key]
      cases okC (ix s v) <;> simp
    · rw [drop_nil h]
      simp [h]
theorem isName_eq (s : Str) (n : Nat) (hn : s.length + 1 < n) (hl : s.length < 9223372036854775807) : restore_isName n s = some (nameB s) := by
  obtain ⟨n, rfl⟩ : ∃ m, n = m + 1 := ⟨n - 1, by omega⟩
  rw [restore_isName, withK_eq, loopN_s, restore_isName_L1]
  cases s with
  | nil => simp [nameB]
  | cons c r =>
    have h0 : 0 < (c :: r).length := by simp
    have hix : ix (c :: r) 0 = c := rfl
    simp only [h0, decide_true, cond_true, hix, Bool.true_or, Bool.and_true, nI_of (by simp : 0 + 1 ≤ 9223372036854775807), chk_t]
    rw [isName_loop _ _ n 1 (by simp at hn ⊢; omega) (by omega) hl]
    show (bif !isL c then some false else _) = _
    simp only [nameB, List.drop_succ_cons, List.drop_zero]
    cases hL : isL c <;> cases hA : r.all okC <;> simp
    omega
theorem IsName_loop (s : Str) (n0 : Nat) (k : Unit → Option Bool) : ∀ (n v : Nat), s.length - v < n → s.length < 9223372036854775807 → loopN (agraffebase_IsName_L1 n0 s k) n v = bif (s.drop v).all okC then k () else some false := by
  intro n
  induction n with
  | zero => intro v h; omega
  | succ n ih =>
    intro v hn hl
    rw [loopN_s, agraffebase_IsName_L1]
    by_cases h : v < s.length
    · rw [drop_ix h]
      simp only [h, decide_true, cond_true, agraffebase_isLetter, agraffebase_isDigit, gcall_some_, Option.bind_some, getD_ix, List.all_cons, nI_of (by omega : v + 1 ≤ 9223372036854775807), chk_t]
      rw [ih (v + 1) (by omega) hl]
      show (bif ((!isL (ix s v)) && (!isD (ix s v))) && ((((ix s v).toNat : Nat) : Int) != (45 : Int)) then _ else _) = _
      simp only [okC]
      cases isL (ix s v) <;> cases isD (ix s v) <;> cases hh : (((((ix s v).toNat : Nat) : Int)) == (45 : Int)) <;> simp [bne, hh]
    · rw [drop_nil h]
      simp [h]
theorem IsName_eq (s : Str) (n : Nat) (hn : s.length + 1 < n) (hl : s.length < 9223372036854775807) : agraffebase_IsName n s = some (nameB s) := by
  rw [agraffebase_IsName]
  simp only [agraffebase_isLetter, gcall_some_, Option.bind_some, getD_ix, withK_eq]
  rw [IsName_loop _ _ _ _ _ (by omega) hl]
  cases s with
  | nil => simp [nameB]
  | cons c r =>
    have h0 : ¬ (c :: r).length = 0 := by simp
    have h1 : 0 < (c :: r).length := by simp
    have hix : ix (c :: r) 0 = c := rfl
    simp only [h0, h1, decide_true, decide_false, Bool.false_or, Bool.or_true, chk_t, hix, List.drop_zero]
    show (bif (decide (12 < (c :: r).length)) || (!isL c) then _ else _) = _
    simp only [nameB, List.all_cons, okC, List.length_cons]
    by_cases hlen : r.length < 12
    · have : ¬ 12 < r.length + 1 := by omega
      cases hL : isL c <;> cases hA : r.all okC <;> simp [this, hlen, hA]
    · have : 12 < r.length + 1 := by omega
      simp [this, hlen]
end
section
set_option maxRecDepth 4000
open Go
structure OkT (t : List Task) : Prop where
  len : t.length ≤ 63
  name : ∀ x ∈ t, x.Name.length ≤ 20
  needs : ∀ x ∈ t, x.Needs.length ≤ 13
  oneof : ∀ x ∈ t, x.OneOf.length ≤ 9
  group : ∀ x ∈ t, ∀ g ∈ x.OneOf, g.length ≤ 9
  parts : ∀ x ∈ t, x.Parts.length ≤ 13
  part : ∀ x ∈ t, ∀ p ∈ x.Parts, p.Part.length ≤ 20
variable {n : Nat}
def byName (s : Str) (x : Task) : Bool := x.Name == s
theorem Find_eq (t : List Task) (s : Str) (hn : t.length < n) (hl : t.length < 9223372036854775807) : agrafferef08_Find n t s = some (findI (byName s) t) := by
  rw [agrafferef08_Find, withK_eq]
  refine loop_findI (fun back v hv => ?_) (fun back => ?_) n hn
  · rw [agrafferef08_Find_L1]; simp only [hv, decide_true, cond_true, nI_of (by omega : v + 1 ≤ 9223372036854775807), chk_t]; rfl
  · rw [agrafferef08_Find_L1]; simp
theorem find_eq (t : List Task) (s : Str) (hn : t.length < n) (hl : t.length < 9223372036854775807) : restore_list_find n t s = some (findI (byName s) t) := by
  rw [restore_list_find, slices_IndexFunc_Task, withK_eq, loop_findI (p := byName s) (fun back v hv => ?_) (fun back => ?_) n hn]
  · rfl
  · rw [slices_IndexFunc_Task_L1]; simp only [hv, restore_list_find_f1, Option.bind_some, decide_true, cond_true, nI_of (by omega : v + 1 ≤ 9223372036854775807), chk_t]; rfl
  · rw [slices_IndexFunc_Task_L1]; simp
def byPartC (s : Str) (x : PartCount) : Bool := x.Part == s
theorem FindPart_eq (l : List PartCount) (s : Str) (hn : l.length < n) (hl : l.length < 9223372036854775807) : agrafferef08_FindPart n l s = some (findI (byPartC s) l) := by
  rw [agrafferef08_FindPart, withK_eq]
  refine loop_findI (fun back v hv => ?_) (fun back => ?_) n hn
  · rw [agrafferef08_FindPart_L1]; simp only [hv, decide_true, cond_true, nI_of (by omega : v + 1 ≤ 9223372036854775807), chk_t]; rfl
  · rw [agrafferef08_FindPart_L1]; simp
theorem ContainsPart_eq (l : List PartCount) (s : Str) (c : Int) (hn : l.length < n) (hl : l.length < 9223372036854775807) : slices_ContainsFunc_PartCount n l s c = some (l.any (byPartC s)) := by
  rw [slices_ContainsFunc_PartCount, slices_IndexFunc_PartCount, withK_eq, loop_findI (p := byPartC s) (fun back v hv => ?_) (fun back => ?_) n hn]
  · simp only [Option.bind_some, findI_any]
  · rw [slices_IndexFunc_PartCount_L1]; simp only [hv, restore_checkCounts_f1, Option.bind_some, decide_true, cond_true, nI_of (by omega : v + 1 ≤ 9223372036854775807), chk_t]; rfl
  · rw [slices_IndexFunc_PartCount_L1]; simp
def isS (s : Str) (x : Str) : Bool := x == s
theorem HasText_eq (l : List Str) (s : Str) (hn : l.length < n) (hl : l.length < 9223372036854775807) : agraffebase_HasText n l s = some (l.any (isS s)) := by
  rw [agraffebase_HasText, withK_eq, loop_any' (p := isS s) (fun back v hv => ?_) (fun back => ?_) n hn]
  · cases l.any (isS s) <;> rfl
  · rw [agraffebase_HasText_L1]; simp only [hv, decide_true, cond_true, nI_of (by omega : v + 1 ≤ 9223372036854775807), chk_t]; rfl
  · rw [agraffebase_HasText_L1]; simp
theorem HasText2_eq (l : List Str) (s : Str) (hn : l.length < n) (hl : l.length < 9223372036854775807) : agraffebase_HasText_2 n l s = some (l.any (isS s)) := by
  rw [agraffebase_HasText_2, withK_eq, loop_any' (p := isS s) (fun back v hv => ?_) (fun back => ?_) n hn]
  · cases l.any (isS s) <;> rfl
  · rw [agraffebase_HasText_2_L1]; simp only [hv, decide_true, cond_true, nI_of (by omega : v + 1 ≤ 9223372036854775807), chk_t]; rfl
  · rw [agraffebase_HasText_2_L1]; simp
theorem isS_comm (s x : Str) : (s == x) = isS s x := by
  unfold isS
  rw [Bool.eq_iff_iff, beq_iff_eq, beq_iff_eq]
  exact eq_comm
theorem Contains_eq (l : List Str) (s : Str) (hn : l.length < n) (hl : l.length < 9223372036854775807) : slices_Contains_string n l s = some (l.any (isS s)) := by
  rw [slices_Contains_string, slices_Index_string, withK_eq, loop_findI (p := isS s) (fun back v hv => ?_) (fun back => ?_) n hn]
  · simp only [Option.bind_some, findI_any]
  · rw [slices_Index_string_L1]; simp only [hv, decide_true, cond_true, nI_of (by omega : v + 1 ≤ 9223372036854775807), chk_t, isS_comm]
  · rw [slices_Index_string_L1]; simp
theorem Contains2_eq (l : List Str) (s : Str) (hn : l.length < n) (hl : l.length < 9223372036854775807) : slices_Contains_string_2 n l s = some (l.any (isS s)) := by
  rw [slices_Contains_string_2, slices_Index_string_2, withK_eq, loop_findI (p := isS s) (fun back v hv => ?_) (fun back => ?_) n hn]
  · simp only [Option.bind_some, findI_any]
  · rw [slices_Index_string_2_L1]; simp only [hv, decide_true, cond_true, nI_of (by omega : v + 1 ≤ 9223372036854775807), chk_t, isS_comm]
  · rw [slices_Index_string_2_L1]; simp
theorem loop_errs {F : (Nat → Option Int) → Nat → Option Int} {E : Nat → Int} {k : Int} {len : Nat}
    (h1 : ∀ back v, v < len → F back v = bif E v != 0 then some (E v) else back (v + 1)) (h2 : ∀ back, F back len = some k) (hn : len < n) :
    loopN F n 0 = some (bif firstE E 0 len != 0 then firstE E 0 len else k) := by
  rw [loop_first (st := fun v => v) (E := E) (err := some) (k := some k) (len := len) (fun back v hv _ => h1 back v hv) (fun back _ => h2 back) n 0 (by omega) (by omega) (fun j h => by omega), Nat.sub_zero]
  cases firstE E 0 len != 0 <;> rfl
theorem bif_int {x : Int} : (bif x != 0 then x else 0) = x := by
  by_cases h : x = 0
  · simp [h]
  · rw [bne_t h]; rfl
def knownE (t : List Task) (l : List Str) (v : Nat) : Int := bif !t.any (byName (ix l v)) then 6 else bif (l.take v).any (isS (ix l v)) then 5 else 0
def known (t : List Task) (l : List Str) : Int := firstE (knownE t l) 0 l.length
theorem known_res {t : List Task} (l : List Str) (hn : 1000 < n) (ht : t.length ≤ 900) (hl : l.length ≤ 900) : restore_list_known n t l = some (known t l) := by
  rw [restore_list_known, withK_eq, loop_errs (E := knownE t l) (k := 0) (fun back v hv => ?_) (fun back => ?_) (by omega : l.length < n), bif_int]; rfl
  · rw [restore_list_known_L1]
    have hle : v ≤ l.length := by omega
    simp only [hv, hle, decide_true, cond_true, find_eq t (ix l v) (by omega : t.length < n) (by omega), Option.bind_some, findI_none, chk_t, Contains_eq (n := n) (l.take v) (ix l v) (by simp; omega) (by simp; omega), nI_of (by omega : v + 1 ≤ 9223372036854775807), knownE]
    cases !t.any (byName (ix l v)) <;> cases (l.take v).any (isS (ix l v)) <;> rfl
  · rw [restore_list_known_L1]; simp
theorem known_ref {t : List Task} (l : List Str) (hn : 1000 < n) (ht : t.length ≤ 900) (hl : l.length ≤ 900) : agrafferef08_tasks n t l = some (known t l) := by
  rw [agrafferef08_tasks, withK_eq, loop_errs (E := knownE t l) (k := 0) (fun back v hv => ?_) (fun back => ?_) (by omega : l.length < n), bif_int]; rfl
  · rw [agrafferef08_tasks_L1]
    have hle : v ≤ l.length := by omega
    simp only [hv, hle, decide_true, cond_true, Find_eq t (ix l v) (by omega : t.length < n) (by omega), Option.bind_some, findI_none, chk_t, HasText_eq (n := n) (l.take v) (ix l v) (by simp; omega) (by simp; omega), nI_of (by omega : v + 1 ≤ 9223372036854775807), knownE]
    cases !t.any (byName (ix l v)) <;> cases (l.take v).any (isS (ix l v)) <;> rfl
  · rw [agrafferef08_tasks_L1]; simp
theorem known_zero {t : List Task} {l : List Str} (h : known t l = 0) : ∀ s ∈ l, t.any (byName s) = true := by
  intro s hs
  obtain ⟨i, hi, rfl⟩ := List.mem_iff_getElem.1 hs
  have := firstE_zero h i (by omega) (by omega)
  unfold knownE at this
  rw [ix_eq hi] at this
  cases h1 : t.any (byName l[i])
  · rw [h1] at this; simp at this
  · rfl
def cntE (l : List PartCount) (most : Int) (v : Nat) : Int :=
  bif !nameB (ix l v).Part then 4 else bif (l.take v).any (byPartC (ix l v).Part) then 5 else bif !((decide (1 ≤ (ix l v).Count)) && (decide ((ix l v).Count ≤ most))) then 2 else 0
def cnts (l : List PartCount) (most : Int) : Int := firstE (cntE l most) 0 l.length
theorem counts_res {l : List PartCount} (most : Int) (hn : 1000 < n) (hl : l.length ≤ 900) (hs : ∀ x ∈ l, x.Part.length ≤ 20) : restore_checkCounts n l most = some (cnts l most) := by
  rw [restore_checkCounts, withK_eq, loop_errs (E := cntE l most) (k := 0) (fun back v hv => ?_) (fun back => ?_) (by omega : l.length < n), bif_int]; rfl
  · rw [restore_checkCounts_L1]
    have h1 := hs _ (ix_mem hv)
    have hle : v ≤ l.length := by omega
    simp only [hv, hle, decide_true, cond_true, isName_eq (ix l v).Part n (by omega) (by omega), Option.bind_some, chk_t, ContainsPart_eq (n := n) (l.take v) (ix l v).Part (ix l v).Count (by simp; omega) (by simp; omega), restore_within, nI_of (by omega : v + 1 ≤ 9223372036854775807), cntE]
    cases nameB (ix l v).Part <;> cases (l.take v).any (byPartC (ix l v).Part) <;> cases (decide (1 ≤ (ix l v).Count)) && (decide ((ix l v).Count ≤ most)) <;> rfl
  · rw [restore_checkCounts_L1]; simp
theorem counts_ref {l : List PartCount} (most : Int) (hn : 1000 < n) (hl : l.length ≤ 900) (hs : ∀ x ∈ l, x.Part.length ≤ 20) : agrafferef08_counts n l most = some (cnts l most) := by
  rw [agrafferef08_counts, withK_eq, loop_errs (E := cntE l most) (k := 0) (fun back v hv => ?_) (fun back => ?_) (by omega : l.length < n), bif_int]; rfl
  · rw [agrafferef08_counts_L1]
    have h1 := hs _ (ix_mem hv)
    have hle : v ≤ l.length := by omega
    simp only [hv, hle, decide_true, cond_true, IsName_eq (ix l v).Part n (by omega) (by omega), Option.bind_some, chk_t, FindPart_eq (n := n) (l.take v) (ix l v).Part (by simp; omega) (by simp; omega), findI_any, agraffebase_Within, nI_of (by omega : v + 1 ≤ 9223372036854775807), cntE]
    cases nameB (ix l v).Part <;> cases (l.take v).any (byPartC (ix l v).Part) <;> cases (decide (1 ≤ (ix l v).Count)) && (decide ((ix l v).Count ≤ most)) <;> rfl
  · rw [agrafferef08_counts_L1]; simp
def grpE (t : List Task) (gs : List (List Str)) (v : Nat) : Int := bif decide ((ix gs v).length = 0) then 10 else known t (ix gs v)
def large (x : Task) : Bool := ((decide (10 < x.Needs.length) || decide (6 < x.OneOf.length)) || x.OneOf.any (fun g => decide (6 < g.length))) || decide (10 < x.Parts.length)
def taskE (t : List Task) (i : Nat) : Int :=
  bif !nameB (ix t i).Name then 4 else bif decide (findI (byName (ix t i).Name) t < (i : Int)) then 5
  else bif (!((decide (0 ≤ (ix t i).Cents)) && (decide ((ix t i).Cents ≤ 1000000000)))) || (!((decide (0 ≤ (ix t i).Hours)) && (decide ((ix t i).Hours ≤ 10000)))) then 2
  else bif large (ix t i) then 8 else bif known t (ix t i).Needs != 0 then known t (ix t i).Needs
  else bif firstE (grpE t (ix t i).OneOf) 0 (ix t i).OneOf.length != 0 then firstE (grpE t (ix t i).OneOf) 0 (ix t i).OneOf.length else cnts (ix t i).Parts 1000
theorem large_res (gs : List (List Str)) (hn : gs.length < n) (hl : gs.length < 9223372036854775807) : slices_ContainsFunc_string n gs = some (gs.any (fun g => decide (6 < g.length))) := by
  rw [slices_ContainsFunc_string, slices_IndexFunc_string, withK_eq, loop_findI (p := fun g => decide (6 < g.length)) (fun back v hv => ?_) (fun back => ?_) n hn]
  · simp only [Option.bind_some, findI_any]
  · rw [slices_IndexFunc_string_L1]; simp only [hv, restore_list_checkTask_f1, Option.bind_some, decide_true, cond_true, nI_of (by omega : v + 1 ≤ 9223372036854775807), chk_t]
  · rw [slices_IndexFunc_string_L1]; simp
theorem task_res {t : List Task} (h : OkT t) (hn : 1000 < n) {i : Nat} (hi : i < t.length) : restore_list_checkTask n t ((i : Nat) : Int) = some (taskE t i) := by
  have hx := ix_mem hi
  have hlen := h.len
  have h1 := h.name _ hx
  have h2 := h.needs _ hx
  have h3 := h.oneof _ hx
  have h4 := h.parts _ hx
  rw [restore_list_checkTask]
  have e : ((i : Nat) : Int).toNat = i := by omega
  have hin : inB ((i : Nat) : Int) t.length = true := inB_of (by omega) (by omega)
  simp only [e, hin, hi, decide_true, chk_t, isName_eq (ix t i).Name n (by omega) (by omega), Option.bind_some, find_eq t (ix t i).Name (by omega : t.length < n) (by omega), restore_within, gcall_some_,
    large_res (n := n) (ix t i).OneOf (by omega) (by omega), known_res (n := n) (t := t) (ix t i).Needs hn (by omega) (by omega), withK_eq, counts_res (n := n) (l := (ix t i).Parts) 1000 hn (by omega) (h.part _ hx)]
  rw [loop_errs (E := grpE t (ix t i).OneOf) (k := cnts (ix t i).Parts 1000) (len := (ix t i).OneOf.length) (fun back v hv => ?_) (fun back => ?_) (by omega)]
  · unfold taskE large
    cases nameB (ix t i).Name
    · rfl
    cases decide (findI (byName (ix t i).Name) t < (i : Int))
    · cases (!((decide (0 ≤ (ix t i).Cents)) && (decide ((ix t i).Cents ≤ 1000000000)))) || (!((decide (0 ≤ (ix t i).Hours)) && (decide ((ix t i).Hours ≤ 10000))))
      · simp only [Bool.not_true, cond_false]
        cases decide (10 < (ix t i).Needs.length) || decide (6 < (ix t i).OneOf.length)
        · simp only [Bool.not_false, cond_true, Bool.false_or]
          cases ((ix t i).OneOf.any fun g => decide (6 < g.length)) || decide (10 < (ix t i).Parts.length)
          · cases known t (ix t i).Needs != 0 <;> rfl
          · rfl
        · simp
      · rfl
    · rfl
  · rw [restore_list_checkTask_L1]
    have hg := h.group _ hx _ (ix_mem hv)
    simp only [e, hv, decide_true, cond_true, chk_t, known_res (n := n) (t := t) (ix (ix t i).OneOf v) hn (by omega) (by omega), Option.bind_some, nI_of (by omega : v + 1 ≤ 9223372036854775807), grpE]
    cases decide ((ix (ix t i).OneOf v).length = 0)
    · rfl
    · rfl
  · rw [restore_list_checkTask_L1]
    simp [e]
theorem task_ref {t : List Task} (h : OkT t) (hn : 1000 < n) {i : Nat} (hi : i < t.length) : agrafferef08_task n t ((i : Nat) : Int) = some (taskE t i) := by
  have hx := ix_mem hi
  have hlen := h.len
  have h1 := h.name _ hx
  have h2 := h.needs _ hx
  have h3 := h.oneof _ hx
  have h4 := h.parts _ hx
  rw [agrafferef08_task]
  have e : ((i : Nat) : Int).toNat = i := by omega
  have hin : inB ((i : Nat) : Int) t.length = true := inB_of (by omega) (by omega)
  have hic : inC ((i : Nat) : Int) t.length = true := inC_of (by omega) (by omega)
  have hself : t.any (byName (ix t i).Name) = true := List.any_eq_true.2 ⟨_, hx, by simp [byName]⟩
  have hft : decide ((0 : Int) ≤ findI (byName (ix t i).Name) (t.take i)) = decide (findI (byName (ix t i).Name) t < (i : Int)) := by
    rw [findI_any, findI_take, hself, Bool.and_true]
  simp only [e, hin, hic, hi, decide_true, chk_t, IsName_eq (ix t i).Name n (by omega) (by omega), Option.bind_some, Find_eq (n := n) (t.take i) (ix t i).Name (by simp; omega) (by simp; omega), hft, agraffebase_Within, gcall_some_,
    known_ref (n := n) (t := t) (ix t i).Needs hn (by omega) (by omega), withK_eq, counts_ref (n := n) (l := (ix t i).Parts) 1000 hn (by omega) (h.part _ hx)]
  rw [loop_errs (E := grpE t (ix t i).OneOf) (k := cnts (ix t i).Parts 1000) (len := (ix t i).OneOf.length) (fun back v hv => ?_) (fun back => ?_) (by omega)]
  · rw [loop_fold (σ := Bool) (st := fun v => ((decide (10 < (ix t i).Needs.length) || decide (6 < (ix t i).OneOf.length)) || decide (10 < (ix t i).Parts.length)) || ((ix t i).OneOf.take v).any (fun g => decide (6 < g.length))) (len := (ix t i).OneOf.length) (k := bif large (ix t i) then some 8 else bif known t (ix t i).Needs != 0 then some (known t (ix t i).Needs) else some (bif firstE (grpE t (ix t i).OneOf) 0 (ix t i).OneOf.length != 0 then firstE (grpE t (ix t i).OneOf) 0 (ix t i).OneOf.length else cnts (ix t i).Parts 1000)) (fun back v hv => ?_) (fun back => ?_) n (by omega) (by simp)]
    · unfold taskE
      cases nameB (ix t i).Name
      · rfl
      cases decide (findI (byName (ix t i).Name) t < (i : Int))
      · cases (!((decide (0 ≤ (ix t i).Cents)) && (decide ((ix t i).Cents ≤ 1000000000)))) || (!((decide (0 ≤ (ix t i).Hours)) && (decide ((ix t i).Hours ≤ 10000))))
        · simp only [Bool.not_true, cond_false]
          cases large (ix t i)
          · cases known t (ix t i).Needs != 0 <;> rfl
          · rfl
        · rfl
      · rfl
    · rw [agrafferef08_task_L1]
      simp only [e, hv, decide_true, cond_true, Bool.or_true, chk_t, nI_of (by omega : v + 1 ≤ 9223372036854775807)]
      rw [List.take_succ_eq_append_getElem hv, List.any_append, ix_eq hv]
      simp [Bool.or_assoc]
    · rw [agrafferef08_task_L1]
      have : (((decide (10 < (ix t i).Needs.length) || decide (6 < (ix t i).OneOf.length)) || decide (10 < (ix t i).Parts.length)) || (ix t i).OneOf.any (fun g => decide (6 < g.length))) = large (ix t i) := by
        unfold large
        cases decide (10 < (ix t i).Needs.length) || decide (6 < (ix t i).OneOf.length) <;> cases decide (10 < (ix t i).Parts.length) <;> cases (ix t i).OneOf.any (fun g => decide (6 < g.length)) <;> rfl
      simp only [e, Nat.lt_irrefl, decide_false, cond_false, List.take_length, this]
  · rw [agrafferef08_task_L2]
    have hg := h.group _ hx _ (ix_mem hv)
    simp only [e, hv, decide_true, cond_true, chk_t, known_ref (n := n) (t := t) (ix (ix t i).OneOf v) hn (by omega) (by omega), Option.bind_some, nI_of (by omega : v + 1 ≤ 9223372036854775807), grpE]
    cases decide ((ix (ix t i).OneOf v).length = 0)
    · rfl
    · rfl
  · rw [agrafferef08_task_L2]
    simp [e]
end
section
set_option maxRecDepth 4000
open Go
variable {n : Nat}
theorem nodup_len {α : Type} [DecidableEq α] : ∀ (l m : List α), l.Nodup → (∀ x ∈ l, x ∈ m) → l.length ≤ m.length
  | [], _, _, _ => Nat.zero_le _
  | a :: l, m, h, hs => by
    have ha : a ∈ m := hs a (by simp)
    have h2 := List.nodup_cons.1 h
    have := nodup_len l (m.erase a) h2.2 fun x hx => (List.mem_erase_of_ne (by rintro rfl; exact h2.1 hx)).2 (hs x (by simp [hx]))
    rw [List.length_erase_of_mem ha] at this
    have hm := List.length_pos_of_mem ha
    simp only [List.length_cons]; omega
theorem any_isS {l : List Str} {s : Str} : l.any (isS s) = true ↔ s ∈ l := by
  rw [List.any_eq_true]
  constructor
  · rintro ⟨x, hx, h⟩; rw [← eq_of_beq h]; exact hx
  · exact fun h => ⟨s, h, by simp [isS]⟩
theorem any_byName {t : List Task} {s : Str} : t.any (byName s) = true ↔ ∃ x ∈ t, x.Name = s := by
  rw [List.any_eq_true]
  constructor
  · rintro ⟨x, hx, h⟩; exact ⟨x, hx, eq_of_beq h⟩
  · rintro ⟨x, hx, h⟩; exact ⟨x, hx, by simp [byName, h]⟩
def leads (x : Task) : List Str := x.Needs ++ x.OneOf.flatten
theorem flatten_len {b : Nat} : ∀ (l : List (List Str)), (∀ g ∈ l, g.length ≤ b) → l.flatten.length ≤ l.length * b
  | [], _ => by simp
  | g :: l, h => by
    have h1 := h g (by simp)
    have h2 := flatten_len l fun x hx => h x (by simp [hx])
    simp only [List.flatten_cons, List.length_append, List.length_cons, Nat.succ_mul]; omega
theorem take_flatten {α : Type} [Inhabited α] {l : List (List α)} {v : Nat} (hv : v < l.length) : (l.take (v + 1)).flatten = (l.take v).flatten ++ ix l v := by
  rw [List.take_succ_eq_append_getElem hv, List.flatten_append, ix_eq hv]; simp
theorem Grow_eq (a : Nat) (ha : a ≤ 100000) : slices_Grow_string n ((a : Nat) : Int) = some [] := by
  rw [slices_Grow_string]
  have h1 : ¬ ((a : Nat) : Int) < 0 := by omega
  have h2 : ((a : Nat) : Int) - (0 - 0) = (a : Int) := by omega
  have h3 : (((a : Nat) : Int)).toNat = a := by omega
  simp only [h1, h2, decide_false, cond_false, withK_eq]
  rw [chk_of (inI_of (by omega) (by omega)), chk_of (inI_of (by omega) (by omega))]
  by_cases h : 0 < a
  · have h4 : (0 : Int) < ((a : Nat) : Int) := by omega
    have h5 : (0 : Int) ≤ ((a : Nat) : Int) := by omega
    have hr : room 16 a = true := room_of (by omega) (by omega)
    simp [h4, h5, h3, h, hr]
  · have h4 : ¬ (0 : Int) < ((a : Nat) : Int) := by omega
    simp only [h4, decide_false, cond_false]
theorem Concat_eq (l : List (List Str)) (hl : l.length ≤ 900) (hs : l.flatten.length ≤ 10000) (hn : 1000 < n) : slices_Concat_string n l = some l.flatten := by
  have htk : ∀ v, v ≤ l.length → (l.take v).flatten.length ≤ l.flatten.length := by
    intro v _
    have : l.flatten = (l.take v).flatten ++ (l.drop v).flatten := by rw [← List.flatten_append, List.take_append_drop]
    rw [this, List.length_append]; omega
  rw [slices_Concat_string, withK_eq]
  rw [loop_fold (σ := Nat) (st := fun v => (l.take v).flatten.length) (len := l.length) (k := some l.flatten) (fun back v hv => ?_) (fun back => ?_) n (by omega) (by simp)]
  · rw [slices_Concat_string_L1]
    have h1 := htk (v + 1) (by omega)
    rw [take_flatten hv, List.length_append] at h1
    have h2 : ¬ ((l.take v).flatten.length + (ix l v).length < 0) := by omega
    simp only [hv, decide_true, cond_true, nI_of (by omega : (l.take v).flatten.length + (ix l v).length ≤ 9223372036854775807), chk_t, h2, decide_false, cond_false, nI_of (by omega : v + 1 ≤ 9223372036854775807)]
    rw [take_flatten hv, List.length_append]
  · rw [slices_Concat_string_L1]
    have h1 := htk l.length (Nat.le_refl _)
    simp only [Nat.lt_irrefl, decide_false, cond_false, Grow_eq (n := n) (l.take l.length).flatten.length (by omega), Option.bind_some, withK_eq]
    refine loop_fold' (σ := List Str) (st := fun v => (l.take v).flatten) (len := l.length) (fun back v hv => ?_) (fun back => ?_) n (by omega) (by simp)
    · rw [slices_Concat_string_L2]
      have h1 := htk (v + 1) (by omega)
      rw [take_flatten hv] at h1
      simp only [hv, decide_true, cond_true, room_of (b := 16) (n := ((l.take v).flatten ++ ix l v).length) (by omega) (by omega), chk_t, nI_of (by omega : v + 1 ≤ 9223372036854775807)]
      rw [take_flatten hv]
    · rw [slices_Concat_string_L2]; simp
theorem leads_len {t : List Task} (h : OkT t) {x : Task} (hx : x ∈ t) : (leads x).length ≤ 100 := by
  have h1 := h.needs x hx
  have h2 := h.oneof x hx
  have h3 := flatten_len (b := 9) x.OneOf (h.group x hx)
  simp only [leads, List.length_append]; omega
theorem leads_res {t : List Task} (h : OkT t) {x : Task} (hx : x ∈ t) (hn : 1000 < n) : restore_leads n x = some (leads x) := by
  have h1 := leads_len h hx
  have h2 := h.oneof x hx
  rw [restore_leads]
  have e : ([x.Needs] ++ x.OneOf : List (List Str)).flatten = leads x := by simp [leads]
  rw [chk_of (room_of (by simp; omega) (by simp; omega)), Concat_eq _ (by simp; omega) (by rw [e]; omega) hn, e]
  rfl
theorem Leads_ref {t : List Task} (h : OkT t) {x : Task} (hx : x ∈ t) (hn : 1000 < n) : agrafferef08_Leads n x = some (leads x) := by
  have h1 := leads_len h hx
  have h2 := h.oneof x hx
  have h3 := h.needs x hx
  have htk : ∀ v, v ≤ x.OneOf.length → (x.OneOf.take v).flatten.length ≤ x.OneOf.flatten.length := by
    intro v _
    have : x.OneOf.flatten = (x.OneOf.take v).flatten ++ (x.OneOf.drop v).flatten := by rw [← List.flatten_append, List.take_append_drop]
    rw [this, List.length_append]; omega
  rw [agrafferef08_Leads, agraffebase_CopyTexts_2, chk_of (room_of (by omega) (by omega))]
  simp only [Option.bind_some, withK_eq]
  refine loop_fold' (σ := List Str) (st := fun v => x.Needs ++ (x.OneOf.take v).flatten) (len := x.OneOf.length) (fun back v hv => ?_) (fun back => ?_) n (by omega) (by simp)
  · rw [agrafferef08_Leads_L1]
    have h4 := htk (v + 1) (by omega)
    rw [take_flatten hv, List.length_append] at h4
    simp only [leads, List.length_append] at h1
    simp only [hv, decide_true, cond_true, room_of (b := 16) (n := (x.Needs ++ (x.OneOf.take v).flatten ++ ix x.OneOf v).length) (by simp only [List.length_append]; omega) (by simp only [List.length_append]; omega), chk_t, nI_of (by omega : v + 1 ≤ 9223372036854775807)]
    rw [take_flatten hv, List.append_assoc]
  · rw [agrafferef08_Leads_L1]; simp [leads]
def Inv (t : List Task) (out : List Str) : Prop := out.Nodup ∧ ∀ s ∈ out, t.any (byName s) = true
theorem Inv.len {t : List Task} {out : List Str} (h : Inv t out) : out.length ≤ t.length := by
  have := nodup_len out (t.map Task.Name) h.1 fun s hs => by
    obtain ⟨x, hx, rfl⟩ := any_byName.1 (h.2 s hs)
    exact List.mem_map.2 ⟨x, hx, rfl⟩
  simpa using this
theorem Inv.nil (t : List Task) : Inv t [] := ⟨List.nodup_nil, by simp⟩
def rdy (inS : Str → Bool) (out : List Str) (x : Task) : Bool := (inS x.Name && !out.any (isS x.Name)) && !(leads x).any (fun s => inS s && !out.any (isS s))
theorem Inv.step {t : List Task} {out : List Str} (h : Inv t out) {inS : Str → Bool} {x : Task} (hx : x ∈ t) (hr : rdy inS out x = true) : Inv t (out ++ [x.Name]) := by
  unfold rdy at hr
  simp only [Bool.and_eq_true, Bool.not_eq_true'] at hr
  have hn : x.Name ∉ out := fun hm => by
    have := any_isS.2 hm
    rw [hr.1.2] at this; cases this
  refine ⟨List.nodup_append.2 ⟨h.1, by simp, fun a ha b hb => ?_⟩, fun s hs => ?_⟩
  · simp only [List.mem_singleton] at hb
    subst hb
    rintro rfl; exact hn ha
  · rw [List.mem_append, List.mem_singleton] at hs
    rcases hs with hs | rfl
    · exact h.2 s hs
    · exact any_byName.2 ⟨x, hx, rfl⟩
def ordF (t : List Task) (inS : Str → Bool) : Nat → List Str → List Str
  | 0, out => out
  | k + 1, out => bif decide (findI (rdy inS out) t < 0) then out else ordF t inS k (out ++ [(ix t (findI (rdy inS out) t).toNat).Name])
theorem order_loop {F : (List Str → Option (List Str)) → List Str → Option (List Str)} {t : List Task} {inS : Str → Bool}
    (hF : ∀ back out, Inv t out → F back out = bif decide (findI (rdy inS out) t < 0) then some out else back (out ++ [(ix t (findI (rdy inS out) t).toNat).Name])) :
    ∀ n out, Inv t out → t.length - out.length < n → loopN F n out = some (ordF t inS n out) := by
  intro n
  induction n with
  | zero => intro out _ h; omega
  | succ n ih =>
    intro out hi hn
    rw [loopN_s, hF _ out hi, ordF]
    by_cases h : findI (rdy inS out) t < 0
    · simp [h]
    · obtain ⟨f1, f2, f3, f4⟩ := findI_pos h
      have hs := hi.step (ix_mem f2) f3
      have hl := hs.len
      simp only [List.length_append, List.length_singleton] at hl
      simp only [h, decide_false, cond_false]
      exact ih _ hs (by simp only [List.length_append, List.length_singleton]; omega)
theorem ordF_congr {t : List Task} {i1 i2 : Str → Bool} (h : ∀ x ∈ t, i1 x.Name = i2 x.Name ∧ ∀ s ∈ leads x, i1 s = i2 s) : ∀ n out, ordF t i1 n out = ordF t i2 n out := by
  intro n
  induction n with
  | zero => exact fun _ => rfl
  | succ n ih =>
    intro out
    have e : findI (rdy i1 out) t = findI (rdy i2 out) t := findI_congr fun x hx => by
      have e2 : (leads x).any (fun s => i1 s && !out.any (isS s)) = (leads x).any (fun s => i2 s && !out.any (isS s)) := any_congr fun s hs => by rw [(h x hx).2 s hs]
      unfold rdy
      rw [(h x hx).1, e2]
    rw [ordF, ordF, e, ih]
theorem order_res {t : List Task} (h : OkT t) (hn : 1000 < n) : restore_list_order n t = some (ordF t (fun _ => true) n []) := by
  have hlen := h.len
  rw [restore_list_order]
  refine order_loop (fun back out hi => ?_) n [] (Inv.nil t) (by simp; omega)
  have hol := hi.len
  rw [restore_list_order_L1]
  have h1 : ∀ s, restore_list_order_f1_2 n s out = some (!out.any (isS s)) := by
    intro s
    rw [restore_list_order_f1_2, restore_CheckTasks_f1, Contains2_eq out s (by omega) (by omega)]
    simp
  have h3 : ∀ l : List Str, l.length ≤ 900 → slices_ContainsFunc_string_3 n l out = some (l.any fun s => !out.any (isS s)) := by
    intro l hl
    rw [slices_ContainsFunc_string_3, slices_IndexFunc_string_3, withK_eq, loop_findI (l := l) (p := fun s => !out.any (isS s)) (fun back v hv => ?_) (fun back => ?_) n (by omega)]
    · simp only [Option.bind_some, findI_any]
    · rw [slices_IndexFunc_string_3_L1]; simp only [hv, h1, Option.bind_some, decide_true, cond_true, nI_of (by omega : v + 1 ≤ 9223372036854775807), chk_t]
    · rw [slices_IndexFunc_string_3_L1]; simp
  have h2 : ∀ x ∈ t, restore_list_order_f2_2 n x out = some (rdy (fun _ => true) out x) := by
    intro x hx
    rw [restore_list_order_f2_2, h1, leads_res h hx hn]
    simp only [Option.bind_some, gcall_some_]
    unfold rdy
    cases hb : out.any (isS x.Name)
    · simp only [Bool.not_false, cond_true, h3 (leads x) (by have := leads_len h hx; omega), gcall_some_, Option.bind_some, Bool.true_and]
    · simp [gcall]
  have h4 : slices_IndexFunc_Task_3 n t out = some (findI (rdy (fun _ => true) out) t) := by
    rw [slices_IndexFunc_Task_3, withK_eq]
    refine loop_findI (fun back v hv => ?_) (fun back => ?_) n (by omega)
    · rw [slices_IndexFunc_Task_3_L1]; simp only [hv, h2 _ (ix_mem hv), Option.bind_some, decide_true, cond_true, nI_of (by omega : v + 1 ≤ 9223372036854775807), chk_t]
    · rw [slices_IndexFunc_Task_3_L1]; simp
  rw [h4]
  simp only [Option.bind_some]
  by_cases hf : findI (rdy (fun _ => true) out) t < 0
  · simp [hf]
  · obtain ⟨f1, f2, f3, f4⟩ := findI_pos hf
    simp only [hf, decide_false, cond_false, inB_of f1 f2, chk_t, f2, decide_true]
    rw [chk_of (room_of (by simp; omega) (by simp; omega))]
theorem loop_flag {α R : Type} [Inhabited α] {l : List α} {p : α → Bool} {F : (Int × Nat → Option R) → Int × Nat → Option R} {k : Int → Option R}
    (h1 : ∀ back v, v < l.length → F back (-1, v) = bif p (ix l v) then back (((v : Nat) : Int), v + 1) else back (-1, v + 1))
    (h2 : ∀ back (i : Int) v, 0 ≤ i → F back (i, v) = k i) (h3 : ∀ back, F back (-1, l.length) = k (-1)) (n : Nat) (hn : l.length + 1 < n) : loopN F n (-1, 0) = k (findI p l) := by
  have : ∀ n v, v ≤ l.length → l.length - v + 1 < n → loopN F n (-1, v) = match (l.drop v).findIdx? p with | some i => k (((v + i : Nat) : Int)) | none => k (-1) := by
    intro n
    induction n with
    | zero => intro v _ h; omega
    | succ n ih =>
      intro v hv hn
      rw [loopN_s]
      by_cases h : v < l.length
      · rw [h1 _ v h, drop_ix h, List.findIdx?_cons]
        cases hp : p (ix l v) with
        | true =>
          obtain ⟨n, rfl⟩ : ∃ m, n = m + 1 := ⟨n - 1, by omega⟩
          simp only [cond_true, if_true, Nat.add_zero]
          rw [loopN_s, h2 _ _ _ (by omega)]
        | false =>
          simp only [cond_false, Bool.false_eq_true, if_false]
          rw [ih (v + 1) (by omega) (by omega)]
          cases hh : (l.drop (v + 1)).findIdx? p with
          | none => simp
          | some i => simp [Nat.add_assoc, Nat.add_comm 1 i]
      · have : v = l.length := by omega
        subst this
        rw [h3, drop_nil h]
        simp
  rw [this n 0 (by omega) (by omega), List.drop_zero, findI]
  cases l.findIdx? p <;> simp
theorem all_take {α : Type} [Inhabited α] {l : List α} {p : α → Bool} {v : Nat} (hv : v < l.length) : (l.take (v + 1)).all p = ((l.take v).all p && p (ix l v)) := by
  rw [List.take_succ_eq_append_getElem hv, List.all_append, ix_eq hv]; simp
theorem Order_ref {t : List Task} (h : OkT t) {set : List Str} (hset : set.length ≤ 900) (hn : 1000 < n) : agrafferef08_Order n t set = some (ordF t (fun s => set.any (isS s)) n []) := by
  have hlen := h.len
  rw [agrafferef08_Order]
  refine order_loop (fun back out hi => ?_) n [] (Inv.nil t) (by simp; omega)
  have hol := hi.len
  rw [agrafferef08_Order_L3, withK_eq]
  rw [loop_flag (l := t) (p := rdy (fun s => set.any (isS s)) out) (k := fun v51 => bif decide (v51 < (0 : Int)) then some out else
        chk (inB v51 t.length) <|
        chk (decide (v51.toNat < t.length)) <|
        chk (room 16 (out ++ ([(ix t v51.toNat).Name] : List Str)).length) <|
        back (out ++ ([(ix t v51.toNat).Name] : List Str))) (fun back v hv => ?_) (fun back i v hi => ?_) (fun back => ?_) n (by omega)]
  · by_cases hf : findI (rdy (fun s => set.any (isS s)) out) t < 0
    · simp [hf]
    · obtain ⟨f1, f2, f3, f4⟩ := findI_pos hf
      simp only [hf, decide_false, cond_false, inB_of f1 f2, chk_t, f2, decide_true]
      rw [chk_of (room_of (by simp; omega) (by simp; omega))]
  · rw [agrafferef08_Order_L2]
    have hx := ix_mem hv
    have hll := leads_len h hx
    simp only [hv, decide_true, cond_true, show decide ((-1 : Int) < 0) = true from rfl, Bool.and_self, withK_eq, chk_t, HasText_eq set (ix t v).Name (by omega : set.length < n) (by omega), HasText2_eq out (ix t v).Name (by omega : out.length < n) (by omega), Option.bind_some, gcall_some_, Leads_ref h hx hn, nI_of (by omega : v + 1 ≤ 9223372036854775807)]
    rw [loop_fold (σ := Bool) (st := fun v' => ((leads (ix t v)).take v').all fun s => !set.any (isS s) || out.any (isS s)) (len := (leads (ix t v)).length)
      (k := bif (leads (ix t v)).all (fun s => !set.any (isS s) || out.any (isS s)) then back (((v : Nat) : Int), v + 1) else back (-1, v + 1)) (fun back' v' hv' => ?_) (fun back' => ?_) n (by omega) (by simp)]
    · have hb : rdy (fun s => set.any (isS s)) out (ix t v) = ((set.any (isS (ix t v).Name) && !out.any (isS (ix t v).Name)) && !(leads (ix t v)).any (fun s => set.any (isS s) && !out.any (isS s))) := rfl
      have e : (leads (ix t v)).all (fun s => !set.any (isS s) || out.any (isS s)) = !(leads (ix t v)).any (fun s => set.any (isS s) && !out.any (isS s)) := by
        rw [List.not_any_eq_all_not]
        congr 1
        funext s
        cases set.any (isS s) <;> cases out.any (isS s) <;> rfl
      rw [hb, e]
      cases set.any (isS (ix t v).Name) <;> cases out.any (isS (ix t v).Name) <;> simp
    · rw [agrafferef08_Order_L1]
      simp only [hv', decide_true, cond_true, HasText_eq set (ix (leads (ix t v)) v') (by omega : set.length < n) (by omega), HasText2_eq out (ix (leads (ix t v)) v') (by omega : out.length < n) (by omega), Option.bind_some, gcall_some_, nI_of (by omega : v' + 1 ≤ 9223372036854775807), chk_t]
      rw [all_take hv']
      cases ((leads (ix t v)).take v').all fun s => !set.any (isS s) || out.any (isS s)
      · simp
      · cases set.any (isS (ix (leads (ix t v)) v')) <;> simp
    · rw [agrafferef08_Order_L1]
      simp
  · rw [agrafferef08_Order_L2]
    have : ¬ i < 0 := by omega
    simp [this]
  · rw [agrafferef08_Order_L2]
    simp
def tasksE (n : Nat) (t : List Task) : Int :=
  bif decide (60 < t.length) then 8 else bif firstE (taskE t) 0 t.length != 0 then firstE (taskE t) 0 t.length
  else bif decide ((ordF t (fun _ => true) n []).length < t.length) then 21 else 0
theorem CheckTasks_res {t : List Task} (h : OkT t) (hn : 1000 < n) : restore_CheckTasks n t = some (tasksE n t) := by
  have hlen := h.len
  rw [restore_CheckTasks, tasksE]
  by_cases hl : 60 < t.length
  · simp [hl]
  simp only [hl, decide_false, cond_false, withK_eq, order_res h hn, Option.bind_some]
  rw [loop_errs (E := taskE t) (len := t.length) (k := bif decide ((ordF t (fun _ => true) n []).length < t.length) then 21 else 0) (fun back v hv => ?_) (fun back => ?_) (by omega)]
  · rw [restore_CheckTasks_L1]
    simp only [hv, decide_true, cond_true, task_res h hn hv, Option.bind_some, nI_of (by omega : v + 1 ≤ 9223372036854775807), chk_t]
  · rw [restore_CheckTasks_L1]
    simp only [Nat.lt_irrefl, decide_false, cond_false]
    cases decide ((ordF t (fun _ => true) n []).length < t.length) <;> rfl
theorem lead_known {t : List Task} {i : Nat} (hi : i < t.length) (h : taskE t i = 0) : ∀ s ∈ leads (ix t i), t.any (byName s) = true := by
  unfold taskE at h
  cases h1 : nameB (ix t i).Name
  · simp [h1] at h
  rw [h1] at h
  simp only [Bool.not_true, cond_false] at h
  cases h2 : decide (findI (byName (ix t i).Name) t < (i : Int))
  · rw [h2] at h
    simp only [cond_false] at h
    cases h3 : (!((decide (0 ≤ (ix t i).Cents)) && (decide ((ix t i).Cents ≤ 1000000000)))) || (!((decide (0 ≤ (ix t i).Hours)) && (decide ((ix t i).Hours ≤ 10000))))
    · rw [h3] at h
      simp only [cond_false] at h
      cases h4 : large (ix t i)
      · rw [h4] at h
        simp only [cond_false] at h
        by_cases h5 : known t (ix t i).Needs = 0
        · simp only [h5, bne_self_eq_false, cond_false] at h
          by_cases h6 : firstE (grpE t (ix t i).OneOf) 0 (ix t i).OneOf.length = 0
          · intro s hs
            rw [leads, List.mem_append] at hs
            rcases hs with hs | hs
            · exact known_zero h5 s hs
            · obtain ⟨g, hg, hsg⟩ := List.mem_flatten.1 hs
              obtain ⟨k, hk, rfl⟩ := List.mem_iff_getElem.1 hg
              have := firstE_zero h6 k (by omega) (by omega)
              unfold grpE at this
              rw [ix_eq hk] at this
              cases h7 : decide ((ix t i).OneOf[k].length = 0)
              · rw [h7] at this
                simp only [cond_false] at this
                exact known_zero this s hsg
              · rw [h7] at this; simp at this
          · rw [bne_t h6, cond_true] at h; exact absurd h h6
        · rw [bne_t h5, cond_true] at h; exact absurd h h5
      · rw [h4] at h; simp at h
    · rw [h3] at h; simp at h
  · rw [h2] at h; simp at h
theorem CheckTasks_ref {t : List Task} (h : OkT t) (hn : 1000 < n) : agrafferef08_CheckTasks n t = some (tasksE n t) := by
  have hlen := h.len
  rw [agrafferef08_CheckTasks, tasksE]
  by_cases hl : 60 < t.length
  · simp [hl]
  simp only [hl, decide_false, cond_false, withK_eq]
  by_cases h0 : firstE (taskE t) 0 t.length = 0
  · have hcong : ordF t (fun s => (t.map Task.Name).any (isS s)) n [] = ordF t (fun _ => true) n [] := by
      refine ordF_congr (fun x hx => ⟨any_isS.2 (List.mem_map.2 ⟨x, hx, rfl⟩), fun s hs => ?_⟩) n []
      obtain ⟨i, hi, rfl⟩ := List.mem_iff_getElem.1 hx
      have hz := firstE_zero h0 i (by omega) (by omega)
      rw [← ix_eq hi] at hs
      obtain ⟨y, hy, e⟩ := any_byName.1 (lead_known hi hz s hs)
      exact any_isS.2 (List.mem_map.2 ⟨y, hy, e⟩)
    rw [loop_errs (E := taskE t) (len := t.length) (k := bif decide ((ordF t (fun _ => true) n []).length < t.length) then 21 else 0) (fun back v hv => ?_) (fun back => ?_) (by omega)]
    · rw [agrafferef08_CheckTasks_L1]
      simp only [hv, decide_true, cond_true, task_ref h hn hv, Option.bind_some, nI_of (by omega : v + 1 ≤ 9223372036854775807), chk_t]
    · rw [agrafferef08_CheckTasks_L1]
      simp only [Nat.lt_irrefl, decide_false, cond_false]
      rw [loop_fold (σ := List Str) (st := fun v => (t.take v).map Task.Name) (len := t.length) (k := some (bif decide ((ordF t (fun _ => true) n []).length < t.length) then 21 else 0)) (fun back v hv => ?_) (fun back => ?_) n (by omega) (by simp)]
      · rw [agrafferef08_CheckTasks_L2]
        simp only [hv, decide_true, cond_true, nI_of (by omega : v + 1 ≤ 9223372036854775807), chk_t]
        rw [chk_of (room_of (by simp; omega) (by simp; omega)), List.take_succ_eq_append_getElem hv, List.map_append, ix_eq hv]
        rfl
      · rw [agrafferef08_CheckTasks_L2]
        simp only [Nat.lt_irrefl, decide_false, cond_false, List.take_length, Order_ref h (set := t.map Task.Name) (by simp; omega) hn, Option.bind_some, hcong]
        cases decide ((ordF t (fun _ => true) n []).length < t.length) <;> rfl
  · rw [loop_first (st := fun v => v) (E := taskE t) (err := some) (k := agrafferef08_CheckTasks_L1 n t (fun _ => loopN (agrafferef08_CheckTasks_L2 t fun v6 => (agrafferef08_Order n t v6).bind fun y7 => bif decide (y7.length < t.length) then some 21 else some 0) n ([], 0)) (fun _ => none) t.length) (len := t.length) (fun back v hv _ => ?_) (fun back _ => ?_) n 0 (by omega) (by omega) (fun j h => by omega), Nat.sub_zero, bne_t h0, cond_true, cond_true]
    · rw [agrafferef08_CheckTasks_L1]
      simp only [hv, decide_true, cond_true, task_ref h hn hv, Option.bind_some, nI_of (by omega : v + 1 ≤ 9223372036854775807), chk_t]
    · rw [agrafferef08_CheckTasks_L1, agrafferef08_CheckTasks_L1]
      simp
end
section
set_option maxRecDepth 4000
open Go
end
section
set_option maxRecDepth 4000
open Go
variable {n : Nat}
@[simp] theorem gcall_t {α : Type} [Inhabited α] (x : Option α) : gcall true x = x := rfl
@[simp] theorem gcall_f {α : Type} [Inhabited α] (x : Option α) : gcall false x = some default := rfl
theorem set_ix {α : Type} [Inhabited α] {l : List α} {i : Nat} (h : i < l.length) : l.set i (ix l i) = l := by
  rw [ix_eq h]; exact List.set_getElem_self h
def textsB (l : List Str) (m : Int) : Bool := !decide (m < (l.length : Int)) && !l.any fun s => decide (20 < s.length)
theorem texts_eq (l : List Str) (m : Int) (hm : m ≤ 500) (hn : 1000 < n) : agraffelaw08_texts n l m = some (textsB l m) := by
  rw [agraffelaw08_texts, textsB]
  by_cases h : m < (l.length : Int)
  · simp [h]
  · simp only [h, decide_false, cond_false, withK_eq]
    rw [loop_any' (l := l) (p := fun s => decide (20 < s.length)) (bad := some false) (no := some true) (fun back v hv => ?_) (fun back => ?_) n (by omega)]
    · cases l.any fun s => decide (20 < s.length) <;> rfl
    · rw [agraffelaw08_texts_L1]; simp only [hv, decide_true, cond_true, nI_of (by omega : v + 1 ≤ 9223372036854775807), chk_t]
    · rw [agraffelaw08_texts_L1]; simp
theorem textsB_len {l : List Str} {m : Int} (h : textsB l m = true) : (l.length : Int) ≤ m := by
  unfold textsB at h
  simp only [Bool.and_eq_true, Bool.not_eq_true', decide_eq_false_iff_not] at h
  omega
def badT (x : Task) : Bool := ((((decide (20 < x.Name.length)) || !textsB x.Needs 13) || decide (9 < x.OneOf.length)) || decide (13 < x.Parts.length)) || (x.OneOf.any (fun g => !textsB g 9) || x.Parts.any (fun p => decide (20 < p.Part.length)))
def fewB (t : List Task) : Bool := !(((decide (9 < t.length)) && decide (t.length ≤ 60)) || decide (63 < t.length)) && !t.any badT
theorem Few_eq (t : List Task) (hn : 1000 < n) : agraffelaw08_Few n t = some (fewB t) := by
  rw [agraffelaw08_Few, fewB]
  cases hl : ((decide (9 < t.length)) && decide (t.length ≤ 60)) || decide (63 < t.length)
  · simp only [Bool.or_eq_false_iff, decide_eq_false_iff_not] at hl
    simp only [cond_false, withK_eq, Bool.not_false, Bool.true_and]
    rw [loop_any' (l := t) (p := badT) (bad := some false) (no := some true) (fun back v hv => ?_) (fun back => ?_) n (by omega)]
    · cases t.any badT <;> rfl
    · rw [agraffelaw08_Few_L3]
      simp only [hv, decide_true, cond_true, nI_of (by omega : v + 1 ≤ 9223372036854775807), chk_t, withK_eq, texts_eq (n := n) (ix t v).Needs 13 (by omega) hn, gcall_some_, Option.bind_some]
      have e : ((((decide (20 < (ix t v).Name.length)) || !(bif !decide (20 < (ix t v).Name.length) then textsB (ix t v).Needs 13 else default)) || decide (9 < (ix t v).OneOf.length)) || decide (13 < (ix t v).Parts.length)) = ((((decide (20 < (ix t v).Name.length)) || !textsB (ix t v).Needs 13) || decide (9 < (ix t v).OneOf.length)) || decide (13 < (ix t v).Parts.length)) := by
        cases decide (20 < (ix t v).Name.length) <;> simp
      rw [e]
      unfold badT
      cases hb : ((((decide (20 < (ix t v).Name.length)) || !textsB (ix t v).Needs 13) || decide (9 < (ix t v).OneOf.length)) || decide (13 < (ix t v).Parts.length))
      · simp only [Bool.or_eq_false_iff, decide_eq_false_iff_not] at hb
        simp only [cond_false, Bool.false_or]
        rw [loop_any' (l := (ix t v).OneOf) (p := fun g => !textsB g 9) (bad := some false) (no := bif (ix t v).Parts.any (fun p => decide (20 < p.Part.length)) then some false else back (v + 1)) (fun back' v' hv' => ?_) (fun back' => ?_) n (by omega)]
        · cases (ix t v).OneOf.any fun g => !textsB g 9 <;> rfl
        · rw [agraffelaw08_Few_L1]
          simp only [hv', decide_true, cond_true, chk_t, texts_eq (n := n) (ix (ix t v).OneOf v') 9 (by omega) hn, Option.bind_some, nI_of (by omega : v' + 1 ≤ 9223372036854775807)]
        · rw [agraffelaw08_Few_L1]
          simp only [Nat.lt_irrefl, decide_false, cond_false]
          rw [loop_any' (l := (ix t v).Parts) (p := fun p => decide (20 < p.Part.length)) (bad := some false) (no := back (v + 1)) (fun back' v' hv' => ?_) (fun back' => ?_) n (by omega)]
          · rw [agraffelaw08_Few_L2]
            simp only [hv', decide_true, cond_true, chk_t, nI_of (by omega : v' + 1 ≤ 9223372036854775807)]
          · rw [agraffelaw08_Few_L2]
            simp
      · simp
    · rw [agraffelaw08_Few_L3]; simp
  · simp
theorem few_ok {t : List Task} (h : fewB t = true) : OkT t := by
  unfold fewB at h
  simp only [Bool.and_eq_true, Bool.not_eq_true', Bool.or_eq_false_iff, decide_eq_false_iff_not] at h
  obtain ⟨⟨_, hl⟩, hb⟩ := h
  rw [List.any_eq_false] at hb
  have key : ∀ x ∈ t, x.Name.length ≤ 20 ∧ textsB x.Needs 13 = true ∧ x.OneOf.length ≤ 9 ∧ x.Parts.length ≤ 13 ∧ (∀ g ∈ x.OneOf, textsB g 9 = true) ∧ ∀ p ∈ x.Parts, p.Part.length ≤ 20 := by
    intro x hx
    have h1 := hb x hx
    unfold badT at h1
    simp only [Bool.not_eq_true, Bool.or_eq_false_iff, decide_eq_false_iff_not, Bool.not_eq_false', List.any_eq_false, decide_eq_true_eq, Bool.not_eq_true'] at h1
    obtain ⟨⟨⟨⟨a, b⟩, c⟩, d⟩, e, f⟩ := h1
    refine ⟨by omega, b, by omega, by omega, fun g hg => ?_, fun p hp => ?_⟩
    · have := e g hg
      simpa using this
    · have := f p hp
      omega
  refine ⟨by omega, fun x hx => (key x hx).1, fun x hx => ?_, fun x hx => (key x hx).2.2.1, fun x hx g hg => ?_, fun x hx => (key x hx).2.2.2.1, fun x hx => (key x hx).2.2.2.2.2⟩
  · have := textsB_len (key x hx).2.1; omega
  · have := textsB_len ((key x hx).2.2.2.2.1 g hg); omega
theorem Copied_eq {t : List Task} (h : OkT t) (hn : 1000 < n) : agraffelaw08_Copied n t = some t := by
  have hlen := h.len
  rw [agraffelaw08_Copied, chk_of (room_of (by omega) (by omega)), withK_eq]
  refine loop_fold' (σ := List Task) (st := fun _ => t) (len := t.length) (fun back v hv => ?_) (fun back => ?_) n (by omega) rfl
  · have hx := ix_mem hv
    have h1 := h.needs _ hx
    have h2 := h.oneof _ hx
    have h3 := h.parts _ hx
    rw [agraffelaw08_Copied_L2]
    simp only [hv, decide_true, cond_true, withK_eq, agraffebase_CopyTexts_2, set_ix hv, chk_t, room_of (b := 16) (n := (ix t v).Needs.length) (by omega) (by omega), room_of (b := 24) (n := (ix t v).Parts.length) (by omega) (by omega), Option.bind_some]
    rw [loop_fold' (σ := List (List Str)) (st := fun v' => (ix t v).OneOf.take v') (len := (ix t v).OneOf.length) (k := back (v + 1, t)) (fun back' v' hv' => ?_) (fun back' => ?_) n (by omega) (s0 := []) (by simp)]
    · rw [agraffelaw08_Copied_L1]
      have hg := h.group _ hx _ (ix_mem hv')
      simp only [set_ix hv, hv', decide_true, cond_true, chk_t, agraffebase_CopyTexts, room_of (b := 16) (n := (ix (ix t v).OneOf v').length) (by omega) (by omega), Option.bind_some, nI_of (by omega : v' + 1 ≤ 9223372036854775807)]
      rw [chk_of (room_of (by simp; omega) (by simp; omega)), List.take_succ_eq_append_getElem hv', ix_eq hv']
    · rw [agraffelaw08_Copied_L1]
      simp only [set_ix hv, Nat.lt_irrefl, decide_false, cond_false, List.take_length, nI_of (by omega : v + 1 ≤ 9223372036854775807), chk_t]
  · rw [agraffelaw08_Copied_L2]
    simp
end
section
set_option maxRecDepth 4000
open Go
theorem loop_inv {σ R : Type} {F : (σ → Option R) → σ → Option R} {P : Nat → σ → Prop} {len : Nat} (h1 : ∀ back v s, v < len → P v s → ∃ s', P (v + 1) s' ∧ F back s = back s') : ∀ n v s, v ≤ len → len - v < n → P v s → ∃ s' back, P len s' ∧ loopN F n s = F back s' := by
  intro n
  induction n with
  | zero => intro v s _ h; omega
  | succ n ih =>
    intro v s hv hn hp
    rw [loopN_s]
    by_cases h : v < len
    · obtain ⟨s', p, e⟩ := h1 (loopN F n) v s h hp
      rw [e]
      exact ih (v + 1) s' (by omega) (by omega) p
    · have : v = len := by omega
      subst this
      exact ⟨s, loopN F n, hp, rfl⟩
end
section
set_option maxRecDepth 4000
open Go
variable {n : Nat}
theorem bLt_irr (a : Str) : bLt a a = false := by
  induction a with
  | nil => rfl
  | cons x a ih => simp [bLt, Op.bytesLess] at ih ⊢; exact ih
theorem bLt_tri : ∀ (a b : Str), bLt a b = true ∨ a = b ∨ bLt b a = true
  | [], [] => .inr (.inl rfl)
  | [], y :: b => .inl (by simp [bLt, Op.bytesLess])
  | x :: a, [] => .inr (.inr (by simp [bLt, Op.bytesLess]))
  | x :: a, y :: b => by
    have ih := bLt_tri a b
    simp only [bLt, Op.bytesLess] at ih ⊢
    by_cases h : x < y
    · simp [h]
    · by_cases g : y < x
      · simp [g]
      · have : x = y := UInt8.le_antisymm (UInt8.not_lt.1 g) (UInt8.not_lt.1 h)
        subst this
        simpa [h] using ih
theorem bLt_trans : ∀ (a b c : Str), bLt a b = true → bLt b c = true → bLt a c = true
  | [], [], c, h, _ => by simp [bLt, Op.bytesLess] at h
  | [], y :: b, [], _, g => by simp [bLt, Op.bytesLess] at g
  | [], y :: b, z :: c, _, _ => by simp [bLt, Op.bytesLess]
  | x :: a, [], c, h, _ => by simp [bLt, Op.bytesLess] at h
  | x :: a, y :: b, [], _, g => by simp [bLt, Op.bytesLess] at g
  | x :: a, y :: b, z :: c, h, g => by
    have ih := bLt_trans a b c
    simp only [bLt, Op.bytesLess, Bool.or_eq_true, Bool.and_eq_true, decide_eq_true_eq, beq_iff_eq] at ih h g ⊢
    rcases h with h | ⟨h1, h2⟩
    · rcases g with g | ⟨g1, g2⟩
      · exact .inl (UInt8.lt_trans h g)
      · subst g1; exact .inl h
    · subst h1
      rcases g with g | ⟨g1, g2⟩
      · exact .inl g
      · exact .inr ⟨g1, ih h2 g2⟩
theorem bLt_asym {a b : Str} (h : bLt a b = true) : bLt b a = false := by
  cases g : bLt b a with
  | false => rfl
  | true => have := bLt_trans _ _ _ h g; rw [bLt_irr] at this; cases this
theorem bLt_not (a b : Str) : (!bLt a b) = (bLt b a || (b == a)) := by
  rcases bLt_tri a b with h | h | h
  · have g := bLt_asym h
    have : (b == a) = false := by
      rw [beq_eq_false_iff_ne]; rintro rfl; rw [bLt_irr] at h; cases h
    simp [h, g, this]
  · subst h; simp [bLt_irr]
  · simp [h, bLt_asym h]
def Asc (l : List Str) : Prop := l.Pairwise fun a b => bLt a b = true
theorem Asc.ext : ∀ {l m : List Str}, Asc l → Asc m → (∀ s, s ∈ l ↔ s ∈ m) → l = m
  | [], [], _, _, _ => rfl
  | [], y :: m, _, _, h => by have := (h y).2 (by simp); simp at this
  | x :: l, [], _, _, h => by have := (h x).1 (by simp); simp at this
  | x :: l, y :: m, h1, h2, h => by
    have g1 := List.pairwise_cons.1 h1
    have g2 := List.pairwise_cons.1 h2
    have e : x = y := by
      have a1 := (h x).1 (by simp)
      have a2 := (h y).2 (by simp)
      rcases List.mem_cons.1 a1 with c | c
      · exact c
      · rcases List.mem_cons.1 a2 with d | d
        · exact d.symm
        · have u1 := g2.1 x c
          have u2 := g1.1 y d
          rw [bLt_asym u1] at u2; cases u2
    subst e
    congr 1
    refine Asc.ext g1.2 g2.2 fun s => ?_
    have hs := h s
    simp only [List.mem_cons] at hs
    constructor
    · intro hl
      rcases hs.1 (.inr hl) with c | c
      · subst c; have := g1.1 _ hl; rw [bLt_irr] at this; cases this
      · exact c
    · intro hl
      rcases hs.2 (.inr hl) with c | c
      · subst c; have := g2.1 _ hl; rw [bLt_irr] at this; cases this
      · exact c
theorem Asc.of_ix {l : List Str} (h : ∀ v, 1 ≤ v → v < l.length → bLt (ix l (v - 1)) (ix l v) = true) : Asc l := by
  have key : ∀ d i, i + d + 1 < l.length → bLt (ix l i) (ix l (i + d + 1)) = true := by
    intro d
    induction d with
    | zero => intro i hi; exact h (i + 1) (by omega) hi
    | succ d ih => intro i hi; exact bLt_trans _ _ _ (ih i (by omega)) (h (i + (d + 1) + 1) (by omega) hi)
  rw [Asc, List.pairwise_iff_getElem]
  intro i j hi hj hij
  have := key (j - i - 1) i (by omega)
  rw [show i + (j - i - 1) + 1 = j by omega, ix_eq hi, ix_eq hj] at this
  exact this
theorem Asc.nodup {l : List Str} (h : Asc l) : l.Nodup := by
  rw [List.nodup_iff_pairwise_ne]
  refine List.Pairwise.imp ?_ h
  rintro a b hab rfl
  rw [bLt_irr] at hab; cases hab
def setE1 (t : List Task) (l : List Str) (v : Nat) : Int := bif !t.any (byName (ix l v)) then 6 else 0
def setE2 (l : List Str) (v : Nat) : Int := bif !bLt (ix l (v - 1)) (ix l v) then 9 else 0
def setE (t : List Task) (l : List Str) : Int := bif firstE (setE1 t l) 0 l.length != 0 then firstE (setE1 t l) 0 l.length else firstE (setE2 l) 1 (l.length - 1)
theorem set_loop2 {F : (Nat → Option Int) → Nat → Option Int} {l : List Str} (h1 : ∀ back v, 1 ≤ v → v < l.length → F back v = bif !bLt (ix l (v - 1)) (ix l v) then some 9 else back (v + 1)) (h2 : ∀ back v, l.length ≤ v → F back v = some 0) (hl : l.length < n) : loopN F n 1 = some (firstE (setE2 l) 1 (l.length - 1)) := by
  have main : ∀ n v, 1 ≤ v → l.length - v < n → loopN F n v = some (firstE (setE2 l) v (l.length - v)) := by
    intro n
    induction n with
    | zero => intro v _ h; omega
    | succ n ih =>
      intro v hv hn
      rw [loopN_s]
      by_cases h : v < l.length
      · rw [h1 _ _ hv h, ih (v + 1) (by omega) (by omega), show l.length - v = (l.length - (v + 1)) + 1 by omega, firstE, setE2]
        cases !bLt (ix l (v - 1)) (ix l v) <;> simp
      · rw [h2 _ _ (by omega), show l.length - v = 0 by omega]; rfl
  exact main n 1 (by omega) (by omega)
theorem set_res {t : List Task} {l : List Str} (ht : t.length ≤ 900) (hl : l.length ≤ 900) (hn : 1000 < n) : restore_list_checkSet n t l = some (setE t l) := by
  rw [restore_list_checkSet]
  simp only [withK_eq]
  rw [set_loop2 (n := n) (l := l) (fun back v h1 h2 => ?_) (fun back v h => ?_) (by omega), setE]
  · rw [loop_errs (n := n) (E := setE1 t l) (len := l.length) (k := firstE (setE2 l) 1 (l.length - 1)) (fun back v hv => ?_) (fun back => ?_) (by omega)]
    · rw [restore_list_checkSet_L1]
      simp only [hv, decide_true, cond_true, find_eq t (ix l v) (by omega : t.length < n) (by omega), Option.bind_some, findI_none, nI_of (by omega : v + 1 ≤ 9223372036854775807), chk_t, setE1]
      cases !t.any (byName (ix l v)) <;> rfl
    · rw [restore_list_checkSet_L1]; simp
  · have e : (((v : Nat) : Int) - 1).toNat = v - 1 := by omega
    rw [restore_list_checkSet_L2]
    simp only [h2, decide_true, cond_true, e, show v - 1 < l.length by omega, chk_t]
    rw [chk_of (inI_of (by omega) (by omega)), chk_of (inB_of (by omega) (by omega)), ← bLt_not, chk_of (nI_of (by omega))]
  · rw [restore_list_checkSet_L2]
    simp [show ¬ v < l.length by omega]
theorem set_ref {t : List Task} {l : List Str} (ht : t.length ≤ 900) (hl : l.length ≤ 900) (hn : 1000 < n) : agrafferef08_CheckSet n t l = some (setE t l) := by
  rw [agrafferef08_CheckSet]
  simp only [withK_eq]
  rw [set_loop2 (n := n) (l := l) (fun back v h1 h2 => ?_) (fun back v h => ?_) (by omega), setE]
  · rw [loop_errs (n := n) (E := setE1 t l) (len := l.length) (k := firstE (setE2 l) 1 (l.length - 1)) (fun back v hv => ?_) (fun back => ?_) (by omega)]
    · rw [agrafferef08_CheckSet_L1]
      simp only [hv, decide_true, cond_true, Find_eq t (ix l v) (by omega : t.length < n) (by omega), Option.bind_some, findI_none, nI_of (by omega : v + 1 ≤ 9223372036854775807), chk_t, setE1]
      cases !t.any (byName (ix l v)) <;> rfl
    · rw [agrafferef08_CheckSet_L1]; simp
  · have e : (((v : Nat) : Int) - 1).toNat = v - 1 := by omega
    rw [agrafferef08_CheckSet_L2]
    simp only [h2, decide_true, cond_true, e, show v - 1 < l.length by omega, chk_t]
    rw [chk_of (inI_of (by omega) (by omega)), chk_of (inB_of (by omega) (by omega)), chk_of (nI_of (by omega))]
  · rw [agrafferef08_CheckSet_L2]
    simp [show ¬ v < l.length by omega]
theorem set_ok {t : List Task} {l : List Str} (h : setE t l = 0) : (∀ s ∈ l, t.any (byName s) = true) ∧ Asc l := by
  unfold setE at h
  by_cases h1 : firstE (setE1 t l) 0 l.length = 0
  · rw [h1] at h
    simp only [bne_self_eq_false, cond_false] at h
    refine ⟨fun s hs => ?_, Asc.of_ix fun v h2 h3 => ?_⟩
    · obtain ⟨i, hi, rfl⟩ := List.mem_iff_getElem.1 hs
      have := firstE_zero h1 i (by omega) (by omega)
      unfold setE1 at this
      rw [ix_eq hi] at this
      cases h4 : t.any (byName l[i])
      · rw [h4] at this; simp at this
      · rfl
    · have := firstE_zero h v (by omega) (by omega)
      unfold setE2 at this
      cases h4 : bLt (ix l (v - 1)) (ix l v)
      · rw [h4] at this; simp at this
      · rfl
  · rw [bne_t h1] at h
    exact absurd h h1
theorem set_zero {t : List Task} {l : List Str} (h1 : ∀ s ∈ l, t.any (byName s) = true) (h2 : Asc l) : setE t l = 0 := by
  have e1 : ∀ m v, v + m ≤ l.length → firstE (setE1 t l) v m = 0 := by
    intro m
    induction m with
    | zero => intro v _; rfl
    | succ m ih =>
      intro v hv
      have : setE1 t l v = 0 := by
        unfold setE1
        rw [h1 _ (ix_mem (by omega : v < l.length))]; rfl
      rw [firstE, this, ih (v + 1) (by omega)]; rfl
  have e2 : ∀ m v, 1 ≤ v → v + m ≤ l.length → firstE (setE2 l) v m = 0 := by
    intro m
    induction m with
    | zero => intro v _ _; rfl
    | succ m ih =>
      intro v h0 hv
      have : setE2 l v = 0 := by
        unfold setE2
        have := List.pairwise_iff_getElem.1 h2 (v - 1) v (by omega) (by omega) (by omega)
        rw [ix_eq (by omega : v - 1 < l.length), ix_eq (by omega : v < l.length), this]; rfl
      rw [firstE, this, ih (v + 1) (by omega) (by omega)]; rfl
  unfold setE
  rw [e1 l.length 0 (by omega)]
  simp only [bne_self_eq_false, cond_false]
  cases hl : l.length with
  | zero => rfl
  | succ k => exact e2 k 1 (by omega) (by omega)
def taskOf (t : List Task) (s : Str) : Task := ix t (findI (byName s) t).toNat
theorem known_ix {t : List Task} {s : Str} (h : t.any (byName s) = true) : inB (findI (byName s) t) t.length = true ∧ (findI (byName s) t).toNat < t.length ∧ taskOf t s ∈ t ∧ (taskOf t s).Name = s := by
  have h0 : ¬ findI (byName s) t < 0 := by
    intro c
    have := findI_none (byName s) t
    rw [h] at this
    simp [c] at this
  obtain ⟨a, b, c, _⟩ := findI_pos h0
  exact ⟨inB_of a b, b, ix_mem b, eq_of_beq c⟩
def has (set : List Str) (s : Str) : Bool := set.any (isS s)
theorem has_iff {set : List Str} {s : Str} : has set s = true ↔ s ∈ set := any_isS
def closE (t : List Task) (want set : List Str) : Int :=
  bif want.any (fun s => !has set s) then 14 else bif set.any (fun s => (taskOf t s).Needs.any fun x => !has set x) then 14 else bif set.any (fun s => (taskOf t s).OneOf.any fun g => !g.any (has set)) then 12 else 0
theorem cont4 {l set : List Str} (hl : l.length ≤ 900) (hs : set.length ≤ 900) (hn : 1000 < n) : slices_ContainsFunc_string_4 n l set = some (l.any fun x => !has set x) := by
  rw [slices_ContainsFunc_string_4, slices_IndexFunc_string_4, withK_eq, loop_findI (l := l) (p := fun x => !has set x) (fun back v hv => ?_) (fun back => ?_) n (by omega)]
  · simp only [Option.bind_some, findI_any]
  · rw [slices_IndexFunc_string_4_L1]
    simp only [hv, decide_true, cond_true, restore_CheckClosure_f1, restore_in_f1, Contains_eq (n := n) set (ix l v) (by omega) (by omega), Option.bind_some, nI_of (by omega : v + 1 ≤ 9223372036854775807), chk_t]; rfl
  · rw [slices_IndexFunc_string_4_L1]; simp
theorem cont6 {l set : List Str} (hl : l.length ≤ 900) (hs : set.length ≤ 900) (hn : 1000 < n) : slices_ContainsFunc_string_6 n l set = some (l.any (has set)) := by
  rw [slices_ContainsFunc_string_6, slices_IndexFunc_string_6, withK_eq, loop_findI (l := l) (p := has set) (fun back v hv => ?_) (fun back => ?_) n (by omega)]
  · simp only [Option.bind_some, findI_any]
  · rw [slices_IndexFunc_string_6_L1]
    simp only [hv, decide_true, cond_true, restore_in_f1, Contains_eq (n := n) set (ix l v) (by omega) (by omega), Option.bind_some, nI_of (by omega : v + 1 ≤ 9223372036854775807), chk_t]; rfl
  · rw [slices_IndexFunc_string_6_L1]; simp
theorem cont5 {l : List (List Str)} {set : List Str} (hl : l.length ≤ 900) (hg : ∀ g ∈ l, g.length ≤ 900) (hs : set.length ≤ 900) (hn : 1000 < n) : slices_ContainsFunc_string_5 n l set = some (l.any fun g => !g.any (has set)) := by
  rw [slices_ContainsFunc_string_5, slices_IndexFunc_string_5, withK_eq, loop_findI (l := l) (p := fun g => !g.any (has set)) (fun back v hv => ?_) (fun back => ?_) n (by omega)]
  · simp only [Option.bind_some, findI_any]
  · rw [slices_IndexFunc_string_5_L1]
    simp only [hv, decide_true, cond_true, restore_CheckClosure_f2, cont6 (n := n) (hg _ (ix_mem hv)) hs hn, Option.bind_some, nI_of (by omega : v + 1 ≤ 9223372036854775807), chk_t]
  · rw [slices_IndexFunc_string_5_L1]; simp
theorem all_ref {l set : List Str} (hl : l.length ≤ 900) (hs : set.length ≤ 900) (hn : 1000 < n) : agrafferef08_all n l set = some (!l.any fun x => !has set x) := by
  rw [agrafferef08_all, withK_eq, loop_any' (l := l) (p := fun x => !has set x) (fun back v hv => ?_) (fun back => ?_) n (by omega)]
  · cases l.any fun x => !has set x <;> rfl
  · rw [agrafferef08_all_L1]
    simp only [hv, decide_true, cond_true, HasText_eq (n := n) set (ix l v) (by omega) (by omega), Option.bind_some, nI_of (by omega : v + 1 ≤ 9223372036854775807), chk_t]; rfl
  · rw [agrafferef08_all_L1]; simp
theorem some_ref {l set : List Str} (hl : l.length ≤ 900) (hs : set.length ≤ 900) (hn : 1000 < n) : agrafferef08_some n l set = some (l.any (has set)) := by
  rw [agrafferef08_some, withK_eq, loop_any' (l := l) (p := has set) (fun back v hv => ?_) (fun back => ?_) n (by omega)]
  · cases l.any (has set) <;> rfl
  · rw [agrafferef08_some_L1]
    simp only [hv, decide_true, cond_true, HasText_eq (n := n) set (ix l v) (by omega) (by omega), Option.bind_some, nI_of (by omega : v + 1 ≤ 9223372036854775807), chk_t]; rfl
  · rw [agrafferef08_some_L1]; simp
theorem clos_res {t : List Task} (h : OkT t) {want set : List Str} (hw : want.length ≤ 900) (hs : set.length ≤ 900) (hk : ∀ s ∈ set, t.any (byName s) = true) (hn : 1000 < n) :
    ((restore_in n set).bind fun y2 =>
    (slices_ContainsFunc_string_4 n want set).bind fun y3 =>
    bif y3 then
      some (14 : Int)
    else
      loopN (restore_CheckClosure_L1 n t set fun (_ : Unit) => loopN (restore_CheckClosure_L2 n t set fun (_ : Unit) => some 0) n 0) n 0) = some (closE t want set) := by
  have hlen := h.len
  simp only [restore_in, Option.bind_some, cont4 (n := n) hw hs hn]
  rw [closE]
  cases want.any fun s => !has set s
  · simp only [cond_false]
    rw [loop_any' (l := set) (p := fun s => (taskOf t s).Needs.any fun x => !has set x) (bad := some 14) (no := some (bif set.any (fun s => (taskOf t s).OneOf.any fun g => !g.any (has set)) then 12 else 0)) (fun back v hv => ?_) (fun back => ?_) n (by omega)]
    · cases set.any fun s => (taskOf t s).Needs.any fun x => !has set x <;> rfl
    · obtain ⟨k1, k2, k3, k4⟩ := known_ix (hk _ (ix_mem hv))
      rw [restore_CheckClosure_L1]
      simp only [hv, decide_true, cond_true, find_eq t (ix set v) (by omega : t.length < n) (by omega), Option.bind_some, k1, k2, chk_t]
      rw [show ix t (findI (byName (ix set v)) t).toNat = taskOf t (ix set v) from rfl, cont4 (n := n) (by have := h.needs _ k3; omega) hs hn]
      simp only [Option.bind_some, nI_of (by omega : v + 1 ≤ 9223372036854775807), chk_t]
    · rw [restore_CheckClosure_L1]
      simp only [Nat.lt_irrefl, decide_false, cond_false]
      rw [loop_any' (l := set) (p := fun s => (taskOf t s).OneOf.any fun g => !g.any (has set)) (bad := some 12) (no := some 0) (fun back v hv => ?_) (fun back => ?_) n (by omega)]
      · cases set.any fun s => (taskOf t s).OneOf.any fun g => !g.any (has set) <;> rfl
      · obtain ⟨k1, k2, k3, k4⟩ := known_ix (hk _ (ix_mem hv))
        rw [restore_CheckClosure_L2]
        simp only [hv, decide_true, cond_true, find_eq t (ix set v) (by omega : t.length < n) (by omega), Option.bind_some, k1, k2, chk_t]
        rw [show ix t (findI (byName (ix set v)) t).toNat = taskOf t (ix set v) from rfl, cont5 (n := n) (by have := h.oneof _ k3; omega) (fun g hg => by have := h.group _ k3 g hg; omega) hs hn]
        simp only [Option.bind_some, nI_of (by omega : v + 1 ≤ 9223372036854775807), chk_t]
      · rw [restore_CheckClosure_L2]; simp
  · rfl
theorem clos_ref {t : List Task} (h : OkT t) {want set : List Str} (hw : want.length ≤ 900) (hs : set.length ≤ 900) (hk : ∀ s ∈ set, t.any (byName s) = true) (hn : 1000 < n) : agrafferef08_Closure n t want set = some (closE t want set) := by
  have hlen := h.len
  rw [agrafferef08_Closure, all_ref hw hs hn, closE]
  simp only [Option.bind_some, Bool.not_not, withK_eq]
  cases want.any fun s => !has set s
  · simp only [cond_false]
    rw [loop_any' (l := set) (p := fun s => (taskOf t s).Needs.any fun x => !has set x) (bad := some 14) (no := some (bif set.any (fun s => (taskOf t s).OneOf.any fun g => !g.any (has set)) then 12 else 0)) (fun back v hv => ?_) (fun back => ?_) n (by omega)]
    · cases set.any fun s => (taskOf t s).Needs.any fun x => !has set x <;> rfl
    · obtain ⟨k1, k2, k3, k4⟩ := known_ix (hk _ (ix_mem hv))
      rw [agrafferef08_Closure_L1]
      simp only [hv, decide_true, cond_true, Find_eq t (ix set v) (by omega : t.length < n) (by omega), Option.bind_some, k1, k2, chk_t]
      rw [show ix t (findI (byName (ix set v)) t).toNat = taskOf t (ix set v) from rfl, all_ref (n := n) (by have := h.needs _ k3; omega) hs hn]
      simp only [Option.bind_some, Bool.not_not, nI_of (by omega : v + 1 ≤ 9223372036854775807), chk_t]
    · rw [agrafferef08_Closure_L1]
      simp only [Nat.lt_irrefl, decide_false, cond_false]
      rw [loop_any' (l := set) (p := fun s => (taskOf t s).OneOf.any fun g => !g.any (has set)) (bad := some 12) (no := some 0) (fun back v hv => ?_) (fun back => ?_) n (by omega)]
      · cases set.any fun s => (taskOf t s).OneOf.any fun g => !g.any (has set) <;> rfl
      · obtain ⟨k1, k2, k3, k4⟩ := known_ix (hk _ (ix_mem hv))
        have ho := h.oneof _ k3
        rw [agrafferef08_Closure_L3]
        simp only [hv, decide_true, cond_true, Find_eq t (ix set v) (by omega : t.length < n) (by omega), Option.bind_some, k1, k2, chk_t, withK_eq]
        rw [loop_any' (l := (taskOf t (ix set v)).OneOf) (p := fun g => !g.any (has set)) (bad := some 12) (no := back (v + 1)) (fun back2 u hu => ?_) (fun back2 => ?_) n (by omega)]
        · have hu' : u < (ix t (findI (byName (ix set v)) t).toNat).OneOf.length := hu
          have hg := h.group _ k3 _ (ix_mem hu)
          rw [agrafferef08_Closure_L2]
          simp only [hu', decide_true, cond_true, chk_t]
          rw [show ix t (findI (byName (ix set v)) t).toNat = taskOf t (ix set v) from rfl, some_ref (n := n) (by omega) hs hn]
          simp only [Option.bind_some, nI_of (by omega : u + 1 ≤ 9223372036854775807), chk_t]
        · rw [agrafferef08_Closure_L2]
          have : ¬ (taskOf t (ix set v)).OneOf.length < (ix t (findI (byName (ix set v)) t).toNat).OneOf.length := Nat.lt_irrefl _
          simp only [this, decide_false, cond_false, nI_of (by omega : v + 1 ≤ 9223372036854775807), chk_t]
      · rw [agrafferef08_Closure_L3]; simp
  · rfl
theorem sets_res {t : List Task} (h : OkT t) {ls : List (List Str)} (h1 : ls.length ≤ 900) (hl : ∀ l ∈ ls, l.length ≤ 900) (hn : 1000 < n) : restore_checkSets n t ls = some (bif tasksE n t != 0 then tasksE n t else firstE (fun v => setE t (ix ls v)) 0 ls.length) := by
  have hlen := h.len
  rw [restore_checkSets, CheckTasks_res h hn]
  simp only [Option.bind_some, withK_eq]
  rw [loop_errs (n := n) (E := fun v => setE t (ix ls v)) (len := ls.length) (k := 0) (fun back v hv => ?_) (fun back => ?_) (by omega), bif_int]
  · cases tasksE n t != 0 <;> rfl
  · rw [restore_checkSets_L1]
    simp only [hv, decide_true, cond_true, set_res (n := n) (by omega : t.length ≤ 900) (hl _ (ix_mem hv)) hn, Option.bind_some, nI_of (by omega : v + 1 ≤ 9223372036854775807), chk_t]
  · rw [restore_checkSets_L1]; simp
theorem closure_res {t : List Task} (h : OkT t) {want set : List Str} (hw : want.length ≤ 900) (hs : set.length ≤ 900) (hn : 1000 < n) : restore_CheckClosure n t want set = some (bif tasksE n t != 0 then tasksE n t else bif setE t want != 0 then setE t want else bif setE t set != 0 then setE t set else closE t want set) := by
  rw [restore_CheckClosure, sets_res h (by simp) (by simp only [List.mem_cons, List.mem_nil_iff, or_false]; rintro l (rfl | rfl) <;> assumption) hn]
  simp only [Option.bind_some, withK_eq]
  have e : firstE (fun v => setE t (ix [want, set] v)) 0 [want, set].length = bif setE t want != 0 then setE t want else setE t set := by
    show firstE _ 0 2 = _
    rw [firstE, firstE, firstE]
    show (bif setE t want != 0 then setE t want else bif setE t set != 0 then setE t set else 0) = _
    rw [bif_int]
  rw [e]
  by_cases h1 : tasksE n t = 0
  · by_cases h2 : setE t want = 0
    · by_cases h3 : setE t set = 0
      · simp only [h1, h2, h3, bne_self_eq_false, cond_false]
        exact clos_res h hw hs (set_ok h3).1 hn
      · simp [h1, h2, h3, bne_t h3]
    · simp [h1, h2, bne_t h2]
  · simp [h1, bne_t h1]
end
section
set_option maxRecDepth 4000
open Go
variable {n : Nat}
theorem mem_ix {α : Type} [Inhabited α] {l : List α} {s : α} : s ∈ l ↔ ∃ k, k < l.length ∧ ix l k = s := by
  rw [List.mem_iff_getElem]
  constructor
  · rintro ⟨i, hi, e⟩; exact ⟨i, hi, by rw [ix_eq hi, e]⟩
  · rintro ⟨i, hi, e⟩; exact ⟨i, hi, by rw [← ix_eq hi, e]⟩
theorem ix_set' {α : Type} [Inhabited α] {d : List α} {p j : Nat} {x : α} (hp : p < d.length) : ix (d.set p x) j = if p = j then x else ix d j := by
  unfold ix
  by_cases h : p = j
  · subst h; simp [hp]
  · simp [h]
def Nd (d : List Str) : Prop := ∀ p q, p < d.length → q < d.length → ix d p = ix d q → p = q
theorem Nd.of {d : List Str} (h : d.Nodup) : Nd d := by
  intro p q hp hq e
  rw [ix_eq hp, ix_eq hq] at e
  exact (List.getElem_inj h).1 e
def sw (d : List Str) (j : Nat) : List Str := List.set (List.set d j (ix d (j - 1))) (j - 1) (ix d j)
theorem sw_len (d : List Str) (j : Nat) : (sw d j).length = d.length := by simp [sw]
theorem sw_ix {d : List Str} {j : Nat} (h0 : 0 < j) (hj : j < d.length) (k : Nat) : ix (sw d j) k = if k = j - 1 then ix d j else if k = j then ix d (j - 1) else ix d k := by
  unfold sw
  rw [ix_set' (by simp; omega), ix_set' hj]
  by_cases h1 : j - 1 = k
  · simp [h1]
  · have e1 : ¬ k = j - 1 := fun c => h1 c.symm
    by_cases h2 : j = k
    · subst h2; simp [h1, e1]
    · have e2 : ¬ k = j := fun c => h2 c.symm
      simp [h1, h2, e1, e2]
theorem sw_mem {d : List Str} {j : Nat} (h0 : 0 < j) (hj : j < d.length) (s : Str) : s ∈ sw d j ↔ s ∈ d := by
  rw [mem_ix, mem_ix, sw_len]
  constructor
  · rintro ⟨k, hk, e⟩
    rw [sw_ix h0 hj] at e
    by_cases h1 : k = j - 1
    · rw [if_pos h1] at e; exact ⟨j, hj, e⟩
    · rw [if_neg h1] at e
      by_cases h2 : k = j
      · rw [if_pos h2] at e; exact ⟨j - 1, by omega, e⟩
      · rw [if_neg h2] at e; exact ⟨k, hk, e⟩
  · rintro ⟨k, hk, e⟩
    by_cases h1 : k = j - 1
    · refine ⟨j, hj, ?_⟩
      rw [sw_ix h0 hj, if_neg (by omega), if_pos rfl, ← h1, e]
    · by_cases h2 : k = j
      · refine ⟨j - 1, by omega, ?_⟩
        rw [sw_ix h0 hj, if_pos rfl, ← h2, e]
      · refine ⟨k, hk, ?_⟩
        rw [sw_ix h0 hj, if_neg h1, if_neg h2, e]
theorem sw_nd {d : List Str} {j : Nat} (h0 : 0 < j) (hj : j < d.length) (h : Nd d) : Nd (sw d j) := by
  intro p q hp hq e
  rw [sw_len] at hp hq
  rw [sw_ix h0 hj, sw_ix h0 hj] at e
  have key : ∀ a b, a < d.length → b < d.length → ix d a = ix d b → a = b := h
  by_cases p1 : p = j - 1
  · by_cases q1 : q = j - 1
    · omega
    · rw [if_pos p1, if_neg q1] at e
      by_cases q2 : q = j
      · rw [if_pos q2] at e; have := key _ _ hj (by omega) e; omega
      · rw [if_neg q2] at e; have := key _ _ hj hq e; omega
  · rw [if_neg p1] at e
    by_cases p2 : p = j
    · rw [if_pos p2] at e
      by_cases q1 : q = j - 1
      · rw [if_pos q1] at e; have := key _ _ (by omega) hj e; omega
      · rw [if_neg q1] at e
        by_cases q2 : q = j
        · omega
        · rw [if_neg q2] at e; have := key _ _ (by omega) hq e; omega
    · rw [if_neg p2] at e
      by_cases q1 : q = j - 1
      · rw [if_pos q1] at e; have := key _ _ hp hj e; omega
      · rw [if_neg q1] at e
        by_cases q2 : q = j
        · rw [if_pos q2] at e; have := key _ _ hp (by omega) e; omega
        · rw [if_neg q2] at e; exact key _ _ hp hq e
def Up (d : List Str) (i j : Nat) : Prop := ∀ p q, p < q → q ≤ i → q ≠ j → bLt (ix d p) (ix d q) = true
theorem ins_inner {k1 : List Str → Option (List Str)} {i : Nat} : ∀ m j d, j < m → j ≤ i → i < d.length → d.length ≤ 12 → Nd d → Up d i j → ∃ d', loopN (slices_insertionSortOrdered_string_L1 n 0 k1) m (((j : Nat) : Int), d) = k1 d' ∧ d'.length = d.length ∧ (∀ s, s ∈ d' ↔ s ∈ d) ∧ Nd d' ∧ Up d' i (i + 1) := by
  intro m
  induction m with
  | zero => intro j d h; omega
  | succ m ih =>
    intro j d hm hji hi hl hnd hup
    rw [loopN_s]
    have e1 : (((j : Nat) : Int) - 1).toNat = j - 1 := by omega
    have e2 : (((j : Nat) : Int)).toNat = j := by omega
    simp only [slices_insertionSortOrdered_string_L1, e1, e2, cmp_Less_string, cmp_isNaN_string, Option.bind_some, gcall_some_, BEq.rfl, Bool.not_true, Bool.false_and, Bool.false_or]
    by_cases h0 : 0 < j
    · have hd : ((0 : Int) < ((j : Nat) : Int)) := by omega
      simp only [hd, decide_true, Bool.not_true, Bool.false_or, Bool.true_and]
      rw [chk_of (inB_of (by omega) (by omega)), chk_of (by simp; omega), chk_of (inI_of (by omega) (by omega)), chk_of (inB_of (by omega) (by omega)), chk_of (by simp; omega)]
      cases hb : bLt (ix d j) (ix d (j - 1)) with
      | true =>
        simp only [cond_true]
        rw [chk_of (inI_of (by omega) (by omega)), chk_of (inB_of (by omega) (by omega)), chk_of (by simp; omega), chk_of (inB_of (by omega) (by omega)), chk_of (by simp; omega), chk_of (by simp; omega)]
        have e3 : ((j : Nat) : Int) - 1 = ((j - 1 : Nat) : Int) := by omega
        rw [e3]
        obtain ⟨d', g1, g2, g3, g4, g5⟩ := ih (j - 1) (sw d j) (by omega) (by omega) (by rw [sw_len]; exact hi) (by rw [sw_len]; exact hl) (sw_nd h0 (by omega) hnd) (fun p q hp hq hne => by
          rw [sw_ix h0 (by omega), sw_ix h0 (by omega), if_neg hne]
          by_cases q2 : q = j
          · rw [if_pos q2]
            by_cases p1 : p = j - 1
            · rw [if_pos p1]; exact hb
            · rw [if_neg p1, if_neg (by omega)]
              exact hup p (j - 1) (by omega) (by omega) (by omega)
          · rw [if_neg q2]
            by_cases p1 : p = j - 1
            · rw [if_pos p1]; exact hup j q (by omega) hq q2
            · rw [if_neg p1]
              by_cases p2 : p = j
              · rw [if_pos p2]; exact hup (j - 1) q (by omega) hq q2
              · rw [if_neg p2]; exact hup p q hp hq q2)
        refine ⟨d', g1, by rw [g2, sw_len], fun s => (g3 s).trans (sw_mem h0 (by omega) s), g4, g5⟩
      | false =>
        simp only [cond_false]
        refine ⟨d, rfl, rfl, fun _ => Iff.rfl, hnd, fun p q hp hq _ => ?_⟩
        by_cases hqj : q = j
        · have hlt : bLt (ix d (j - 1)) (ix d j) = true := by
            rcases bLt_tri (ix d j) (ix d (j - 1)) with c | c | c
            · rw [hb] at c; cases c
            · have := hnd j (j - 1) (by omega) (by omega) c; omega
            · exact c
          subst hqj
          by_cases hp1 : p = q - 1
          · rw [hp1]; exact hlt
          · exact bLt_trans _ _ _ (hup p (q - 1) (by omega) (by omega) (by omega)) hlt
        · exact hup p q hp hq hqj
    · have : j = 0 := by omega
      subst this
      simp only [Int.natCast_zero, Int.lt_irrefl, show ¬ ((0 : Int) < ((0 : Nat) : Int)) by omega, decide_false, Bool.not_false, Bool.true_or, chk_t, Bool.false_and, cond_false]
      exact ⟨d, rfl, rfl, fun _ => Iff.rfl, hnd, fun p q hp hq _ => hup p q hp hq (by omega)⟩
theorem ins_sort {l : List Str} (hl : l.length ≤ 12) (h1 : 1 ≤ l.length) (hnd : l.Nodup) (hn : 100 < n) : ∃ d, slices_insertionSortOrdered_string n l 0 ((l.length : Nat) : Int) = some d ∧ d.length = l.length ∧ (∀ s, s ∈ d ↔ s ∈ l) ∧ Asc d := by
  rw [slices_insertionSortOrdered_string, chk_of (by decide)]
  have main : ∀ m i d, 1 ≤ i → i ≤ l.length → l.length - i < m → d.length = l.length → (∀ s, s ∈ d ↔ s ∈ l) → Nd d → Up d (i - 1) i → ∃ d', loopN (slices_insertionSortOrdered_string_L2 n 0 ((l.length : Nat) : Int)) m (((i : Nat) : Int), d) = some d' ∧ d'.length = l.length ∧ (∀ s, s ∈ d' ↔ s ∈ l) ∧ Up d' (l.length - 1) l.length := by
    intro m
    induction m with
    | zero => intro i d _ _ h; omega
    | succ m ih =>
      intro i d hi hil hm hd hmem hndd hup
      rw [loopN_s]
      by_cases h : i < l.length
      · have hlt : ((i : Nat) : Int) < ((l.length : Nat) : Int) := by omega
        simp only [slices_insertionSortOrdered_string_L2, hlt, decide_true, cond_true, withK_eq]
        obtain ⟨d', g1, g2, g3, g4, g5⟩ := ins_inner (n := n) (i := i) (k1 := fun v12 => chk (inI (((i : Nat) : Int) + 1)) (loopN (slices_insertionSortOrdered_string_L2 n 0 ((l.length : Nat) : Int)) m (((i : Nat) : Int) + 1, v12))) n i d (by omega) (Nat.le_refl _) (by omega) (by omega) hndd (fun p q hp hq hne => hup p q hp (by omega) hne)
        rw [g1, chk_of (inI_of (by omega) (by omega)), show ((i : Nat) : Int) + 1 = ((i + 1 : Nat) : Int) by omega]
        exact ih (i + 1) d' (by omega) (by omega) (by omega) (by omega) (fun s => (g3 s).trans (hmem s)) g4 (by simpa using g5)
      · have hlt : ¬ ((i : Nat) : Int) < ((l.length : Nat) : Int) := by omega
        have : i = l.length := by omega
        subst this
        simp only [slices_insertionSortOrdered_string_L2, hlt, decide_false, cond_false]
        exact ⟨d, rfl, hd, hmem, hup⟩
  obtain ⟨d, g1, g2, g3, g4⟩ := main n 1 l (by omega) h1 (by omega) rfl (fun _ => Iff.rfl) (Nd.of hnd) (fun p q hp hq _ => by omega)
  refine ⟨d, g1, g2, g3, Asc.of_ix fun v a b => g4 (v - 1) v (by omega) (by omega) (by omega)⟩
theorem bits_all : ∀ k : Fin 13, (math_bits_Len 0 (IntKind.u64.wrap ((k.val : Nat) : Int))).isSome = true := by decide +kernel
theorem bits_n (n : Nat) (x : Int) : math_bits_Len n x = math_bits_Len 0 x := by delta math_bits_Len math_bits_Len64; rfl
theorem bits_ok {k : Nat} (hk : k ≤ 12) : ∃ y, math_bits_Len n (IntKind.u64.wrap ((k : Nat) : Int)) = some y := by
  have := bits_all ⟨k, by omega⟩
  rw [bits_n]
  exact Option.isSome_iff_exists.1 this
theorem sort_eq {l : List Str} (hl : l.length ≤ 12) (hnd : l.Nodup) (hn : 100 < n) : ∃ d, slices_Sort_string n l = some d ∧ d.length = l.length ∧ (∀ s, s ∈ d ↔ s ∈ l) ∧ Asc d := by
  obtain ⟨y, hy⟩ := bits_ok (n := n) hl
  rw [slices_Sort_string, hy]
  simp only [Option.bind_some]
  obtain ⟨n', rfl⟩ : ∃ n', n = n' + 1 := ⟨n - 1, by omega⟩
  have hle : ((l.length : Nat) : Int) - 0 ≤ 12 := by omega
  by_cases h1 : 1 ≤ l.length
  · obtain ⟨d, g1, g2, g3, g4⟩ := ins_sort (n := n' + 1) hl h1 hnd hn
    refine ⟨d, ?_, g2, g3, g4⟩
    rw [slices_pdqsortOrdered_string, loopN_s, slices_pdqsortOrdered_string_L1, chk_of (inI_of (by omega) (by omega))]
    simp only [hle, decide_true, cond_true, g1, Option.bind_some, g2, chk_t]
  · have : l = [] := List.eq_nil_of_length_eq_zero (by omega)
    subst this
    refine ⟨[], ?_, rfl, fun _ => Iff.rfl, List.Pairwise.nil⟩
    rw [slices_pdqsortOrdered_string, loopN_s, slices_pdqsortOrdered_string_L1, chk_of (inI_of (by simp) (by simp))]
    simp [slices_insertionSortOrdered_string, loopN_s, slices_insertionSortOrdered_string_L2, inI]
end
section
set_option maxRecDepth 4000
open Go
variable {n : Nat}
def firstOf (x : Task) : List Str := x.Needs ++ x.OneOf.map fun g => ix g 0
def nx (t : List Task) (s : Str) : List Str := firstOf (taskOf t s)
structure Right (t : List Task) : Prop where
  ok : OkT t
  known : ∀ x ∈ t, ∀ s ∈ firstOf x, t.any (byName s) = true
  group : ∀ x ∈ t, ∀ g ∈ x.OneOf, 0 < g.length
def Kn (t : List Task) (l : List Str) : Prop := ∀ s ∈ l, t.any (byName s) = true
def mk (ks : List Str) : List (Str × Bool) := ks.map fun s => (s, true)
theorem lookup_mk (s : Str) : ∀ ks : List Str, Option.getD (List.lookup s (mk ks)) false = has ks s
  | [] => rfl
  | k :: ks => by
    have ih := lookup_mk s ks
    simp only [mk, List.map_cons, List.lookup_cons, has, List.any_cons] at ih ⊢
    rw [isS_comm s k]
    cases isS s k
    · simpa using ih
    · rfl
theorem mPut_mk (s : Str) : ∀ ks : List Str, s ∉ ks → mPut s true (mk ks) = mk (ks ++ [s])
  | [], _ => rfl
  | k :: ks, h => by
    have ih := mPut_mk s ks (fun c => h (by simp [c]))
    have hne : (s == k) = false := by
      rw [beq_eq_false_iff_ne]; rintro rfl; exact h (by simp)
    simp only [mk, List.map_cons, mPut, hne, List.cons_append] at ih ⊢
    rw [ih]
structure Tk (t : List Task) (A ks ks' : List Str) : Prop where
  nd : ks'.Nodup
  kn : Kn t ks'
  sub : ∀ x ∈ ks, x ∈ ks'
  seed : ∀ a ∈ A, a ∈ ks'
  cl : ∀ x ∈ ks', x ∈ ks ∨ ∀ y ∈ nx t x, y ∈ ks'
  least : ∀ C : Str → Prop, (∀ x, C x → ∀ y ∈ nx t x, C y) → (∀ a ∈ A, C a) → ∀ x ∈ ks', x ∈ ks ∨ C x
theorem Tk.refl {t : List Task} {ks : List Str} (h1 : ks.Nodup) (h2 : Kn t ks) : Tk t [] ks ks := ⟨h1, h2, fun _ h => h, by simp, fun _ h => .inl h, fun _ _ _ _ h => .inl h⟩
theorem Tk.trans {t : List Task} {A B ks k1 k2 : List Str} (h : Tk t A ks k1) (g : Tk t B k1 k2) : Tk t (A ++ B) ks k2 where
  nd := g.nd
  kn := g.kn
  sub := fun x hx => g.sub x (h.sub x hx)
  seed := fun a ha => by
    rcases List.mem_append.1 ha with c | c
    · exact g.sub a (h.seed a c)
    · exact g.seed a c
  cl := fun x hx => by
    rcases g.cl x hx with c | c
    · rcases h.cl x c with d | d
      · exact .inl d
      · exact .inr fun y hy => g.sub y (d y hy)
    · exact .inr c
  least := fun C hC hA x hx => by
    rcases g.least C hC (fun a ha => hA a (by simp [ha])) x hx with c | c
    · exact h.least C hC (fun a ha => hA a (by simp [ha])) x c
    · exact .inr c
theorem Tk.len {t : List Task} {A ks ks' : List Str} (h : Tk t A ks ks') : ks'.length ≤ t.length := Inv.len ⟨h.nd, h.kn⟩
theorem Tk.grow {t : List Task} {A ks ks' : List Str} (h : Tk t A ks ks') (hn : ks.Nodup) : ks.length ≤ ks'.length := nodup_len ks ks' hn h.sub
theorem take_spec {t : List Task} (ht : Right t) (hn : 1000 < n) : ∀ m s ks, ks.Nodup → Kn t ks → t.any (byName s) = true → t.length - ks.length < m → ∃ ks', loopN (restore_ByFirst_f1_F n) m (s, mk ks, t) = some (mk ks') ∧ Tk t [s] ks ks' := by
  have hlen := ht.ok.len
  intro m
  induction m with
  | zero => intro s ks _ _ _ h; omega
  | succ m ih =>
    intro s ks hnd hkn hs hm
    rw [loopN_s]
    simp only [restore_ByFirst_f1_F, lookup_mk]
    by_cases hin : s ∈ ks
    · rw [has_iff.2 hin]
      refine ⟨ks, rfl, ⟨hnd, hkn, fun _ h => h, fun a ha => ?_, fun _ h => .inl h, fun _ _ _ _ h => .inl h⟩⟩
      rw [List.mem_singleton] at ha; subst ha; exact hin
    · have hf : has ks s = false := by
        cases c : has ks s with
        | false => rfl
        | true => exact absurd (has_iff.1 c) hin
      rw [hf]
      obtain ⟨k1, k2, k3, k4⟩ := known_ix hs
      simp only [cond_false, find_eq t s (by omega : t.length < n) (by omega), Option.bind_some, k1, k2, decide_true, chk_t, withK_eq, mPut_mk s ks hin]
      have hbase : Tk t [] (ks ++ [s]) (ks ++ [s]) := Tk.refl (by
        rw [List.nodup_append]
        exact ⟨hnd, by simp, fun a ha b hb => by rw [List.mem_singleton] at hb; subst hb; rintro rfl; exact hin ha⟩) (fun x hx => by
        rcases List.mem_append.1 hx with c | c
        · exact hkn x c
        · rw [List.mem_singleton] at c; subst c; exact hs)
      have hbl := hbase.len
      simp only [List.length_append, List.length_singleton] at hbl
      have hknx : ∀ y ∈ firstOf (taskOf t s), t.any (byName y) = true := ht.known _ k3
      have hN := ht.ok.needs _ k3
      have hO := ht.ok.oneof _ k3
      obtain ⟨s1, back1, ⟨ka, e1, t1⟩, r1⟩ := loop_inv (F := restore_ByFirst_f1_L1 t (loopN (restore_ByFirst_f1_F n) m) (findI (byName s) t) fun v6 => loopN (restore_ByFirst_f1_L2 t (loopN (restore_ByFirst_f1_F n) m) (findI (byName s) t)) n (0, v6)) (len := (taskOf t s).Needs.length) (P := fun v st => ∃ kb, st = (v, mk kb) ∧ Tk t ((taskOf t s).Needs.take v) (ks ++ [s]) kb) (fun back v st hv hP => by
        obtain ⟨kb, e, tk⟩ := hP
        subst e
        have hg := tk.grow hbase.nd
        simp only [List.length_append, List.length_singleton] at hg
        obtain ⟨kc, e2, tk2⟩ := ih (ix (taskOf t s).Needs v) kb tk.nd tk.kn (hknx _ (by rw [firstOf, List.mem_append]; exact .inl (ix_mem hv))) (by omega)
        refine ⟨(v + 1, mk kc), ⟨kc, rfl, ?_⟩, ?_⟩
        · rw [List.take_succ_eq_append_getElem hv, ← ix_eq hv]
          exact tk.trans tk2
        · have hv' : v < (ix t (findI (byName s) t).toNat).Needs.length := hv
          have e2' : loopN (restore_ByFirst_f1_F n) m (ix (ix t (findI (byName s) t).toNat).Needs v, mk kb, t) = some (mk kc) := e2
          simp only [restore_ByFirst_f1_L1, hv', decide_true, cond_true, chk_t, e2', Option.bind_some, nI_of (by omega : v + 1 ≤ 9223372036854775807)]) n 0 (0, mk (ks ++ [s])) (by omega) (by omega) ⟨ks ++ [s], rfl, by simpa using hbase⟩
      subst e1
      rw [r1]
      have hnl : ¬ (taskOf t s).Needs.length < (ix t (findI (byName s) t).toNat).Needs.length := Nat.lt_irrefl _
      simp only [restore_ByFirst_f1_L1, hnl, decide_false, cond_false]
      rw [List.take_length] at t1
      obtain ⟨s2, back2, ⟨kz, e3, t3⟩, r2⟩ := loop_inv (F := restore_ByFirst_f1_L2 t (loopN (restore_ByFirst_f1_F n) m) (findI (byName s) t)) (len := (taskOf t s).OneOf.length) (P := fun v st => ∃ kb, st = (v, mk kb) ∧ Tk t (((taskOf t s).OneOf.map fun g => ix g 0).take v) ka kb) (fun back v st hv hP => by
        obtain ⟨kb, e, tk⟩ := hP
        subst e
        have hg := tk.grow t1.nd
        have hg1 := t1.grow hbase.nd
        simp only [List.length_append, List.length_singleton] at hg1
        have hm' : v < ((taskOf t s).OneOf.map fun g => ix g 0).length := by simpa using hv
        have hx : ix ((taskOf t s).OneOf.map fun g => ix g 0) v = ix (ix (taskOf t s).OneOf v) 0 := by
          rw [ix_eq hm', List.getElem_map, ix_eq hv]
        obtain ⟨kc, e2, tk2⟩ := ih (ix (ix (taskOf t s).OneOf v) 0) kb tk.nd tk.kn (hknx _ (by rw [firstOf, List.mem_append, ← hx]; exact .inr (ix_mem hm'))) (by omega)
        refine ⟨(v + 1, mk kc), ⟨kc, rfl, ?_⟩, ?_⟩
        · rw [List.take_succ_eq_append_getElem hm', ← ix_eq hm', hx]
          exact tk.trans tk2
        · have hv' : v < (ix t (findI (byName s) t).toNat).OneOf.length := hv
          have h0 : 0 < (ix (ix t (findI (byName s) t).toNat).OneOf v).length := ht.group _ k3 _ (ix_mem hv)
          have e2' : loopN (restore_ByFirst_f1_F n) m (ix (ix (ix t (findI (byName s) t).toNat).OneOf v) 0, mk kb, t) = some (mk kc) := e2
          simp only [restore_ByFirst_f1_L2, hv', h0, decide_true, cond_true, chk_t, e2', Option.bind_some, nI_of (by omega : v + 1 ≤ 9223372036854775807)]) n 0 (0, mk ka) (by omega) (by omega) ⟨ka, rfl, by simpa using Tk.refl t1.nd t1.kn⟩
      subst e3
      rw [r2]
      have hol : ¬ (taskOf t s).OneOf.length < (ix t (findI (byName s) t).toNat).OneOf.length := Nat.lt_irrefl _
      simp only [restore_ByFirst_f1_L2, hol, decide_false, cond_false]
      have t3' : Tk t ((taskOf t s).OneOf.map fun g => ix g 0) ka kz := by
        have : ((taskOf t s).OneOf.map fun g => ix g 0).take (taskOf t s).OneOf.length = (taskOf t s).OneOf.map fun g => ix g 0 := by
          rw [List.take_of_length_le (by simp)]
        rw [this] at t3; exact t3
      have tt : Tk t (nx t s) (ks ++ [s]) kz := t1.trans t3'
      refine ⟨kz, rfl, ⟨tt.nd, tt.kn, fun x hx => tt.sub x (by simp [hx]), fun a ha => ?_, fun x hx => ?_, fun C hC hA x hx => ?_⟩⟩
      · rw [List.mem_singleton] at ha; subst ha; exact tt.sub a (by simp)
      · rcases tt.cl x hx with c | c
        · rcases List.mem_append.1 c with d | d
          · exact .inl d
          · rw [List.mem_singleton] at d; subst d; exact .inr tt.seed
        · exact .inr c
      · have hCs : C s := hA s (by simp)
        rcases tt.least C hC (fun a ha => hC s hCs a ha) x hx with c | c
        · rcases List.mem_append.1 c with d | d
          · exact .inl d
          · rw [List.mem_singleton] at d; subst d; exact .inr hCs
        · exact .inr c
theorem wanted_spec {t : List Task} (ht : Right t) {want : List Str} (hw : want.length ≤ 900) (hk : Kn t want) (hn : 1000 < n) (kk : List (Str × Bool) → Option (Int × List Str)) : ∃ ks, Tk t want [] ks ∧ loopN (restore_ByFirst_L1 n t want kk) n (0, []) = kk (mk ks) := by
  have hlen := ht.ok.len
  · 
    obtain ⟨s2, back2, ⟨kz, e3, t3⟩, r2⟩ := loop_inv (F := restore_ByFirst_L1 n t want kk) (len := want.length) (P := fun v st => ∃ kb, st = (v, mk kb) ∧ Tk t (want.take v) [] kb) (fun back v st hv hP => by
      obtain ⟨kb, e, tk⟩ := hP
      subst e
      obtain ⟨kc, e2, tk2⟩ := take_spec ht hn n (ix want v) kb tk.nd tk.kn (hk _ (ix_mem hv)) (by omega)
      refine ⟨(v + 1, mk kc), ⟨kc, rfl, ?_⟩, ?_⟩
      · rw [List.take_succ_eq_append_getElem hv, ← ix_eq hv]
        exact tk.trans tk2
      · simp only [restore_ByFirst_L1, hv, decide_true, cond_true, restore_ByFirst_f1, e2, Option.bind_some, nI_of (by omega : v + 1 ≤ 9223372036854775807), chk_t]) n 0 (0, []) (by omega) (by omega) ⟨[], rfl, by simpa using Tk.refl (t := t) List.nodup_nil (by intro s hs; simp at hs)⟩
    subst e3
    rw [List.take_length] at t3
    refine ⟨kz, t3, ?_⟩
    rw [r2]
    simp [restore_ByFirst_L1]
end
section
set_option maxRecDepth 4000
open Go
variable {n : Nat}
theorem erase_perm {α : Type} : ∀ (l : List α) (j : Nat) (x : α), l[j]? = some x → (x :: l.eraseIdx j).Perm l
  | [], j, x, h => by simp at h
  | y :: l, 0, x, h => by
    simp only [List.getElem?_cons_zero, Option.some.injEq] at h
    subst h; exact List.Perm.refl _
  | y :: l, j + 1, x, h => by
    simp only [List.getElem?_cons_succ] at h
    rw [List.eraseIdx_cons_succ]
    exact (List.Perm.swap y x _).trans ((erase_perm l j x h).cons y)
theorem rng_loop {ks : List Str} (hl : ks.length ≤ 900) {k2 : List Str → Option (Int × List Str)} {r : Int × List Str} (hk : ∀ out, out.Perm ks → k2 out = some r) : ∀ m out cur left, left.length < m → (out ++ left.map Prod.fst).Perm ks → loopN (restore_ByFirst_L2 k2) m (out, cur, left) = some r := by
  intro m
  induction m with
  | zero => intro out cur left h; omega
  | succ m ih =>
    intro out cur left hm hp
    rw [loopN_s]
    simp only [restore_ByFirst_L2]
    cases left with
    | nil =>
      simp only [List.length_nil, decide_true, cond_true]
      exact hk out (by simpa using hp)
    | cons x0 rest =>
      simp only [List.length_cons, show ¬ rest.length + 1 = 0 by omega, decide_false, cond_false]
      refine pickK_of (by simp) fun j x hj => ?_
      have hpl := hp.length_eq
      simp only [List.length_append, List.length_map, List.length_cons] at hpl
      rw [chk_of (room_of (by simp; omega) (by simp; omega))]
      have hjl : j < (x0 :: rest).length := (List.getElem?_eq_some_iff.1 hj).1
      have hx : (x0 :: rest)[j] = x := (List.getElem?_eq_some_iff.1 hj).2
      refine ih _ _ _ (by rw [List.length_eraseIdx_of_lt hjl]; simp only [List.length_cons] at hm ⊢; omega) (List.Perm.trans ?_ hp)
      rw [List.append_assoc]
      refine List.Perm.append_left out ?_
      have := (erase_perm _ _ _ hj).map Prod.fst
      simpa using this
theorem byFirst_res {t : List Task} (ht : Right t) (h9 : t.length ≤ 12) (h0 : tasksE n t = 0) {want : List Str} (hw : want.length ≤ 900) (hs : setE t want = 0) (hn : 1000 < n) :
    ∃ d ks, restore_ByFirst n t want = some (0, d) ∧ Asc d ∧ Tk t want [] ks ∧ (∀ s, s ∈ d ↔ s ∈ ks) := by
  rw [restore_ByFirst, sets_res ht.ok (by simp) (by simp only [List.mem_cons, List.mem_nil_iff, or_false]; rintro l rfl; exact hw) hn, h0]
  have e : firstE (fun v => setE t (ix [want] v)) 0 [want].length = 0 := by
    show (bif setE t want != 0 then setE t want else 0) = 0
    rw [hs]; rfl
  simp only [bne_self_eq_false, cond_false, e, Option.bind_some, withK_eq]
  obtain ⟨ks, tk, e1⟩ := wanted_spec ht hw (set_ok hs).1 hn (fun v6 => loopN (restore_ByFirst_L2 fun v14 => (slices_Sort_string n v14).bind fun y15 => chk (decide (v14.length = y15.length)) <| some (0, y15)) n ([], none, v6))
  rw [e1]
  have hkl := tk.len
  obtain ⟨d, g1, g2, g3, g4⟩ := sort_eq (n := n) (l := ks) (by omega) tk.nd (by omega)
  refine ⟨d, ks, ?_, g4, tk, g3⟩
  refine rng_loop (ks := ks) (by omega) (fun out hp => ?_) n _ _ _ (by simp [mk]; omega) (by simp [mk, Function.comp_def])
  obtain ⟨d', q1, q2, q3, q4⟩ := sort_eq (n := n) (l := out) (by have := hp.length_eq; omega) (hp.nodup_iff.2 tk.nd) (by omega)
  have : d' = d := q4.ext g4 fun s => (q3 s).trans (hp.mem_iff.trans (g3 s).symm)
  subst this
  simp [q1, q2]
theorem Asc.snoc {l : List Str} {y : Str} (h : Asc l) (hy : ∀ x ∈ l, bLt x y = true) : Asc (l ++ [y]) := by
  rw [Asc, List.pairwise_append]
  exact ⟨h, by simp, fun a ha b hb => by rw [List.mem_singleton] at hb; subst hb; exact hy a ha⟩
theorem Asc.take_lt {l : List Str} (h : Asc l) {v : Nat} (hv : v < l.length) : ∀ x ∈ l.take v, bLt x (ix l v) = true := by
  intro x hx
  obtain ⟨i, hi, rfl⟩ := List.mem_iff_getElem.1 hx
  have hi2 : i < v ∧ i < l.length := by
    have := hi
    simp only [List.length_take] at this; omega
  rw [List.getElem_take, ix_eq hv]
  exact List.pairwise_iff_getElem.1 h i v hi2.2 hv hi2.1
theorem mem_take_succ {l : List Str} {v : Nat} (hv : v < l.length) {x : Str} : x ∈ l.take (v + 1) ↔ x ∈ l.take v ∨ x = ix l v := by
  rw [List.take_succ_eq_append_getElem hv, List.mem_append, List.mem_singleton, ix_eq hv]
theorem put_spec {l : List Str} {s : Str} (ha : Asc l) (hs : s ∉ l) (hl : l.length ≤ 900) (hn : 1000 < n) : ∃ d, agrafferef08_Put n l s = some d ∧ Asc d ∧ (∀ x, x ∈ d ↔ x ∈ l ∨ x = s) ∧ d.length = l.length + 1 := by
  rw [agrafferef08_Put]
  simp only [withK_eq]
  obtain ⟨s2, back2, ⟨out, dn, e3, p1, p2, p3, p4, p5⟩, r2⟩ := loop_inv (F := agrafferef08_Put_L1 l s fun t => match t with
      | (v8, v9) => bif !v8 then chk (room 16 (v9 ++ ([s] : List Str)).length) (some (v9 ++ ([s] : List Str))) else some v9) (len := l.length) (P := fun v st => ∃ out dn, st = (out, dn, v) ∧ Asc out ∧ (∀ x, x ∈ out ↔ x ∈ l.take v ∨ (dn = true ∧ x = s)) ∧ (dn = false → ∀ x ∈ l.take v, bLt x s = true) ∧ (dn = true → ∀ u, v ≤ u → u < l.length → bLt s (ix l u) = true) ∧ out.length = v + (bif dn then 1 else 0)) (fun back v st hv hP => by
    obtain ⟨out, dn, e, p1, p2, p3, p4, p5⟩ := hP
    subst e
    have hne : ix l v ≠ s := fun c => hs (c ▸ ix_mem hv)
    have hlt := ha.take_lt hv
    have hol : out.length ≤ v + 1 := by rw [p5]; cases dn <;> simp
    cases dn with
    | true =>
      refine ⟨(out ++ [ix l v], true, v + 1), ⟨_, _, rfl, p1.snoc fun x hx => ?_, fun x => ?_, fun c => (by cases c), fun _ u h1 h2 => p4 rfl u (by omega) h2, ?_⟩, ?_⟩
      · rcases (p2 x).1 hx with c | ⟨_, c⟩
        · exact hlt x c
        · subst c; exact p4 rfl v (Nat.le_refl _) hv
      · rw [List.mem_append, List.mem_singleton, p2, mem_take_succ hv]
        constructor
        · rintro ((c | c) | c)
          · exact .inl (.inl c)
          · exact .inr c
          · exact .inl (.inr c)
        · rintro ((c | c) | c)
          · exact .inl (.inl c)
          · exact .inr c
          · exact .inl (.inr c)
      · simp only [cond_true] at p5 ⊢
        simp only [List.length_append, List.length_singleton]; omega
      · simp only [agrafferef08_Put_L1, hv, decide_true, cond_true, withK_eq, Bool.not_true, Bool.false_and, cond_false]
        rw [chk_of (room_of (by simp; omega) (by simp; omega)), chk_of (nI_of (by omega))]
    | false =>
      have hb : ((ix l v) == s) = false := by rw [beq_eq_false_iff_ne]; exact hne
      cases hc : bLt (ix l v) s with
      | true =>
        refine ⟨(out ++ [ix l v], false, v + 1), ⟨_, _, rfl, p1.snoc fun x hx => ?_, fun x => ?_, fun _ x hx => ?_, fun c => (by cases c), ?_⟩, ?_⟩
        · rcases (p2 x).1 hx with c | ⟨c, _⟩
          · exact hlt x c
          · cases c
        · rw [List.mem_append, List.mem_singleton, p2, mem_take_succ hv]
          simp
        · rcases (mem_take_succ hv).1 hx with c | c
          · exact p3 rfl x c
          · subst c; exact hc
        · simp only [cond_false] at p5 ⊢
          simp only [List.length_append, List.length_singleton]; omega
        · simp only [agrafferef08_Put_L1, hv, decide_true, cond_true, withK_eq, hc, Bool.not_true, Bool.and_false, cond_false]
          rw [chk_of (room_of (by simp; omega) (by simp; omega)), chk_of (nI_of (by omega))]
      | false =>
        have hsy : bLt s (ix l v) = true := by
          rcases bLt_tri s (ix l v) with c | c | c
          · exact c
          · exact absurd c.symm hne
          · rw [hc] at c; cases c
        have q1 : Asc (out ++ [s]) := p1.snoc fun x hx => by
          rcases (p2 x).1 hx with c | ⟨c, _⟩
          · exact p3 rfl x c
          · cases c
        refine ⟨((out ++ [s]) ++ [ix l v], true, v + 1), ⟨_, _, rfl, q1.snoc fun x hx => ?_, fun x => ?_, fun c => (by cases c), fun _ u h1 h2 => ?_, ?_⟩, ?_⟩
        · rcases List.mem_append.1 hx with c | c
          · rcases (p2 x).1 c with d | ⟨d, _⟩
            · exact hlt x d
            · cases d
          · rw [List.mem_singleton] at c; subst c; exact hsy
        · rw [List.mem_append, List.mem_append, List.mem_singleton, List.mem_singleton, p2, mem_take_succ hv]
          simp only [Bool.false_eq_true, false_and, or_false, true_and]
          constructor
          · rintro ((c | c) | c)
            · exact .inl (.inl c)
            · exact .inr c
            · exact .inl (.inr c)
          · rintro ((c | c) | c)
            · exact .inl (.inl c)
            · exact .inr c
            · exact .inl (.inr c)
        · have : bLt (ix l v) (ix l u) = true := by
            rw [ix_eq hv, ix_eq h2]
            exact List.pairwise_iff_getElem.1 ha v u hv h2 (by omega)
          exact bLt_trans _ _ _ hsy this
        · simp only [cond_false] at p5
          simp only [cond_true, List.length_append, List.length_singleton]; omega
        · simp only [agrafferef08_Put_L1, hv, decide_true, cond_true, withK_eq, hc, hb, Bool.not_false, Bool.and_self]
          rw [chk_of (room_of (by simp; omega) (by simp; omega)), chk_of (room_of (by simp; omega) (by simp; omega)), chk_of (nI_of (by omega))]) n 0 ([], false, 0) (by omega) (by omega) ⟨[], false, rfl, List.Pairwise.nil, by simp, by simp, by simp, rfl⟩
  subst e3
  rw [r2]
  rw [List.take_length] at p2 p3
  simp only [agrafferef08_Put_L1, Nat.lt_irrefl, decide_false, cond_false]
  cases dn with
  | true =>
    refine ⟨out, rfl, p1, fun x => ?_, by rw [p5]; rfl⟩
    rw [p2]; simp
  | false =>
    simp only [Bool.not_false, cond_true]
    have : out.length = l.length := by rw [p5]; rfl
    rw [chk_of (room_of (by simp; omega) (by simp; omega))]
    refine ⟨out ++ [s], rfl, p1.snoc fun x hx => ?_, fun x => ?_, by simp [this]⟩
    · rcases (p2 x).1 hx with c | ⟨c, _⟩
      · exact p3 rfl x c
      · cases c
    · rw [List.mem_append, List.mem_singleton, p2]; simp
end
section
set_option maxRecDepth 4000
open Go
variable {n : Nat}
theorem task_facts {t : List Task} {i : Nat} (h : taskE t i = 0) : ¬ findI (byName (ix t i).Name) t < (i : Int) ∧ firstE (grpE t (ix t i).OneOf) 0 (ix t i).OneOf.length = 0 := by
  unfold taskE at h
  cases h1 : nameB (ix t i).Name
  · simp [h1] at h
  rw [h1] at h
  simp only [Bool.not_true, cond_false] at h
  cases h2 : decide (findI (byName (ix t i).Name) t < (i : Int))
  · rw [h2] at h
    simp only [cond_false] at h
    refine ⟨of_decide_eq_false h2, ?_⟩
    cases h3 : (!((decide (0 ≤ (ix t i).Cents)) && (decide ((ix t i).Cents ≤ 1000000000)))) || (!((decide (0 ≤ (ix t i).Hours)) && (decide ((ix t i).Hours ≤ 10000))))
    · rw [h3] at h
      simp only [cond_false] at h
      cases h4 : large (ix t i)
      · rw [h4] at h
        simp only [cond_false] at h
        by_cases h5 : known t (ix t i).Needs = 0
        · simp only [h5, bne_self_eq_false, cond_false] at h
          by_cases h6 : firstE (grpE t (ix t i).OneOf) 0 (ix t i).OneOf.length = 0
          · exact h6
          · rw [bne_t h6, cond_true] at h; exact absurd h h6
        · rw [bne_t h5, cond_true] at h; exact absurd h h5
      · rw [h4] at h; simp at h
    · rw [h3] at h; simp at h
  · rw [h2] at h; simp at h
theorem tasks_zero {t : List Task} (h : tasksE n t = 0) : t.length ≤ 60 ∧ ∀ i, i < t.length → taskE t i = 0 := by
  unfold tasksE at h
  by_cases h1 : 60 < t.length
  · simp [h1] at h
  · simp only [h1, decide_false, cond_false] at h
    by_cases h2 : firstE (taskE t) 0 t.length = 0
    · exact ⟨by omega, fun i hi => firstE_zero h2 i (by omega) (by omega)⟩
    · rw [bne_t h2, cond_true] at h; exact absurd h h2
theorem right_of {t : List Task} (ok : OkT t) (h : tasksE n t = 0) : Right t := by
  obtain ⟨_, h1⟩ := tasks_zero h
  have hg : ∀ i, i < t.length → ∀ g ∈ (ix t i).OneOf, 0 < g.length := by
    intro i hi g hg
    obtain ⟨k, hk, rfl⟩ := List.mem_iff_getElem.1 hg
    have := firstE_zero (task_facts (h1 i hi)).2 k (by omega) (by omega)
    unfold grpE at this
    rw [ix_eq hk] at this
    by_cases c : (ix t i).OneOf[k].length = 0
    · rw [c] at this; simp at this
    · omega
  refine ⟨ok, fun x hx s hs => ?_, fun x hx g hgx => ?_⟩
  · obtain ⟨i, hi, rfl⟩ := mem_ix.1 hx
    refine lead_known hi (h1 i hi) s ?_
    rw [firstOf, List.mem_append] at hs
    rw [leads, List.mem_append]
    rcases hs with c | c
    · exact .inl c
    · rw [List.mem_map] at c
      obtain ⟨g, hgm, rfl⟩ := c
      exact .inr (List.mem_flatten.2 ⟨g, hgm, ix_mem (hg i hi g hgm)⟩)
  · obtain ⟨i, hi, rfl⟩ := mem_ix.1 hx
    exact hg i hi g hgx
theorem uniq_of {t : List Task} (h : tasksE n t = 0) {i : Nat} (hi : i < t.length) : taskOf t (ix t i).Name = ix t i := by
  obtain ⟨_, h1⟩ := tasks_zero h
  have h2 := (task_facts (h1 i hi)).1
  have h3 : ¬ findI (byName (ix t i).Name) t < 0 := by omega
  obtain ⟨a, b, c, d⟩ := findI_pos h3
  by_cases e : (findI (byName (ix t i).Name) t).toNat = i
  · unfold taskOf; rw [e]
  · have := d i (by omega)
    simp [byName] at this
structure Rs (t : List Task) (out0 out : List Str) : Prop where
  asc : Asc out
  kn : Kn t out
  sub : ∀ x ∈ out0, x ∈ out
  least : ∀ C : Str → Prop, (∀ x, C x → ∀ y ∈ nx t x, C y) → (∀ x ∈ out0, C x) → ∀ x ∈ out, C x
theorem Rs.refl {t : List Task} {out : List Str} (h1 : Asc out) (h2 : Kn t out) : Rs t out out := ⟨h1, h2, fun _ h => h, fun _ _ h => h⟩
theorem Rs.trans {t : List Task} {a b c : List Str} (h : Rs t a b) (g : Rs t b c) : Rs t a c := ⟨g.asc, g.kn, fun x hx => g.sub x (h.sub x hx), fun C hC hA => g.least C hC (h.least C hC hA)⟩
theorem Rs.len {t : List Task} {a b : List Str} (h : Rs t a b) : b.length ≤ t.length := Inv.len ⟨h.asc.nodup, h.kn⟩
theorem add_spec {t : List Task} (ht : OkT t) {add out0 : List Str} {g0 : Bool} (hadd : Kn t add) (ha : add.length ≤ 900) (h1 : Asc out0) (h2 : Kn t out0) (hn : 1000 < n) (kk : List Str × Bool → Option (List Str)) :
    ∃ out g, loopN (agrafferef08_ByFirst_L2 n add kk) n (out0, g0, 0) = kk (out, g) ∧ Asc out ∧ Kn t out ∧ (∀ x ∈ out0, x ∈ out) ∧ (∀ x ∈ add, x ∈ out) ∧ (∀ x ∈ out, x ∈ out0 ∨ x ∈ add) ∧ ((g = g0 ∧ out = out0) ∨ (g = true ∧ out0.length < out.length)) := by
  have hlen := ht.len
  obtain ⟨s2, back2, ⟨out, g, e3, p1, p2, p3, p4, p5, p6⟩, r2⟩ := loop_inv (F := agrafferef08_ByFirst_L2 n add kk) (len := add.length) (P := fun v st => ∃ out g, st = (out, g, v) ∧ Asc out ∧ Kn t out ∧ (∀ x ∈ out0, x ∈ out) ∧ (∀ x ∈ add.take v, x ∈ out) ∧ (∀ x ∈ out, x ∈ out0 ∨ x ∈ add) ∧ ((g = g0 ∧ out = out0) ∨ (g = true ∧ out0.length < out.length))) (fun back v st hv hP => by
    obtain ⟨out, g, e, p1, p2, p3, p4, p5, p6⟩ := hP
    subst e
    have hol : out.length ≤ t.length := Inv.len ⟨p1.nodup, p2⟩
    by_cases hin : ix add v ∈ out
    · refine ⟨(out, g, v + 1), ⟨out, g, rfl, p1, p2, p3, fun x hx => ?_, p5, p6⟩, ?_⟩
      · rcases (mem_take_succ hv).1 hx with c | c
        · exact p4 x c
        · subst c; exact hin
      · have hh : out.any (isS (ix add v)) = true := any_isS.2 hin
        simp only [agrafferef08_ByFirst_L2, hv, decide_true, cond_true, withK_eq, HasText_eq (n := n) out (ix add v) (by omega) (by omega), hh, Option.bind_some, Bool.not_true, cond_false]
        rw [chk_of (nI_of (by omega))]
    · obtain ⟨d, q1, q2, q3, q4⟩ := put_spec (n := n) p1 hin (by omega) hn
      have hgr : out0.length ≤ out.length := by
        rcases p6 with ⟨_, c⟩ | ⟨_, c⟩
        · rw [c]; exact Nat.le_refl _
        · omega
      refine ⟨(d, true, v + 1), ⟨d, true, rfl, q2, fun x hx => ?_, fun x hx => (q3 x).2 (.inl (p3 x hx)), fun x hx => ?_, fun x hx => ?_, .inr ⟨rfl, by omega⟩⟩, ?_⟩
      · rcases (q3 x).1 hx with c | c
        · exact p2 x c
        · subst c; exact hadd _ (ix_mem hv)
      · rcases (mem_take_succ hv).1 hx with c | c
        · exact (q3 x).2 (.inl (p4 x c))
        · exact (q3 x).2 (.inr c)
      · rcases (q3 x).1 hx with c | c
        · exact p5 x c
        · subst c; exact .inr (ix_mem hv)
      · have hh : out.any (isS (ix add v)) = false := by
          cases c : out.any (isS (ix add v)) with
          | false => rfl
          | true => exact absurd (any_isS.1 c) hin
        simp only [agrafferef08_ByFirst_L2, hv, decide_true, cond_true, withK_eq, HasText_eq (n := n) out (ix add v) (by omega) (by omega), hh, Option.bind_some, Bool.not_false, q1]
        rw [chk_of (nI_of (by omega))]) n 0 (out0, g0, 0) (by omega) (by omega) ⟨out0, g0, rfl, h1, h2, fun _ h => h, by simp, fun _ h => .inl h, .inl ⟨rfl, rfl⟩⟩
  subst e3
  rw [List.take_length] at p4
  refine ⟨out, g, ?_, p1, p2, p3, p4, p5, p6⟩
  rw [r2]
  simp [agrafferef08_ByFirst_L2]
theorem pass_spec {t : List Task} (ht : Right t) (h0 : tasksE n t = 0) {out0 : List Str} (h1 : Asc out0) (h2 : Kn t out0) (hn : 1000 < n) (kk : List Str × Bool → Option (List Str)) :
    ∃ out g, loopN (agrafferef08_ByFirst_L3 n t kk) n (out0, false, 0) = kk (out, g) ∧ Rs t out0 out ∧ ((g = false ∧ out = out0 ∧ ∀ j, j < t.length → (ix t j).Name ∈ out0 → ∀ y ∈ firstOf (ix t j), y ∈ out0) ∨ (g = true ∧ out0.length < out.length)) := by
  have hlen := ht.ok.len
  obtain ⟨s2, back2, ⟨out, g, e3, p1, p2⟩, r2⟩ := loop_inv (F := agrafferef08_ByFirst_L3 n t kk) (len := t.length) (P := fun v st => ∃ out g, st = (out, g, v) ∧ Rs t out0 out ∧ ((g = false ∧ out = out0 ∧ ∀ j, j < v → (ix t j).Name ∈ out0 → ∀ y ∈ firstOf (ix t j), y ∈ out0) ∨ (g = true ∧ out0.length < out.length))) (fun back v st hv hP => by
    obtain ⟨out, g, e, rs, p2⟩ := hP
    subst e
    have hol := rs.len
    have hx := ix_mem hv
    by_cases hin : (ix t v).Name ∈ out
    · have hh : out.any (isS (ix t v).Name) = true := any_isS.2 hin
      have hN := ht.ok.needs _ hx
      have hO := ht.ok.oneof _ hx
      have hfl : (firstOf (ix t v)).length ≤ 900 := by simp [firstOf]; omega
      obtain ⟨o2, g2, q1, q2, q3, q4, q5, q6, q7⟩ := add_spec (n := n) ht.ok (add := firstOf (ix t v)) (out0 := out) (g0 := g) (ht.known _ hx) hfl rs.asc rs.kn hn fun (v80, v81) => chk (nI (v + 1)) (back (v80, v81, v + 1))
      have rs2 : Rs t out o2 := ⟨q2, q3, q4, fun C hC hA x hx2 => by
        rcases q6 x hx2 with c | c
        · exact hA x c
        · refine hC _ (hA _ hin) x ?_
          rw [nx, uniq_of h0 hv]; exact c⟩
      refine ⟨(o2, g2, v + 1), ⟨o2, g2, rfl, rs.trans rs2, ?_⟩, ?_⟩
      · rcases q7 with ⟨a, b⟩ | ⟨a, b⟩
        · subst a b
          rcases p2 with ⟨c1, c2, c3⟩ | c
          · refine .inl ⟨c1, c2, fun j hj hjn y hy => ?_⟩
            by_cases hjv : j = v
            · subst hjv; rw [← c2]; exact q5 y hy
            · exact c3 j (by omega) hjn y hy
          · exact .inr c
        · refine .inr ⟨a, ?_⟩
          have : out0.length ≤ out.length := nodup_len _ _ h1.nodup rs.sub
          omega
      · simp only [agrafferef08_ByFirst_L3, hv, decide_true, cond_true, withK_eq, HasText_eq (n := n) out (ix t v).Name (by omega) (by omega), hh, Option.bind_some, Bool.not_true, cond_false, agraffebase_CopyTexts_2]
        rw [chk_of (room_of (by omega) (by omega))]
        simp only [Option.bind_some]
        rw [loop_fold' (st := fun u => (ix t v).Needs ++ ((ix t v).OneOf.map fun g => ix g 0).take u) (k := loopN (agrafferef08_ByFirst_L2 n (firstOf (ix t v)) fun (v80, v81) => chk (nI (v + 1)) (back (v80, v81, v + 1))) n (out, g, 0)) (len := (ix t v).OneOf.length) (fun back2 u hu => ?_) (fun back2 => ?_) n (by omega) (by simp)]
        · rw [q1]
          exact chk_of (nI_of (by omega))
        · have hu2 : u < ((ix t v).OneOf.map fun g => ix g 0).length := by simpa using hu
          have h00 : 0 < (ix (ix t v).OneOf u).length := ht.group _ hx _ (ix_mem hu)
          simp only [agrafferef08_ByFirst_L1, hu, h00, decide_true, cond_true, chk_t]
          rw [chk_of (room_of (by simp; omega) (by simp; omega)), chk_of (nI_of (by omega)), List.take_succ_eq_append_getElem hu2, List.getElem_map, List.append_assoc, ix_eq hu]
        · simp only [agrafferef08_ByFirst_L1, Nat.lt_irrefl, decide_false, cond_false]
          rw [List.take_of_length_le (by simp)]; rfl
    · have hh : out.any (isS (ix t v).Name) = false := by
        cases c : out.any (isS (ix t v).Name) with
        | false => rfl
        | true => exact absurd (any_isS.1 c) hin
      refine ⟨(out, g, v + 1), ⟨out, g, rfl, rs, ?_⟩, ?_⟩
      · rcases p2 with ⟨c1, c2, c3⟩ | c
        · refine .inl ⟨c1, c2, fun j hj hjn y hy => ?_⟩
          by_cases hjv : j = v
          · subst hjv; rw [c2] at hin; exact absurd hjn hin
          · exact c3 j (by omega) hjn y hy
        · exact .inr c
      · simp only [agrafferef08_ByFirst_L3, hv, decide_true, cond_true, withK_eq, HasText_eq (n := n) out (ix t v).Name (by omega) (by omega), hh, Option.bind_some, Bool.not_false]
        rw [chk_of (nI_of (by omega))]) n 0 (out0, false, 0) (by omega) (by omega) ⟨out0, false, rfl, Rs.refl h1 h2, .inl ⟨rfl, rfl, fun j hj => by omega⟩⟩
  subst e3
  refine ⟨out, g, ?_, p1, p2⟩
  rw [r2]
  simp [agrafferef08_ByFirst_L3]
theorem byFirst_ref {t : List Task} (ht : Right t) (h0 : tasksE n t = 0) {want : List Str} (hw : want.length ≤ 900) (hs : setE t want = 0) (hn : 1000 < n) :
    ∃ d, agrafferef08_ByFirst n t want = some d ∧ Rs t want d ∧ ∀ x ∈ d, ∀ y ∈ nx t x, y ∈ d := by
  have hlen := ht.ok.len
  obtain ⟨hk, ha⟩ := set_ok hs
  rw [agrafferef08_ByFirst, agraffebase_CopyTexts_2, chk_of (room_of (by omega) (by omega))]
  simp only [Option.bind_some, withK_eq]
  have main : ∀ m out, Rs t want out → t.length - out.length < m → 1 ≤ m → ∃ d, loopN (agrafferef08_ByFirst_L4 n t fun v82 => some v82) (m + 1) (out, true) = some d ∧ Rs t want d ∧ ∀ x ∈ d, ∀ y ∈ nx t x, y ∈ d := by
    intro m
    induction m with
    | zero => intro out _ h; omega
    | succ m ih =>
      intro out rs hm _
      rw [loopN_s]
      simp only [agrafferef08_ByFirst_L4, cond_true]
      obtain ⟨o2, g2, q1, q2, q3⟩ := pass_spec ht h0 rs.asc rs.kn hn (loopN (agrafferef08_ByFirst_L4 n t fun v82 => some v82) (m + 1))
      rw [q1]
      rcases q3 with ⟨a, b, c⟩ | ⟨a, b⟩
      · subst a b
        rw [loopN_s]
        simp only [agrafferef08_ByFirst_L4, cond_false]
        refine ⟨o2, rfl, rs, fun x hx y hy => ?_⟩
        obtain ⟨k1, k2, k3, k4⟩ := known_ix (rs.kn x hx)
        refine c (findI (byName x) t).toNat k2 ?_ y hy
        have : (ix t (findI (byName x) t).toNat).Name = x := k4
        rw [this]; exact hx
      · subst a
        have hl2 := (rs.trans q2).len
        exact ih o2 (rs.trans q2) (by omega) (by omega)
  obtain ⟨m, rfl⟩ : ∃ m, n = m + 1 := ⟨n - 1, by omega⟩
  exact main m want (Rs.refl ha hk) (by omega) (by omega)
end
section
set_option maxRecDepth 4000
open Go
variable {n : Nat}
theorem Texts_refl {l : List Str} (hl : l.length ≤ 900) (hn : 1000 < n) : agraffebase_Texts n l l = some true := by
  rw [agraffebase_Texts]
  simp only [decide_true, Bool.not_true, cond_false, withK_eq]
  refine loop_through (st := fun v => v) (len := l.length) (fun back v hv => ?_) (fun back => ?_) n (by omega)
  · simp only [agraffebase_Texts_L1, hv, decide_true, cond_true, chk_t, BEq.rfl, Bool.not_true, cond_false]
    rw [chk_of (nI_of (by omega))]
  · simp only [agraffebase_Texts_L1, Nat.lt_irrefl, decide_false, cond_false]
theorem byFirst_err {t : List Task} (h : OkT t) {want : List Str} (hw : want.length ≤ 900) (hn : 1000 < n) {e : Int} (he : e ≠ 0) (h1 : (bif tasksE n t != 0 then tasksE n t else setE t want) = e) : restore_ByFirst n t want = some (e, []) := by
  rw [restore_ByFirst, sets_res h (by simp) (by simp only [List.mem_cons, List.mem_nil_iff, or_false]; rintro l rfl; exact hw) hn]
  have e1 : firstE (fun v => setE t (ix [want] v)) 0 [want].length = setE t want := by
    show (bif setE t want != 0 then setE t want else 0) = _
    rw [bif_int]
  rw [e1, h1]
  simp [bne_t he]
theorem clos_zero {t : List Task} (ht : Right t) {want d : List Str} (h1 : ∀ x ∈ want, x ∈ d) (hk : Kn t d) (h2 : ∀ x ∈ d, ∀ y ∈ nx t x, y ∈ d) : closE t want d = 0 := by
  have a1 : (want.any fun s => !has d s) = false := by
    rw [List.any_eq_false]
    intro x hx
    simp [has_iff.2 (h1 x hx)]
  have a2 : (d.any fun s => (taskOf t s).Needs.any fun x => !has d x) = false := by
    rw [List.any_eq_false]
    intro s hs
    rw [Bool.not_eq_true, List.any_eq_false]
    intro x hx
    simp [has_iff.2 (h2 s hs x (by rw [nx, firstOf, List.mem_append]; exact .inl hx))]
  have a3 : (d.any fun s => (taskOf t s).OneOf.any fun g => !g.any (has d)) = false := by
    rw [List.any_eq_false]
    intro s hs
    rw [Bool.not_eq_true, List.any_eq_false]
    intro g hg
    obtain ⟨_, _, k3, _⟩ := known_ix (hk s hs)
    have h0 := ht.group _ k3 g hg
    have hm : ix g 0 ∈ d := h2 s hs _ (by rw [nx, firstOf, List.mem_append]; exact .inr (List.mem_map_of_mem hg))
    have : g.any (has d) = true := List.any_eq_true.2 ⟨ix g 0, ix_mem h0, has_iff.2 hm⟩
    simp [this]
  rw [closE, a1, a2, a3]; rfl
theorem pure_RestoreClosures (a0 : List Task) (a1 a2 : List Str) : agraffelaw08_RestoreClosures 2000 a0 a1 a2 = some true := by
  rw [agraffelaw08_RestoreClosures]
  simp only [agraffelaw08_awake, Option.bind_some, Bool.not_true, cond_false, withK_eq, Few_eq (n := 2000) a0 (by omega), texts_eq (n := 2000) a1 12 (by omega) (by omega), texts_eq (n := 2000) a2 12 (by omega) (by omega), gcall_some_]
  cases hf : fewB a0
  · simp
  cases hw : textsB a1 12
  · simp
  cases hs : textsB a2 12
  · simp
  have ok := few_ok hf
  have lw := textsB_len hw
  have ls := textsB_len hs
  have hlen := ok.len
  simp only [Bool.not_true, Bool.not_false, Bool.or_self, cond_true, cond_false, Copied_eq (n := 2000) ok (by omega), Option.bind_some, agraffebase_CopyTexts_2, room_of (b := 16) (n := a1.length) (by omega) (by omega), room_of (b := 16) (n := a2.length) (by omega) (by omega), chk_t, closure_res (n := 2000) ok (want := a1) (set := a2) (by omega) (by omega) (by omega), CheckTasks_ref (n := 2000) ok (by omega), set_ref (n := 2000) (t := a0) (l := a1) (by omega) (by omega) (by omega)]
  by_cases h0 : tasksE 2000 a0 = 0
  · by_cases hw0 : setE a0 a1 = 0
    · have ht := right_of ok h0
      have h9 : a0.length ≤ 12 := by
        have h60 := (tasks_zero h0).1
        simp only [fewB, Bool.and_eq_true, Bool.not_eq_true', Bool.or_eq_false_iff, Bool.and_eq_false_iff, decide_eq_false_iff_not] at hf
        omega
      obtain ⟨d, ks, e1, d1, tk, d2⟩ := byFirst_res (n := 2000) ht h9 h0 (want := a1) (by omega) hw0 (by omega)
      obtain ⟨d', e2, rs, cl⟩ := byFirst_ref (n := 2000) ht h0 (want := a1) (by omega) hw0 (by omega)
      have ksd : ∀ x, x ∈ ks ↔ x ∈ d' := fun x => by
        constructor
        · intro hx
          rcases tk.least (fun y => y ∈ d') (fun y hy z hz => cl y hy z hz) rs.sub x hx with c | c
          · simp at c
          · exact c
        · intro hx
          refine rs.least (fun y => y ∈ ks) (fun y hy z hz => ?_) tk.seed x hx
          rcases tk.cl y hy with c | c
          · simp at c
          · exact c z hz
      have hdd : d' = d := rs.asc.ext d1 fun s => ((ksd s).symm).trans (d2 s).symm
      subst hdd
      have hdl := rs.len
      have c0 : closE a0 a1 d' = 0 := clos_zero ht rs.sub rs.kn cl
      have s0 : setE a0 d' = 0 := set_zero rs.kn rs.asc
      simp only [h0, hw0, e1, e2, bne_self_eq_false, BEq.rfl, Bool.not_false, gcall, cond_true, cond_false, Option.bind_some, Texts_refl (n := 2000) (l := d') (by omega) (by omega), Bool.not_true, Bool.or_false, Bool.or_self, Copied_eq (n := 2000) ok (by omega), room_of (b := 16) (n := d'.length) (by omega) (by omega), chk_t, closure_res (n := 2000) ok (want := a1) (set := d') (by omega) (by omega) (by omega), s0, c0, set_ref (n := 2000) (t := a0) (l := a2) (by omega) (by omega) (by omega)]
      by_cases hs0 : setE a0 a2 = 0
      · simp [hs0, clos_ref (n := 2000) ok (want := a1) (set := a2) (by omega) (by omega) (set_ok hs0).1 (by omega)]
      · have : (setE a0 a2 == 0) = false := by rw [beq_eq_false_iff_ne]; exact hs0
        simp [this, bne_t hs0]
    · have hb : (setE a0 a1 != 0) = true := bne_t hw0
      simp [h0, byFirst_err (n := 2000) ok (want := a1) (by omega) (by omega) hw0 (by rw [h0]; rfl), hb]
  · have hb : (tasksE 2000 a0 != 0) = true := bne_t h0
    have hb2 : (tasksE 2000 a0 == 0) = false := by rw [beq_eq_false_iff_ne]; exact h0
    simp [byFirst_err (n := 2000) ok (want := a1) (by omega) (by omega) h0 (by rw [hb]; rfl), hb, hb2]
end
end Go.Proofs.YtcdcpambkdlhjaaGreat.As
