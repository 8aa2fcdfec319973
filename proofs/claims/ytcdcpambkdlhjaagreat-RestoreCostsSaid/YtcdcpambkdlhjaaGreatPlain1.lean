/- What the functions compute, on plain data, and what follows from it, part 1: no condition. -/
import Derived.Test.YtcdcpambkdlhjaaGreatGround3
namespace Go.Proofs.YtcdcpambkdlhjaaGreat.As
open Go
section
set_option maxRecDepth 4000
open Go
structure PartCount where
  Part : Str
  Count : Int
  deriving Inhabited, DecidableEq
def ePartCount (x : PartCount) : V := .agg [vt x.Part, vi x.Count]
theorem ePartCount_frz (x : PartCount) : (ePartCount x).frz = true := rfl
theorem ePartCount_frzE (x : PartCount) : frzE (ePartCount x) = true := rfl
structure Task where
  Name : Str
  Cents : Int
  Hours : Int
  Needs : List Str
  OneOf : List (List Str)
  Parts : List PartCount
  deriving Inhabited, DecidableEq
def eTask (x : Task) : V := .agg [vt x.Name, vi x.Cents, vi x.Hours, eS 1 vt x.Needs, eS 1 (eS 1 vt) x.OneOf, eS 2 ePartCount x.Parts]
theorem eTask_frz (x : Task) : (eTask x).frz = true := rfl
theorem eTask_frzE (x : Task) : frzE (eTask x) = true := rfl
structure Stocked where
  Part : Str
  Cents : Int
  Count : Int
  deriving Inhabited, DecidableEq
def eStocked (x : Stocked) : V := .agg [vt x.Part, vi x.Cents, vi x.Count]
theorem eStocked_frzE (x : Stocked) : frzE (eStocked x) = true := rfl
structure Range where
  Lo : Int
  Hi : Int
  deriving Inhabited, DecidableEq
def agraffelaw08_awake (n : Nat) : Option Bool := some true
def agraffelaw08_texts_L1 (a0 : List Str) (k1 : (Unit → Option Bool)) (back : Nat → Option Bool) : Nat → Option Bool
  | v1 =>
  bif decide (v1 < a0.length) then
    bif decide (20 < ((ix a0 v1).length)) then
      some false
    else
      chk (nI (v1 + 1)) <|
      back (v1 + 1)
  else
    k1 ()
def agraffelaw08_texts (n : Nat) (a0 : List Str) (a1 : Int) : Option Bool :=
  bif decide (a1 < ((a0.length : Nat) : Int)) then
    some false
  else
    withK (fun (_ : Unit) =>
        some true) fun k1 =>
    loopN (agraffelaw08_texts_L1 a0 k1) n 0
def agraffelaw08_Few_L2 (a0 : List Task) (v6 : Nat) (k2 : (Unit → Option Bool)) (back : Nat → Option Bool) : Nat → Option Bool
  | v11 =>
  bif decide (v11 < (((ix a0 v6).Parts).length)) then
    chk (decide (v11 < ((ix a0 v6).Parts).length)) <|
    bif decide (20 < (((ix ((ix a0 v6).Parts) v11).Part).length)) then
      some false
    else
      chk (nI (v11 + 1)) <|
      back (v11 + 1)
  else
    k2 ()
def agraffelaw08_Few_L1 (n : Nat) (a0 : List Task) (v6 : Nat) (k1 : (Unit → Option Bool)) (back : Nat → Option Bool) : Nat → Option Bool
  | v9 =>
  bif decide (v9 < (((ix a0 v6).OneOf).length)) then
    chk (decide (v9 < ((ix a0 v6).OneOf).length)) <|
    (agraffelaw08_texts n (ix ((ix a0 v6).OneOf) v9) 9).bind fun y10 =>
    bif !y10 then
      some false
    else
      chk (nI (v9 + 1)) <|
      back (v9 + 1)
  else
    k1 ()
def agraffelaw08_Few_L3 (n : Nat) (a0 : List Task) (k3 : (Unit → Option Bool)) (back : Nat → Option Bool) : Nat → Option Bool
  | v6 =>
  bif decide (v6 < a0.length) then
    withK (fun (_ : Unit) =>
        chk (nI (v6 + 1)) <|
        back (v6 + 1)) fun k2 =>
    (gcall (!(decide (20 < (((ix a0 v6).Name).length)))) (agraffelaw08_texts n ((ix a0 v6).Needs) 13)).bind fun y7 =>
    bif (((decide (20 < (((ix a0 v6).Name).length))) || (!y7)) || (decide (9 < (((ix a0 v6).OneOf).length)))) || (decide (13 < (((ix a0 v6).Parts).length))) then
      some false
    else
      withK (fun (_ : Unit) =>
          loopN (agraffelaw08_Few_L2 a0 v6 k2) n 0) fun k1 =>
      loopN (agraffelaw08_Few_L1 n a0 v6 k1) n 0
  else
    k3 ()
def agraffelaw08_Few (n : Nat) (a0 : List Task) : Option Bool :=
  bif ((decide (9 < a0.length)) && (decide (a0.length ≤ 60))) || (decide (63 < a0.length)) then
    some false
  else
    withK (fun (_ : Unit) =>
        some true) fun k3 =>
    loopN (agraffelaw08_Few_L3 n a0 k3) n 0
def agraffelaw08_stocked_L1 (a0 : List Stocked) (k1 : (Unit → Option Bool)) (back : Nat → Option Bool) : Nat → Option Bool
  | v1 =>
  bif decide (v1 < a0.length) then
    bif decide (20 < (((ix a0 v1).Part).length)) then
      some false
    else
      chk (nI (v1 + 1)) <|
      back (v1 + 1)
  else
    k1 ()
def agraffelaw08_stocked (n : Nat) (a0 : List Stocked) : Option Bool :=
  bif ((decide (8 < a0.length)) && (decide (a0.length ≤ 60))) || (decide (63 < a0.length)) then
    some false
  else
    withK (fun (_ : Unit) =>
        some true) fun k1 =>
    loopN (agraffelaw08_stocked_L1 a0 k1) n 0
def agraffebase_CopyTexts (n : Nat) (a0 : List Str) : Option Unit :=
  chk (room 16 a0.length) <|
  some ()
def agraffebase_CopyTexts_2 (n : Nat) (a0 : List Str) : Option Unit :=
  chk (room 16 a0.length) <|
  some ()
def agraffelaw08_Copied_L1 (n : Nat) (v7 : Nat) (v8 : List Task) (k1 : ((List (List Str)) → Option (List Task))) (back : Nat × (List (List Str)) → Option (List Task)) : Nat × (List (List Str)) → Option (List Task)
  | (v11, v12) =>
  bif decide (v11 < (((ix (List.set (List.set v8 v7 (ix v8 v7)) v7 (ix (List.set v8 v7 (ix v8 v7)) v7)) v7).OneOf).length)) then
    chk (decide (v11 < ((ix (List.set (List.set v8 v7 (ix v8 v7)) v7 (ix (List.set v8 v7 (ix v8 v7)) v7)) v7).OneOf).length)) <|
    (agraffebase_CopyTexts n (ix ((ix (List.set (List.set v8 v7 (ix v8 v7)) v7 (ix (List.set v8 v7 (ix v8 v7)) v7)) v7).OneOf) v11)).bind fun y13 =>
    chk (room 24 (v12 ++ ([(ix ((ix (List.set (List.set v8 v7 (ix v8 v7)) v7 (ix (List.set v8 v7 (ix v8 v7)) v7)) v7).OneOf) v11)] : List (List Str))).length) <|
    chk (nI (v11 + 1)) <|
    back (v11 + 1, (v12 ++ ([(ix ((ix (List.set (List.set v8 v7 (ix v8 v7)) v7 (ix (List.set v8 v7 (ix v8 v7)) v7)) v7).OneOf) v11)] : List (List Str))))
  else
    k1 v12
def agraffelaw08_Copied_L2 (n : Nat) (k2 : ((List Task) → Option (List Task))) (back : Nat × (List Task) → Option (List Task)) : Nat × (List Task) → Option (List Task)
  | (v7, v8) =>
  bif decide (v7 < v8.length) then
    withK (fun (v14 : (List (List Str))) =>
        chk (nI (v7 + 1)) <|
        back (v7 + 1, (List.set (List.set (List.set v8 v7 (ix v8 v7)) v7 (ix (List.set v8 v7 (ix v8 v7)) v7)) v7 (Task.mk ((ix (List.set (List.set v8 v7 (ix v8 v7)) v7 (ix (List.set v8 v7 (ix v8 v7)) v7)) v7).Name) ((ix (List.set (List.set v8 v7 (ix v8 v7)) v7 (ix (List.set v8 v7 (ix v8 v7)) v7)) v7).Cents) ((ix (List.set (List.set v8 v7 (ix v8 v7)) v7 (ix (List.set v8 v7 (ix v8 v7)) v7)) v7).Hours) ((ix (List.set (List.set v8 v7 (ix v8 v7)) v7 (ix (List.set v8 v7 (ix v8 v7)) v7)) v7).Needs) v14 ((ix (List.set (List.set v8 v7 (ix v8 v7)) v7 (ix (List.set v8 v7 (ix v8 v7)) v7)) v7).Parts))))) fun k1 =>
    (agraffebase_CopyTexts_2 n ((ix v8 v7).Needs)).bind fun y9 =>
    chk (decide (v7 < (List.set v8 v7 (ix v8 v7)).length)) <|
    chk (room 24 ((ix (List.set v8 v7 (ix v8 v7)) v7).Parts).length) <|
    chk (decide (v7 < (List.set (List.set v8 v7 (ix v8 v7)) v7 (ix (List.set v8 v7 (ix v8 v7)) v7)).length)) <|
    loopN (agraffelaw08_Copied_L1 n v7 v8 k1) n (0, ([] : List (List Str)))
  else
    k2 v8
def agraffelaw08_Copied (n : Nat) (a0 : List Task) : Option (List Task) :=
  chk (room 104 a0.length) <|
  withK (fun (v15 : (List Task)) =>
      some v15) fun k2 =>
  loopN (agraffelaw08_Copied_L2 n k2) n (0, a0)
def restore_isName_L1 (a0 : Str) (k1 : (Unit → Option Bool)) (back : Nat → Option Bool) : Nat → Option Bool
  | v1 =>
  bif decide (v1 < a0.length) then
    bif (!(((decide ((97 : Int) ≤ (((ix a0 v1).toNat : Nat) : Int))) && (decide ((((ix a0 v1).toNat : Nat) : Int) ≤ (122 : Int)))) || ((decide ((65 : Int) ≤ (((ix a0 v1).toNat : Nat) : Int))) && (decide ((((ix a0 v1).toNat : Nat) : Int) ≤ (90 : Int)))))) && ((decide (v1 = 0)) || (((((ix a0 v1).toNat : Nat) : Int) != (45 : Int)) && ((decide ((((ix a0 v1).toNat : Nat) : Int) < (48 : Int))) || (decide ((57 : Int) < (((ix a0 v1).toNat : Nat) : Int)))))) then
      some false
    else
      chk (nI (v1 + 1)) <|
      back (v1 + 1)
  else
    k1 ()
def restore_isName (n : Nat) (a0 : Str) : Option Bool :=
  withK (fun (_ : Unit) =>
      some ((!(a0 == ([] : Str))) && (decide (a0.length ≤ 12)))) fun k1 =>
  loopN (restore_isName_L1 a0 k1) n 0
def restore_list_find_f1 (n : Nat) (a0 : Task) (a1 : Str) : Option Unit :=
  some ()
def slices_IndexFunc_Task_L1 (n : Nat) (a0 : List Task) (a1 : Str) (k1 : (Unit → Option Int)) (back : Nat → Option Int) : Nat → Option Int
  | v2 =>
  bif decide (v2 < a0.length) then
    (restore_list_find_f1 n (ix a0 v2) a1).bind fun y3 =>
    bif ((ix a0 v2).Name == a1) then
      some ((v2 : Nat) : Int)
    else
      chk (nI (v2 + 1)) <|
      back (v2 + 1)
  else
    k1 ()
def slices_IndexFunc_Task (n : Nat) (a0 : List Task) (a1 : Str) : Option Int :=
  withK (fun (_ : Unit) =>
      some (-1)) fun k1 =>
  loopN (slices_IndexFunc_Task_L1 n a0 a1 k1) n 0
def restore_list_find (n : Nat) (a0 : List Task) (a1 : Str) : Option Int :=
  (slices_IndexFunc_Task n a0 a1).bind fun y1 =>
  some y1
def restore_within (n : Nat) (a0 : Int) (a1 : Int) (a2 : Int) : Option Unit :=
  some ()
def restore_list_checkTask_f1 (n : Nat) (a0 : List Str) : Option Unit :=
  some ()
def slices_IndexFunc_string_L1 (n : Nat) (a0 : List (List Str)) (k1 : (Unit → Option Int)) (back : Nat → Option Int) : Nat → Option Int
  | v2 =>
  bif decide (v2 < a0.length) then
    (restore_list_checkTask_f1 n (ix a0 v2)).bind fun y3 =>
    bif decide (6 < (ix a0 v2).length) then
      some ((v2 : Nat) : Int)
    else
      chk (nI (v2 + 1)) <|
      back (v2 + 1)
  else
    k1 ()
def slices_IndexFunc_string (n : Nat) (a0 : List (List Str)) : Option Int :=
  withK (fun (_ : Unit) =>
      some (-1)) fun k1 =>
  loopN (slices_IndexFunc_string_L1 n a0 k1) n 0
def slices_ContainsFunc_string (n : Nat) (a0 : List (List Str)) : Option Bool :=
  (slices_IndexFunc_string n a0).bind fun y1 =>
  some (decide ((0 : Int) ≤ y1))
def slices_Index_string_L1 (a0 : List Str) (a1 : Str) (k1 : (Unit → Option Int)) (back : Nat → Option Int) : Nat → Option Int
  | v1 =>
  bif decide (v1 < a0.length) then
    bif (a1 == (ix a0 v1)) then
      some ((v1 : Nat) : Int)
    else
      chk (nI (v1 + 1)) <|
      back (v1 + 1)
  else
    k1 ()
def slices_Index_string (n : Nat) (a0 : List Str) (a1 : Str) : Option Int :=
  withK (fun (_ : Unit) =>
      some (-1)) fun k1 =>
  loopN (slices_Index_string_L1 a0 a1 k1) n 0
def slices_Contains_string (n : Nat) (a0 : List Str) (a1 : Str) : Option Bool :=
  (slices_Index_string n a0 a1).bind fun y1 =>
  some (decide ((0 : Int) ≤ y1))
def restore_list_known_L1 (n : Nat) (a0 : List Task) (a1 : List Str) (k1 : (Unit → Option Int)) (back : Nat → Option Int) : Nat → Option Int
  | v3 =>
  bif decide (v3 < a1.length) then
    (restore_list_find n a0 (ix a1 v3)).bind fun y4 =>
    bif decide (y4 < (0 : Int)) then
      some 6
    else
      chk (decide (v3 ≤ a1.length)) <|
      (slices_Contains_string n (List.take v3 a1) (ix a1 v3)).bind fun y5 =>
      bif y5 then
        some 5
      else
        chk (nI (v3 + 1)) <|
        back (v3 + 1)
  else
    k1 ()
def restore_list_known (n : Nat) (a0 : List Task) (a1 : List Str) : Option Int :=
  withK (fun (_ : Unit) =>
      some 0) fun k1 =>
  loopN (restore_list_known_L1 n a0 a1 k1) n 0
def restore_checkCounts_f1 (n : Nat) (a0 : PartCount) (a1 : Str) (a2 : Int) : Option Unit :=
  some ()
def slices_IndexFunc_PartCount_L1 (n : Nat) (a0 : List PartCount) (a1 : Str) (a2 : Int) (k1 : (Unit → Option Int)) (back : Nat → Option Int) : Nat → Option Int
  | v2 =>
  bif decide (v2 < a0.length) then
    (restore_checkCounts_f1 n (ix a0 v2) a1 a2).bind fun y3 =>
    bif ((ix a0 v2).Part == a1) then
      some ((v2 : Nat) : Int)
    else
      chk (nI (v2 + 1)) <|
      back (v2 + 1)
  else
    k1 ()
def slices_IndexFunc_PartCount (n : Nat) (a0 : List PartCount) (a1 : Str) (a2 : Int) : Option Int :=
  withK (fun (_ : Unit) =>
      some (-1)) fun k1 =>
  loopN (slices_IndexFunc_PartCount_L1 n a0 a1 a2 k1) n 0
def slices_ContainsFunc_PartCount (n : Nat) (a0 : List PartCount) (a1 : Str) (a2 : Int) : Option Bool :=
  (slices_IndexFunc_PartCount n a0 a1 a2).bind fun y1 =>
  some (decide ((0 : Int) ≤ y1))
def restore_checkCounts_L1 (n : Nat) (a0 : List PartCount) (a1 : Int) (k1 : (Unit → Option Int)) (back : Nat → Option Int) : Nat → Option Int
  | v4 =>
  bif decide (v4 < a0.length) then
    (restore_isName n ((ix a0 v4).Part)).bind fun y5 =>
    bif !y5 then
      some 4
    else
      chk (decide (v4 ≤ a0.length)) <|
      (slices_ContainsFunc_PartCount n (List.take v4 a0) ((ix a0 v4).Part) ((ix a0 v4).Count)).bind fun y6 =>
      bif y6 then
        some 5
      else
        (restore_within n ((ix a0 v4).Count) 1 a1).bind fun y7 =>
        bif !((decide (1 ≤ ((ix a0 v4).Count))) && (decide (((ix a0 v4).Count) ≤ a1))) then
          some 2
        else
          chk (nI (v4 + 1)) <|
          back (v4 + 1)
  else
    k1 ()
def restore_checkCounts (n : Nat) (a0 : List PartCount) (a1 : Int) : Option Int :=
  withK (fun (_ : Unit) =>
      some 0) fun k1 =>
  loopN (restore_checkCounts_L1 n a0 a1 k1) n 0
def restore_list_checkTask_L1 (n : Nat) (a0 : List Task) (a1 : Int) (k1 : (Unit → Option Int)) (back : Nat → Option Int) : Nat → Option Int
  | v8 =>
  bif decide (v8 < (((ix a0 a1.toNat).OneOf).length)) then
    chk (decide (v8 < ((ix a0 a1.toNat).OneOf).length)) <|
    bif decide (((ix ((ix a0 a1.toNat).OneOf) v8).length) = 0) then
      some 10
    else
      (restore_list_known n a0 (ix ((ix a0 a1.toNat).OneOf) v8)).bind fun y9 =>
      bif (y9 != (0 : Int)) then
        some y9
      else
        chk (nI (v8 + 1)) <|
        back (v8 + 1)
  else
    k1 ()
def restore_list_checkTask (n : Nat) (a0 : List Task) (a1 : Int) : Option Int :=
  chk (inB a1 a0.length) <|
  chk (decide (a1.toNat < a0.length)) <|
  (restore_isName n ((ix a0 a1.toNat).Name)).bind fun y1 =>
  bif !y1 then
    some 4
  else
    (restore_list_find n a0 ((ix a0 a1.toNat).Name)).bind fun y2 =>
    bif decide (y2 < a1) then
      some 5
    else
      (restore_within n ((ix a0 a1.toNat).Cents) 0 1000000000).bind fun y3 =>
      (gcall (!(!((decide (0 ≤ ((ix a0 a1.toNat).Cents))) && (decide (((ix a0 a1.toNat).Cents) ≤ 1000000000))))) (restore_within n ((ix a0 a1.toNat).Hours) 0 10000)).bind fun y4 =>
      bif (!((decide (0 ≤ ((ix a0 a1.toNat).Cents))) && (decide (((ix a0 a1.toNat).Cents) ≤ 1000000000)))) || (!((decide (0 ≤ ((ix a0 a1.toNat).Hours))) && (decide (((ix a0 a1.toNat).Hours) ≤ 10000)))) then
        some 2
      else
        (gcall (!((decide (10 < (((ix a0 a1.toNat).Needs).length))) || (decide (6 < (((ix a0 a1.toNat).OneOf).length))))) (slices_ContainsFunc_string n ((ix a0 a1.toNat).OneOf))).bind fun y5 =>
        bif (((decide (10 < (((ix a0 a1.toNat).Needs).length))) || (decide (6 < (((ix a0 a1.toNat).OneOf).length)))) || y5) || (decide (10 < (((ix a0 a1.toNat).Parts).length))) then
          some 8
        else
          (restore_list_known n a0 ((ix a0 a1.toNat).Needs)).bind fun y6 =>
          bif (y6 != (0 : Int)) then
            some y6
          else
            withK (fun (_ : Unit) =>
                (restore_checkCounts n ((ix a0 a1.toNat).Parts) 1000).bind fun y10 =>
                some y10) fun k1 =>
            loopN (restore_list_checkTask_L1 n a0 a1 k1) n 0
def restore_CheckTasks_f1 (n : Nat) (a0 : Str) : Option Unit :=
  some ()
def slices_Grow_string (n : Nat) (a0 : Int) : Option (List Str) :=
  bif decide (a0 < (0 : Int)) then
    none
  else
    withK (fun (v1 : (List Str)) =>
        some v1) fun k1 =>
    chk (inI (0 - 0)) <|
    chk (inI (a0 - (0 - 0))) <|
    bif decide ((0 : Int) < (a0 - (0 - 0))) then
      chk (decide (0 ≤ (a0 - (0 - 0)))) <|
      chk (decide (0 < (a0 - (0 - 0)).toNat)) <|
      chk (room 16 ((a0 - (0 - 0)).toNat)) <|
      chk (decide (0 ≤ ((a0 - (0 - 0)).toNat))) <|
      k1 ([] : List Str)
    else
      k1 ([] : List Str)
def slices_Concat_string_L2 (a0 : List (List Str)) (k2 : ((List Str) → Option (List Str))) (back : Nat × (List Str) → Option (List Str)) : Nat × (List Str) → Option (List Str)
  | (v5, v6) =>
  bif decide (v5 < a0.length) then
    chk (room 16 (v6 ++ (ix a0 v5)).length) <|
    chk (nI (v5 + 1)) <|
    back (v5 + 1, (v6 ++ (ix a0 v5)))
  else
    k2 v6
def slices_Concat_string_L1 (a0 : List (List Str)) (k1 : (Nat → Option (List Str))) (back : Nat × Nat → Option (List Str)) : Nat × Nat → Option (List Str)
  | (v1, v2) =>
  bif decide (v2 < a0.length) then
    chk (nI (v1 + ((ix a0 v2).length))) <|
    bif decide ((v1 + ((ix a0 v2).length)) < 0) then
      none
    else
      chk (nI (v2 + 1)) <|
      back (v1 + ((ix a0 v2).length), v2 + 1)
  else
    k1 v1
def slices_Concat_string (n : Nat) (a0 : List (List Str)) : Option (List Str) :=
  withK (fun (v3 : Nat) =>
      (slices_Grow_string n ((v3 : Nat) : Int)).bind fun y4 =>
      withK (fun (v7 : (List Str)) =>
          some v7) fun k2 =>
      loopN (slices_Concat_string_L2 a0 k2) n (0, y4)) fun k1 =>
  loopN (slices_Concat_string_L1 a0 k1) n (0, 0)
def restore_leads (n : Nat) (a0 : Task) : Option (List Str) :=
  chk (room 24 (([a0.Needs] : List (List Str)) ++ a0.OneOf).length) <|
  (slices_Concat_string n (([a0.Needs] : List (List Str)) ++ a0.OneOf)).bind fun y1 =>
  some y1
def slices_Index_string_2_L1 (a0 : List Str) (a1 : Str) (k1 : (Unit → Option Int)) (back : Nat → Option Int) : Nat → Option Int
  | v1 =>
  bif decide (v1 < a0.length) then
    bif (a1 == (ix a0 v1)) then
      some ((v1 : Nat) : Int)
    else
      chk (nI (v1 + 1)) <|
      back (v1 + 1)
  else
    k1 ()
def slices_Index_string_2 (n : Nat) (a0 : List Str) (a1 : Str) : Option Int :=
  withK (fun (_ : Unit) =>
      some (-1)) fun k1 =>
  loopN (slices_Index_string_2_L1 a0 a1 k1) n 0
def slices_Contains_string_2 (n : Nat) (a0 : List Str) (a1 : Str) : Option Bool :=
  (slices_Index_string_2 n a0 a1).bind fun y1 =>
  some (decide ((0 : Int) ≤ y1))
def restore_list_order_f1_2 (n : Nat) (a0 : Str) (a1 : List Str) : Option Bool :=
  (restore_CheckTasks_f1 n a0).bind fun y1 =>
  (gcall true (slices_Contains_string_2 n a1 a0)).bind fun y2 =>
  some (true && (!y2))
def slices_IndexFunc_string_3_L1 (n : Nat) (a0 : List Str) (a1 : List Str) (k1 : (Unit → Option Int)) (back : Nat → Option Int) : Nat → Option Int
  | v2 =>
  bif decide (v2 < a0.length) then
    (restore_list_order_f1_2 n (ix a0 v2) a1).bind fun y3 =>
    bif y3 then
      some ((v2 : Nat) : Int)
    else
      chk (nI (v2 + 1)) <|
      back (v2 + 1)
  else
    k1 ()
def slices_IndexFunc_string_3 (n : Nat) (a0 : List Str) (a1 : List Str) : Option Int :=
  withK (fun (_ : Unit) =>
      some (-1)) fun k1 =>
  loopN (slices_IndexFunc_string_3_L1 n a0 a1 k1) n 0
def slices_ContainsFunc_string_3 (n : Nat) (a0 : List Str) (a1 : List Str) : Option Bool :=
  (slices_IndexFunc_string_3 n a0 a1).bind fun y1 =>
  some (decide ((0 : Int) ≤ y1))
def restore_list_order_f2_2 (n : Nat) (a0 : Task) (a1 : List Str) : Option Bool :=
  (restore_list_order_f1_2 n a0.Name a1).bind fun y1 =>
  (gcall y1 (restore_leads n a0)).bind fun y2 =>
  (gcall y1 (slices_ContainsFunc_string_3 n y2 a1)).bind fun y3 =>
  some (y1 && (!y3))
def slices_IndexFunc_Task_3_L1 (n : Nat) (a0 : List Task) (a1 : List Str) (k1 : (Unit → Option Int)) (back : Nat → Option Int) : Nat → Option Int
  | v2 =>
  bif decide (v2 < a0.length) then
    (restore_list_order_f2_2 n (ix a0 v2) a1).bind fun y3 =>
    bif y3 then
      some ((v2 : Nat) : Int)
    else
      chk (nI (v2 + 1)) <|
      back (v2 + 1)
  else
    k1 ()
def slices_IndexFunc_Task_3 (n : Nat) (a0 : List Task) (a1 : List Str) : Option Int :=
  withK (fun (_ : Unit) =>
      some (-1)) fun k1 =>
  loopN (slices_IndexFunc_Task_3_L1 n a0 a1 k1) n 0
def restore_list_order_L1 (n : Nat) (a0 : List Task) (back : (List Str) → Option (List Str)) : (List Str) → Option (List Str)
  | v2 =>
  (slices_IndexFunc_Task_3 n a0 v2).bind fun y3 =>
  bif decide (y3 < (0 : Int)) then
    some v2
  else
    chk (inB y3 a0.length) <|
    chk (decide (y3.toNat < a0.length)) <|
    chk (room 16 (v2 ++ ([(ix a0 y3.toNat).Name] : List Str)).length) <|
    back (v2 ++ ([(ix a0 y3.toNat).Name] : List Str))
def restore_list_order (n : Nat) (a0 : List Task) : Option (List Str) :=
  loopN (restore_list_order_L1 n a0) n ([] : List Str)
def restore_CheckTasks_L1 (n : Nat) (a0 : List Task) (k1 : (Unit → Option Int)) (back : Nat → Option Int) : Nat → Option Int
  | v2 =>
  bif decide (v2 < a0.length) then
    (restore_list_checkTask n a0 ((v2 : Nat) : Int)).bind fun y3 =>
    bif (y3 != (0 : Int)) then
      some y3
    else
      chk (nI (v2 + 1)) <|
      back (v2 + 1)
  else
    k1 ()
def restore_CheckTasks (n : Nat) (a0 : List Task) : Option Int :=
  bif decide (60 < a0.length) then
    some 8
  else
    withK (fun (_ : Unit) =>
        (restore_list_order n a0).bind fun y4 =>
        bif decide (y4.length < a0.length) then
          some 21
        else
          some 0) fun k1 =>
    loopN (restore_CheckTasks_L1 n a0 k1) n 0
def agraffebase_isLetter (n : Nat) (a0 : Int) : Option Unit :=
  some ()
def agraffebase_isDigit (n : Nat) (a0 : Int) : Option Unit :=
  some ()
def agraffebase_IsName_L1 (n : Nat) (a0 : Str) (k1 : (Unit → Option Bool)) (back : Nat → Option Bool) : Nat → Option Bool
  | v4 =>
  bif decide (v4 < a0.length) then
    (agraffebase_isLetter n (((List.getD a0 v4 0).toNat : Nat) : Int)).bind fun y5 =>
    (gcall (!(((decide ((97 : Int) ≤ (((List.getD a0 v4 0).toNat : Nat) : Int))) && (decide ((((List.getD a0 v4 0).toNat : Nat) : Int) ≤ (122 : Int)))) || ((decide ((65 : Int) ≤ (((List.getD a0 v4 0).toNat : Nat) : Int))) && (decide ((((List.getD a0 v4 0).toNat : Nat) : Int) ≤ (90 : Int)))))) (agraffebase_isDigit n (((List.getD a0 v4 0).toNat : Nat) : Int))).bind fun y6 =>
    bif ((!(((decide ((97 : Int) ≤ (((List.getD a0 v4 0).toNat : Nat) : Int))) && (decide ((((List.getD a0 v4 0).toNat : Nat) : Int) ≤ (122 : Int)))) || ((decide ((65 : Int) ≤ (((List.getD a0 v4 0).toNat : Nat) : Int))) && (decide ((((List.getD a0 v4 0).toNat : Nat) : Int) ≤ (90 : Int)))))) && (!((decide ((48 : Int) ≤ (((List.getD a0 v4 0).toNat : Nat) : Int))) && (decide ((((List.getD a0 v4 0).toNat : Nat) : Int) ≤ (57 : Int)))))) && ((((List.getD a0 v4 0).toNat : Nat) : Int) != (45 : Int)) then
      some false
    else
      chk (nI (v4 + 1)) <|
      back (v4 + 1)
  else
    k1 ()
def agraffebase_IsName (n : Nat) (a0 : Str) : Option Bool :=
  chk (!(!((decide (a0.length = 0)) || (decide (12 < a0.length)))) || decide (0 < a0.length)) <|
  (gcall (!((decide (a0.length = 0)) || (decide (12 < a0.length)))) (agraffebase_isLetter n (((List.getD a0 0 0).toNat : Nat) : Int))).bind fun y1 =>
  bif ((decide (a0.length = 0)) || (decide (12 < a0.length))) || (!(((decide ((97 : Int) ≤ (((List.getD a0 0 0).toNat : Nat) : Int))) && (decide ((((List.getD a0 0 0).toNat : Nat) : Int) ≤ (122 : Int)))) || ((decide ((65 : Int) ≤ (((List.getD a0 0 0).toNat : Nat) : Int))) && (decide ((((List.getD a0 0 0).toNat : Nat) : Int) ≤ (90 : Int)))))) then
    some false
  else
    withK (fun (_ : Unit) =>
        some true) fun k1 =>
    loopN (agraffebase_IsName_L1 n a0 k1) n 0
def agrafferef08_Find_L1 (a0 : List Task) (a1 : Str) (k1 : (Unit → Option Int)) (back : Nat → Option Int) : Nat → Option Int
  | v1 =>
  bif decide (v1 < a0.length) then
    bif (((ix a0 v1).Name) == a1) then
      some ((v1 : Nat) : Int)
    else
      chk (nI (v1 + 1)) <|
      back (v1 + 1)
  else
    k1 ()
def agrafferef08_Find (n : Nat) (a0 : List Task) (a1 : Str) : Option Int :=
  withK (fun (_ : Unit) =>
      some (-1)) fun k1 =>
  loopN (agrafferef08_Find_L1 a0 a1 k1) n 0
def agraffebase_Within (n : Nat) (a0 : Int) (a1 : Int) (a2 : Int) : Option Unit :=
  some ()
def agraffebase_HasText_L1 (a0 : List Str) (a1 : Str) (k1 : (Unit → Option Bool)) (back : Nat → Option Bool) : Nat → Option Bool
  | v1 =>
  bif decide (v1 < a0.length) then
    bif ((ix a0 v1) == a1) then
      some true
    else
      chk (nI (v1 + 1)) <|
      back (v1 + 1)
  else
    k1 ()
def agraffebase_HasText (n : Nat) (a0 : List Str) (a1 : Str) : Option Bool :=
  withK (fun (_ : Unit) =>
      some false) fun k1 =>
  loopN (agraffebase_HasText_L1 a0 a1 k1) n 0
def agrafferef08_tasks_L1 (n : Nat) (a0 : List Task) (a1 : List Str) (k1 : (Unit → Option Int)) (back : Nat → Option Int) : Nat → Option Int
  | v3 =>
  bif decide (v3 < a1.length) then
    (agrafferef08_Find n a0 (ix a1 v3)).bind fun y4 =>
    bif decide (y4 < (0 : Int)) then
      some 6
    else
      chk (decide (v3 ≤ a1.length)) <|
      (agraffebase_HasText n (List.take v3 a1) (ix a1 v3)).bind fun y5 =>
      bif y5 then
        some 5
      else
        chk (nI (v3 + 1)) <|
        back (v3 + 1)
  else
    k1 ()
def agrafferef08_tasks (n : Nat) (a0 : List Task) (a1 : List Str) : Option Int :=
  withK (fun (_ : Unit) =>
      some 0) fun k1 =>
  loopN (agrafferef08_tasks_L1 n a0 a1 k1) n 0
def agrafferef08_FindPart_L1 (a0 : List PartCount) (a1 : Str) (k1 : (Unit → Option Int)) (back : Nat → Option Int) : Nat → Option Int
  | v1 =>
  bif decide (v1 < a0.length) then
    bif (((ix a0 v1).Part) == a1) then
      some ((v1 : Nat) : Int)
    else
      chk (nI (v1 + 1)) <|
      back (v1 + 1)
  else
    k1 ()
def agrafferef08_FindPart (n : Nat) (a0 : List PartCount) (a1 : Str) : Option Int :=
  withK (fun (_ : Unit) =>
      some (-1)) fun k1 =>
  loopN (agrafferef08_FindPart_L1 a0 a1 k1) n 0
def agrafferef08_counts_L1 (n : Nat) (a0 : List PartCount) (a1 : Int) (k1 : (Unit → Option Int)) (back : Nat → Option Int) : Nat → Option Int
  | v4 =>
  bif decide (v4 < a0.length) then
    (agraffebase_IsName n ((ix a0 v4).Part)).bind fun y5 =>
    bif !y5 then
      some 4
    else
      chk (decide (v4 ≤ a0.length)) <|
      (agrafferef08_FindPart n (List.take v4 a0) ((ix a0 v4).Part)).bind fun y6 =>
      bif decide ((0 : Int) ≤ y6) then
        some 5
      else
        (agraffebase_Within n ((ix a0 v4).Count) 1 a1).bind fun y7 =>
        bif !((decide (1 ≤ ((ix a0 v4).Count))) && (decide (((ix a0 v4).Count) ≤ a1))) then
          some 2
        else
          chk (nI (v4 + 1)) <|
          back (v4 + 1)
  else
    k1 ()
def agrafferef08_counts (n : Nat) (a0 : List PartCount) (a1 : Int) : Option Int :=
  withK (fun (_ : Unit) =>
      some 0) fun k1 =>
  loopN (agrafferef08_counts_L1 n a0 a1 k1) n 0
def agrafferef08_task_L2 (n : Nat) (a0 : List Task) (a1 : Int) (k2 : (Unit → Option Int)) (back : Nat → Option Int) : Nat → Option Int
  | v10 =>
  bif decide (v10 < (((ix a0 a1.toNat).OneOf).length)) then
    chk (decide (v10 < ((ix a0 a1.toNat).OneOf).length)) <|
    bif decide (((ix ((ix a0 a1.toNat).OneOf) v10).length) = 0) then
      some 10
    else
      (agrafferef08_tasks n a0 (ix ((ix a0 a1.toNat).OneOf) v10)).bind fun y11 =>
      bif (y11 != (0 : Int)) then
        some y11
      else
        chk (nI (v10 + 1)) <|
        back (v10 + 1)
  else
    k2 ()
def agrafferef08_task_L1 (a0 : List Task) (a1 : Int) (k1 : (Bool → Option Int)) (back : Bool × Nat → Option Int) : Bool × Nat → Option Int
  | (v5, v6) =>
  bif decide (v6 < (((ix a0 a1.toNat).OneOf).length)) then
    chk (!(!v5) || decide (v6 < ((ix a0 a1.toNat).OneOf).length)) <|
    chk (!(!v5) || decide (v6 < ((ix a0 a1.toNat).OneOf).length)) <|
    chk (nI (v6 + 1)) <|
    back (v5 || (decide (6 < ((ix ((ix a0 a1.toNat).OneOf) v6).length))), v6 + 1)
  else
    k1 v5
def agrafferef08_task (n : Nat) (a0 : List Task) (a1 : Int) : Option Int :=
  chk (inB a1 a0.length) <|
  chk (decide (a1.toNat < a0.length)) <|
  (agraffebase_IsName n ((ix a0 a1.toNat).Name)).bind fun y1 =>
  bif !y1 then
    some 4
  else
    chk (inC a1 a0.length) <|
    (agrafferef08_Find n (List.take a1.toNat a0) ((ix a0 a1.toNat).Name)).bind fun y2 =>
    bif decide ((0 : Int) ≤ y2) then
      some 5
    else
      (agraffebase_Within n ((ix a0 a1.toNat).Cents) 0 1000000000).bind fun y3 =>
      (gcall (!(!((decide (0 ≤ ((ix a0 a1.toNat).Cents))) && (decide (((ix a0 a1.toNat).Cents) ≤ 1000000000))))) (agraffebase_Within n ((ix a0 a1.toNat).Hours) 0 10000)).bind fun y4 =>
      bif (!((decide (0 ≤ ((ix a0 a1.toNat).Cents))) && (decide (((ix a0 a1.toNat).Cents) ≤ 1000000000)))) || (!((decide (0 ≤ ((ix a0 a1.toNat).Hours))) && (decide (((ix a0 a1.toNat).Hours) ≤ 10000)))) then
        some 2
      else
        withK (fun (v7 : Bool) =>
            bif v7 then
              some 8
            else
              (agrafferef08_tasks n a0 ((ix a0 a1.toNat).Needs)).bind fun y8 =>
              bif (y8 != (0 : Int)) then
                some y8
              else
                withK (fun (_ : Unit) =>
                    (agrafferef08_counts n ((ix a0 a1.toNat).Parts) 1000).bind fun y12 =>
                    some y12) fun k2 =>
                loopN (agrafferef08_task_L2 n a0 a1 k2) n 0) fun k1 =>
        loopN (agrafferef08_task_L1 a0 a1 k1) n (((decide (10 < (((ix a0 a1.toNat).Needs).length))) || (decide (6 < (((ix a0 a1.toNat).OneOf).length)))) || (decide (10 < (((ix a0 a1.toNat).Parts).length))), 0)
def agrafferef08_Leads_L1 (a0 : Task) (k1 : ((List Str) → Option (List Str))) (back : Nat × (List Str) → Option (List Str)) : Nat × (List Str) → Option (List Str)
  | (v2, v3) =>
  bif decide (v2 < a0.OneOf.length) then
    chk (room 16 (v3 ++ (ix a0.OneOf v2)).length) <|
    chk (nI (v2 + 1)) <|
    back (v2 + 1, (v3 ++ (ix a0.OneOf v2)))
  else
    k1 v3
def agrafferef08_Leads (n : Nat) (a0 : Task) : Option (List Str) :=
  (agraffebase_CopyTexts_2 n a0.Needs).bind fun y1 =>
  withK (fun (v4 : (List Str)) =>
      some v4) fun k1 =>
  loopN (agrafferef08_Leads_L1 a0 k1) n (0, a0.Needs)
def agraffebase_HasText_2_L1 (a0 : List Str) (a1 : Str) (k1 : (Unit → Option Bool)) (back : Nat → Option Bool) : Nat → Option Bool
  | v1 =>
  bif decide (v1 < a0.length) then
    bif ((ix a0 v1) == a1) then
      some true
    else
      chk (nI (v1 + 1)) <|
      back (v1 + 1)
  else
    k1 ()
def agraffebase_HasText_2 (n : Nat) (a0 : List Str) (a1 : Str) : Option Bool :=
  withK (fun (_ : Unit) =>
      some false) fun k1 =>
  loopN (agraffebase_HasText_2_L1 a0 a1 k1) n 0
def agrafferef08_Order_L1 (n : Nat) (a1 : List Str) (v26 : List Str) (y42 : (List Str)) (k1 : (Bool → Option (List Str))) (back : Bool × Nat → Option (List Str)) : Bool × Nat → Option (List Str)
  | (v45, v46) =>
  bif decide (v46 < y42.length) then
    (gcall v45 (agraffebase_HasText n a1 (ix y42 v46))).bind fun y47 =>
    (gcall (v45 && !(!y47)) (agraffebase_HasText_2 n v26 (ix y42 v46))).bind fun y48 =>
    chk (nI (v46 + 1)) <|
    back (v45 && ((!y47) || y48), v46 + 1)
  else
    k1 v45
def agrafferef08_Order_L2 (n : Nat) (a0 : List Task) (a1 : List Str) (v26 : List Str) (k3 : (Int → Option (List Str))) (back : Int × Nat → Option (List Str)) : Int × Nat → Option (List Str)
  | (v38, v39) =>
  bif (decide (v39 < a0.length)) && (decide (v38 < (0 : Int))) then
    withK (fun (v50 : Int) =>
        chk (nI (v39 + 1)) <|
        back (v50, v39 + 1)) fun k2 =>
    chk (decide (v39 < a0.length)) <|
    (agraffebase_HasText n a1 ((ix a0 v39).Name)).bind fun y40 =>
    (gcall (!(!y40)) (agraffebase_HasText_2 n v26 ((ix a0 v39).Name))).bind fun y41 =>
    bif (!y40) || y41 then
      k2 v38
    else
      (agrafferef08_Leads n (ix a0 v39)).bind fun y42 =>
      withK (fun (v49 : Bool) =>
          bif v49 then
            k2 ((v39 : Nat) : Int)
          else
            k2 v38) fun k1 =>
      loopN (agrafferef08_Order_L1 n a1 v26 y42 k1) n (true, 0)
  else
    k3 v38
def agrafferef08_Order_L3 (n : Nat) (a0 : List Task) (a1 : List Str) (back : (List Str) → Option (List Str)) : (List Str) → Option (List Str)
  | v26 =>
  withK (fun (v51 : Int) =>
      bif decide (v51 < (0 : Int)) then
        some v26
      else
        chk (inB v51 a0.length) <|
        chk (decide (v51.toNat < a0.length)) <|
        chk (room 16 (v26 ++ ([(ix a0 v51.toNat).Name] : List Str)).length) <|
        back (v26 ++ ([(ix a0 v51.toNat).Name] : List Str))) fun k3 =>
  loopN (agrafferef08_Order_L2 n a0 a1 v26 k3) n ((-1), 0)
def agrafferef08_Order (n : Nat) (a0 : List Task) (a1 : List Str) : Option (List Str) :=
  loopN (agrafferef08_Order_L3 n a0 a1) n ([] : List Str)
def agrafferef08_CheckTasks_L2 (a0 : List Task) (k2 : ((List Str) → Option Int)) (back : (List Str) × Nat → Option Int) : (List Str) × Nat → Option Int
  | (v4, v5) =>
  bif decide (v5 < a0.length) then
    chk (room 16 (v4 ++ ([(ix a0 v5).Name] : List Str)).length) <|
    chk (nI (v5 + 1)) <|
    back ((v4 ++ ([(ix a0 v5).Name] : List Str)), v5 + 1)
  else
    k2 v4
def agrafferef08_CheckTasks_L1 (n : Nat) (a0 : List Task) (k1 : (Unit → Option Int)) (back : Nat → Option Int) : Nat → Option Int
  | v2 =>
  bif decide (v2 < a0.length) then
    (agrafferef08_task n a0 ((v2 : Nat) : Int)).bind fun y3 =>
    bif (y3 != (0 : Int)) then
      some y3
    else
      chk (nI (v2 + 1)) <|
      back (v2 + 1)
  else
    k1 ()
def agrafferef08_CheckTasks (n : Nat) (a0 : List Task) : Option Int :=
  bif decide (60 < a0.length) then
    some 8
  else
    withK (fun (_ : Unit) =>
        withK (fun (v6 : (List Str)) =>
            (agrafferef08_Order n a0 v6).bind fun y7 =>
            bif decide (y7.length < a0.length) then
              some 21
            else
              some 0) fun k2 =>
        loopN (agrafferef08_CheckTasks_L2 a0 k2) n (([] : List Str), 0)) fun k1 =>
    loopN (agrafferef08_CheckTasks_L1 n a0 k1) n 0
def agraffelaw08_stock (n : Nat) (a0 : List Stocked) : Option Unit :=
  chk (room 32 a0.length) <|
  some ()
def restore_stocked_f1 (n : Nat) (a0 : Stocked) (a1 : Str) : Option Unit :=
  some ()
def slices_IndexFunc_Stocked_L1 (n : Nat) (a0 : List Stocked) (a1 : Str) (k1 : (Unit → Option Int)) (back : Nat → Option Int) : Nat → Option Int
  | v2 =>
  bif decide (v2 < a0.length) then
    (restore_stocked_f1 n (ix a0 v2) a1).bind fun y3 =>
    bif ((ix a0 v2).Part == a1) then
      some ((v2 : Nat) : Int)
    else
      chk (nI (v2 + 1)) <|
      back (v2 + 1)
  else
    k1 ()
def slices_IndexFunc_Stocked (n : Nat) (a0 : List Stocked) (a1 : Str) : Option Int :=
  withK (fun (_ : Unit) =>
      some (-1)) fun k1 =>
  loopN (slices_IndexFunc_Stocked_L1 n a0 a1 k1) n 0
def restore_stocked (n : Nat) (a0 : List Stocked) (a1 : Str) : Option Int :=
  (slices_IndexFunc_Stocked n a0 a1).bind fun y1 =>
  some y1
def restore_CheckStock_L1 (n : Nat) (a0 : List Stocked) (k1 : (Unit → Option Int)) (back : Nat → Option Int) : Nat → Option Int
  | v5 =>
  bif decide (v5 < a0.length) then
    (restore_isName n ((ix a0 v5).Part)).bind fun y6 =>
    bif !y6 then
      some 4
    else
      chk (decide (v5 ≤ a0.length)) <|
      (restore_stocked n (List.take v5 a0) ((ix a0 v5).Part)).bind fun y7 =>
      bif decide ((0 : Int) ≤ y7) then
        some 5
      else
        (restore_within n ((ix a0 v5).Cents) 0 1000000000).bind fun y8 =>
        (gcall (!(!((decide (0 ≤ ((ix a0 v5).Cents))) && (decide (((ix a0 v5).Cents) ≤ 1000000000))))) (restore_within n ((ix a0 v5).Count) 0 10000)).bind fun y9 =>
        bif (!((decide (0 ≤ ((ix a0 v5).Cents))) && (decide (((ix a0 v5).Cents) ≤ 1000000000)))) || (!((decide (0 ≤ ((ix a0 v5).Count))) && (decide (((ix a0 v5).Count) ≤ 10000)))) then
          some 2
        else
          chk (nI (v5 + 1)) <|
          back (v5 + 1)
  else
    k1 ()
def restore_CheckStock (n : Nat) (a0 : List Stocked) : Option Int :=
  bif decide (60 < a0.length) then
    some 8
  else
    withK (fun (_ : Unit) =>
        some 0) fun k1 =>
    loopN (restore_CheckStock_L1 n a0 k1) n 0
def agrafferef08_FindStock_L1 (a0 : List Stocked) (a1 : Str) (k1 : (Unit → Option Int)) (back : Nat → Option Int) : Nat → Option Int
  | v1 =>
  bif decide (v1 < a0.length) then
    bif (((ix a0 v1).Part) == a1) then
      some ((v1 : Nat) : Int)
    else
      chk (nI (v1 + 1)) <|
      back (v1 + 1)
  else
    k1 ()
def agrafferef08_FindStock (n : Nat) (a0 : List Stocked) (a1 : Str) : Option Int :=
  withK (fun (_ : Unit) =>
      some (-1)) fun k1 =>
  loopN (agrafferef08_FindStock_L1 a0 a1 k1) n 0
def agrafferef08_CheckStock_L1 (n : Nat) (a0 : List Stocked) (k1 : (Unit → Option Int)) (back : Nat → Option Int) : Nat → Option Int
  | v5 =>
  bif decide (v5 < a0.length) then
    (agraffebase_IsName n ((ix a0 v5).Part)).bind fun y6 =>
    bif !y6 then
      some 4
    else
      chk (decide (v5 ≤ a0.length)) <|
      (agrafferef08_FindStock n (List.take v5 a0) ((ix a0 v5).Part)).bind fun y7 =>
      bif decide ((0 : Int) ≤ y7) then
        some 5
      else
        (agraffebase_Within n ((ix a0 v5).Cents) 0 1000000000).bind fun y8 =>
        (gcall (!(!((decide (0 ≤ ((ix a0 v5).Cents))) && (decide (((ix a0 v5).Cents) ≤ 1000000000))))) (agraffebase_Within n ((ix a0 v5).Count) 0 10000)).bind fun y9 =>
        bif (!((decide (0 ≤ ((ix a0 v5).Cents))) && (decide (((ix a0 v5).Cents) ≤ 1000000000)))) || (!((decide (0 ≤ ((ix a0 v5).Count))) && (decide (((ix a0 v5).Count) ≤ 10000)))) then
          some 2
        else
          chk (nI (v5 + 1)) <|
          back (v5 + 1)
  else
    k1 ()
def agrafferef08_CheckStock (n : Nat) (a0 : List Stocked) : Option Int :=
  bif decide (60 < a0.length) then
    some 8
  else
    withK (fun (_ : Unit) =>
        some 0) fun k1 =>
    loopN (agrafferef08_CheckStock_L1 n a0 k1) n 0
def restore_list_checkSet_L2 (a1 : List Str) (k2 : (Unit → Option Int)) (back : Nat → Option Int) : Nat → Option Int
  | v4 =>
  bif decide (v4 < a1.length) then
    chk (inI (((v4 : Nat) : Int) - 1)) <|
    chk (inB (((v4 : Nat) : Int) - 1) a1.length) <|
    chk (decide ((((v4 : Nat) : Int) - 1).toNat < a1.length)) <|
    bif (bLt (ix a1 v4) (ix a1 ((((v4 : Nat) : Int) - 1).toNat)) || ((ix a1 v4) == (ix a1 ((((v4 : Nat) : Int) - 1).toNat)))) then
      some 9
    else
      chk (nI (v4 + 1)) <|
      back (v4 + 1)
  else
    k2 ()
def restore_list_checkSet_L1 (n : Nat) (a0 : List Task) (a1 : List Str) (k1 : (Unit → Option Int)) (back : Nat → Option Int) : Nat → Option Int
  | v2 =>
  bif decide (v2 < a1.length) then
    (restore_list_find n a0 (ix a1 v2)).bind fun y3 =>
    bif decide (y3 < (0 : Int)) then
      some 6
    else
      chk (nI (v2 + 1)) <|
      back (v2 + 1)
  else
    k1 ()
def restore_list_checkSet (n : Nat) (a0 : List Task) (a1 : List Str) : Option Int :=
  withK (fun (_ : Unit) =>
      withK (fun (_ : Unit) =>
          some 0) fun k2 =>
      loopN (restore_list_checkSet_L2 a1 k2) n 1) fun k1 =>
  loopN (restore_list_checkSet_L1 n a0 a1 k1) n 0
def restore_checkSets_L1 (n : Nat) (a0 : List Task) (a1 : List (List Str)) (k1 : (Unit → Option Int)) (back : Nat → Option Int) : Nat → Option Int
  | v3 =>
  bif decide (v3 < a1.length) then
    (restore_list_checkSet n a0 (ix a1 v3)).bind fun y4 =>
    bif (y4 != (0 : Int)) then
      some y4
    else
      chk (nI (v3 + 1)) <|
      back (v3 + 1)
  else
    k1 ()
def restore_checkSets (n : Nat) (a0 : List Task) (a1 : List (List Str)) : Option Int :=
  (restore_CheckTasks n a0).bind fun y1 =>
  bif (y1 != (0 : Int)) then
    some y1
  else
    withK (fun (_ : Unit) =>
        some 0) fun k1 =>
    loopN (restore_checkSets_L1 n a0 a1 k1) n 0
def math_bits_Len64 (n : Nat) (a0 : Int) : Option Int :=
  withK (fun (v1, v2) =>
      withK (fun (v3, v4) =>
          withK (fun (v5, v6) =>
              chk (inB (IntKind.u8.wrap v5) (([0, 1, 2, 2, 3, 3, 3, 3, 4, 4, 4, 4, 4, 4, 4, 4, 5, 5, 5, 5, 5, 5, 5, 5, 5, 5, 5, 5, 5, 5, 5, 5, 6, 6, 6, 6, 6, 6, 6, 6, 6, 6, 6, 6, 6, 6, 6, 6, 6, 6, 6, 6, 6, 6, 6, 6, 6, 6, 6, 6, 6, 6, 6, 6, 7, 7, 7, 7, 7, 7, 7, 7, 7, 7, 7, 7, 7, 7, 7, 7, 7, 7, 7, 7, 7, 7, 7, 7, 7, 7, 7, 7, 7, 7, 7, 7, 7, 7, 7, 7, 7, 7, 7, 7, 7, 7, 7, 7, 7, 7, 7, 7, 7, 7, 7, 7, 7, 7, 7, 7, 7, 7, 7, 7, 7, 7, 7, 7, 8, 8, 8, 8, 8, 8, 8, 8, 8, 8, 8, 8, 8, 8, 8, 8, 8, 8, 8, 8, 8, 8, 8, 8, 8, 8, 8, 8, 8, 8, 8, 8, 8, 8, 8, 8, 8, 8, 8, 8, 8, 8, 8, 8, 8, 8, 8, 8, 8, 8, 8, 8, 8, 8, 8, 8, 8, 8, 8, 8, 8, 8, 8, 8, 8, 8, 8, 8, 8, 8, 8, 8, 8, 8, 8, 8, 8, 8, 8, 8, 8, 8, 8, 8, 8, 8, 8, 8, 8, 8, 8, 8, 8, 8, 8, 8, 8, 8, 8, 8, 8, 8, 8, 8, 8, 8, 8, 8, 8, 8, 8, 8, 8, 8, 8, 8, 8, 8, 8, 8, 8, 8, 8, 8, 8, 8, 8, 8] : Str).length)) <|
              chk (inI (v6 + (((List.getD ([0, 1, 2, 2, 3, 3, 3, 3, 4, 4, 4, 4, 4, 4, 4, 4, 5, 5, 5, 5, 5, 5, 5, 5, 5, 5, 5, 5, 5, 5, 5, 5, 6, 6, 6, 6, 6, 6, 6, 6, 6, 6, 6, 6, 6, 6, 6, 6, 6, 6, 6, 6, 6, 6, 6, 6, 6, 6, 6, 6, 6, 6, 6, 6, 7, 7, 7, 7, 7, 7, 7, 7, 7, 7, 7, 7, 7, 7, 7, 7, 7, 7, 7, 7, 7, 7, 7, 7, 7, 7, 7, 7, 7, 7, 7, 7, 7, 7, 7, 7, 7, 7, 7, 7, 7, 7, 7, 7, 7, 7, 7, 7, 7, 7, 7, 7, 7, 7, 7, 7, 7, 7, 7, 7, 7, 7, 7, 7, 8, 8, 8, 8, 8, 8, 8, 8, 8, 8, 8, 8, 8, 8, 8, 8, 8, 8, 8, 8, 8, 8, 8, 8, 8, 8, 8, 8, 8, 8, 8, 8, 8, 8, 8, 8, 8, 8, 8, 8, 8, 8, 8, 8, 8, 8, 8, 8, 8, 8, 8, 8, 8, 8, 8, 8, 8, 8, 8, 8, 8, 8, 8, 8, 8, 8, 8, 8, 8, 8, 8, 8, 8, 8, 8, 8, 8, 8, 8, 8, 8, 8, 8, 8, 8, 8, 8, 8, 8, 8, 8, 8, 8, 8, 8, 8, 8, 8, 8, 8, 8, 8, 8, 8, 8, 8, 8, 8, 8, 8, 8, 8, 8, 8, 8, 8, 8, 8, 8, 8, 8, 8, 8, 8, 8, 8, 8, 8] : Str) ((IntKind.u8.wrap v5).toNat) 0).toNat : Nat) : Int))) <|
              some (v6 + (((List.getD ([0, 1, 2, 2, 3, 3, 3, 3, 4, 4, 4, 4, 4, 4, 4, 4, 5, 5, 5, 5, 5, 5, 5, 5, 5, 5, 5, 5, 5, 5, 5, 5, 6, 6, 6, 6, 6, 6, 6, 6, 6, 6, 6, 6, 6, 6, 6, 6, 6, 6, 6, 6, 6, 6, 6, 6, 6, 6, 6, 6, 6, 6, 6, 6, 7, 7, 7, 7, 7, 7, 7, 7, 7, 7, 7, 7, 7, 7, 7, 7, 7, 7, 7, 7, 7, 7, 7, 7, 7, 7, 7, 7, 7, 7, 7, 7, 7, 7, 7, 7, 7, 7, 7, 7, 7, 7, 7, 7, 7, 7, 7, 7, 7, 7, 7, 7, 7, 7, 7, 7, 7, 7, 7, 7, 7, 7, 7, 7, 8, 8, 8, 8, 8, 8, 8, 8, 8, 8, 8, 8, 8, 8, 8, 8, 8, 8, 8, 8, 8, 8, 8, 8, 8, 8, 8, 8, 8, 8, 8, 8, 8, 8, 8, 8, 8, 8, 8, 8, 8, 8, 8, 8, 8, 8, 8, 8, 8, 8, 8, 8, 8, 8, 8, 8, 8, 8, 8, 8, 8, 8, 8, 8, 8, 8, 8, 8, 8, 8, 8, 8, 8, 8, 8, 8, 8, 8, 8, 8, 8, 8, 8, 8, 8, 8, 8, 8, 8, 8, 8, 8, 8, 8, 8, 8, 8, 8, 8, 8, 8, 8, 8, 8, 8, 8, 8, 8, 8, 8, 8, 8, 8, 8, 8, 8, 8, 8, 8, 8, 8, 8, 8, 8, 8, 8, 8, 8] : Str) ((IntKind.u8.wrap v5).toNat) 0).toNat : Nat) : Int))) fun k3 =>
          bif decide ((256 : Int) ≤ v3) then
            chk (inI (v4 + 8)) <|
            k3 (Int.fdiv v3 (2 ^ (min 8 64)), v4 + 8)
          else
            k3 (v3, v4)) fun k2 =>
      bif decide ((65536 : Int) ≤ v1) then
        chk (inI (v2 + 16)) <|
        k2 (Int.fdiv v1 (2 ^ (min 16 64)), v2 + 16)
      else
        k2 (v1, v2)) fun k1 =>
  bif decide ((4294967296 : Int) ≤ a0) then
    k1 (Int.fdiv a0 (2 ^ (min 32 64)), 32)
  else
    k1 (a0, 0)
def math_bits_Len (n : Nat) (a0 : Int) : Option Int :=
  (math_bits_Len64 n a0).bind fun y1 =>
  some y1
def cmp_isNaN_string (n : Nat) (a0 : Str) : Option Unit :=
  some ()
def agrafferef08_CheckSet_L2 (a1 : List Str) (k2 : (Unit → Option Int)) (back : Nat → Option Int) : Nat → Option Int
  | v4 =>
  bif decide (v4 < a1.length) then
    chk (inI (((v4 : Nat) : Int) - 1)) <|
    chk (inB (((v4 : Nat) : Int) - 1) a1.length) <|
    chk (decide ((((v4 : Nat) : Int) - 1).toNat < a1.length)) <|
    bif !bLt (ix a1 ((((v4 : Nat) : Int) - 1).toNat)) (ix a1 v4) then
      some 9
    else
      chk (nI (v4 + 1)) <|
      back (v4 + 1)
  else
    k2 ()
def agrafferef08_CheckSet_L1 (n : Nat) (a0 : List Task) (a1 : List Str) (k1 : (Unit → Option Int)) (back : Nat → Option Int) : Nat → Option Int
  | v2 =>
  bif decide (v2 < a1.length) then
    (agrafferef08_Find n a0 (ix a1 v2)).bind fun y3 =>
    bif decide (y3 < (0 : Int)) then
      some 6
    else
      chk (nI (v2 + 1)) <|
      back (v2 + 1)
  else
    k1 ()
def agrafferef08_CheckSet (n : Nat) (a0 : List Task) (a1 : List Str) : Option Int :=
  withK (fun (_ : Unit) =>
      withK (fun (_ : Unit) =>
          some 0) fun k2 =>
      loopN (agrafferef08_CheckSet_L2 a1 k2) n 1) fun k1 =>
  loopN (agrafferef08_CheckSet_L1 n a0 a1 k1) n 0
def restore_costOf_L1 (n : Nat) (a0 : Task) (a1 : List Stocked) (k1 : (Int → Option (Int × Bool))) (back : Int × Nat → Option (Int × Bool)) : Int × Nat → Option (Int × Bool)
  | (v2, v3) =>
  bif decide (v3 < a0.Parts.length) then
    (restore_stocked n a1 ((ix a0.Parts v3).Part)).bind fun y4 =>
    bif decide (y4 < (0 : Int)) then
      some (0, false)
    else
      chk (inB y4 a1.length) <|
      chk (decide (y4.toNat < a1.length)) <|
      chk (inI (((ix a0.Parts v3).Count) * ((ix a1 y4.toNat).Cents))) <|
      chk (inI (v2 + (((ix a0.Parts v3).Count) * ((ix a1 y4.toNat).Cents)))) <|
      chk (nI (v3 + 1)) <|
      back (v2 + (((ix a0.Parts v3).Count) * ((ix a1 y4.toNat).Cents)), v3 + 1)
  else
    k1 v2
def restore_costOf (n : Nat) (a0 : Task) (a1 : List Stocked) : Option (Int × Bool) :=
  withK (fun (v5 : Int) =>
      some (v5, true)) fun k1 =>
  loopN (restore_costOf_L1 n a0 a1 k1) n (a0.Cents, 0)
def restore_Cost_L1 (n : Nat) (a0 : List Task) (a1 : List Stocked) (a2 : List Str) (k1 : (Int → Option (Int × Int))) (back : Int × Nat → Option (Int × Int)) : Int × Nat → Option (Int × Int)
  | (v6, v7) =>
  bif decide (v7 < a2.length) then
    (restore_list_find n a0 (ix a2 v7)).bind fun y8 =>
    chk (inB y8 a0.length) <|
    chk (decide (y8.toNat < a0.length)) <|
    (restore_costOf n (ix a0 y8.toNat) a1).bind fun y9 =>
    bif !y9.2 then
      some (6, 0)
    else
      chk (inI (v6 + y9.1)) <|
      chk (nI (v7 + 1)) <|
      back (v6 + y9.1, v7 + 1)
  else
    k1 v6
def restore_Cost (n : Nat) (a0 : List Task) (a1 : List Stocked) (a2 : List Str) : Option (Int × Int) :=
  (restore_CheckTasks n a0).bind fun y1 =>
  bif (y1 != (0 : Int)) then
    some (y1, 0)
  else
    (restore_CheckStock n a1).bind fun y2 =>
    bif (y2 != (0 : Int)) then
      some (y2, 0)
    else
      (restore_list_checkSet n a0 a2).bind fun y3 =>
      bif (y3 != (0 : Int)) then
        some (y3, 0)
      else
        withK (fun (v10 : Int) =>
            some (0, v10)) fun k1 =>
        loopN (restore_Cost_L1 n a0 a1 a2 k1) n (0, 0)
def agrafferef08_Cost_L1 (n : Nat) (a0 : List Task) (a1 : List Stocked) (y9 : Int) (k1 : (Int → Option (Int × Bool))) (back : Int × Nat → Option (Int × Bool)) : Int × Nat → Option (Int × Bool)
  | (v11, v12) =>
  bif decide (v12 < (((ix a0 y9.toNat).Parts).length)) then
    chk (decide (v12 < ((ix a0 y9.toNat).Parts).length)) <|
    (agrafferef08_FindStock n a1 ((ix ((ix a0 y9.toNat).Parts) v12).Part)).bind fun y13 =>
    bif decide (y13 < (0 : Int)) then
      some (0, false)
    else
      chk (inB y13 a1.length) <|
      chk (decide (y13.toNat < a1.length)) <|
      chk (inI (((ix ((ix a0 y9.toNat).Parts) v12).Count) * ((ix a1 y13.toNat).Cents))) <|
      chk (inI (v11 + (((ix ((ix a0 y9.toNat).Parts) v12).Count) * ((ix a1 y13.toNat).Cents)))) <|
      chk (nI (v12 + 1)) <|
      back (v11 + (((ix ((ix a0 y9.toNat).Parts) v12).Count) * ((ix a1 y13.toNat).Cents)), v12 + 1)
  else
    k1 v11
def agrafferef08_Cost_L2 (n : Nat) (a0 : List Task) (a1 : List Stocked) (a2 : List Str) (k2 : (Int → Option (Int × Bool))) (back : Int × Nat → Option (Int × Bool)) : Int × Nat → Option (Int × Bool)
  | (v7, v8) =>
  bif decide (v8 < a2.length) then
    withK (fun (v14 : Int) =>
        chk (nI (v8 + 1)) <|
        back (v14, v8 + 1)) fun k1 =>
    (agrafferef08_Find n a0 (ix a2 v8)).bind fun y9 =>
    chk (inB y9 a0.length) <|
    chk (decide (y9.toNat < a0.length)) <|
    chk (inI (v7 + ((ix a0 y9.toNat).Cents))) <|
    loopN (agrafferef08_Cost_L1 n a0 a1 y9 k1) n (v7 + ((ix a0 y9.toNat).Cents), 0)
  else
    k2 v7
def agrafferef08_Cost (n : Nat) (a0 : List Task) (a1 : List Stocked) (a2 : List Str) : Option (Int × Bool) :=
  withK (fun (v15 : Int) =>
      some (v15, true)) fun k2 =>
  loopN (agrafferef08_Cost_L2 n a0 a1 a2 k2) n (0, 0)
def cmp_Compare_string (n : Nat) (a0 : Str) (a1 : Str) : Option Int :=
  (cmp_isNaN_string n a0).bind fun y1 =>
  (cmp_isNaN_string n a1).bind fun y2 =>
  bif !(a0 == a0) then
    bif !(a1 == a1) then
      some 0
    else
      some (-1)
  else
    bif !(a1 == a1) then
      some 1
    else
      bif bLt a0 a1 then
        some (-1)
      else
        bif !(bLt a0 a1 || (a0 == a1)) then
          some 1
        else
          some 0
def restore_PartsOf_f1 (n : Nat) (a0 : PartCount) (a1 : PartCount) : Option Int :=
  (cmp_Compare_string n a0.Part a1.Part).bind fun y1 =>
  some y1
def slices_insertionSortCmpFunc_PartCount_L1 (n : Nat) (a1 : Int) (k1 : ((List PartCount) → Option (List PartCount))) (back : Int × (List PartCount) → Option (List PartCount)) : Int × (List PartCount) → Option (List PartCount)
  | (v9, v10) =>
  chk (!(decide (a1 < v9)) || inB v9 v10.length) <|
  chk (!(decide (a1 < v9)) || decide (v9.toNat < v10.length)) <|
  chk (!(decide (a1 < v9)) || inI (v9 - 1)) <|
  chk (!(decide (a1 < v9)) || inB (v9 - 1) v10.length) <|
  chk (!(decide (a1 < v9)) || decide ((v9 - 1).toNat < v10.length)) <|
  (gcall (decide (a1 < v9)) (restore_PartsOf_f1 n (ix v10 v9.toNat) (ix v10 ((v9 - 1).toNat)))).bind fun y11 =>
  bif (decide (a1 < v9)) && (decide (y11 < (0 : Int))) then
    chk (inI (v9 - 1)) <|
    chk (inB (v9 - 1) v10.length) <|
    chk (decide ((v9 - 1).toNat < v10.length)) <|
    chk (inB v9 v10.length) <|
    chk (decide (v9.toNat < v10.length)) <|
    chk (decide ((v9 - 1).toNat < (List.set v10 v9.toNat (ix v10 ((v9 - 1).toNat))).length)) <|
    back (v9 - 1, (List.set (List.set v10 v9.toNat (ix v10 ((v9 - 1).toNat))) ((v9 - 1).toNat) (ix v10 v9.toNat)))
  else
    k1 v10
def slices_insertionSortCmpFunc_PartCount_L2 (n : Nat) (a1 : Int) (a2 : Int) (back : Int × (List PartCount) → Option (List PartCount)) : Int × (List PartCount) → Option (List PartCount)
  | (v6, v7) =>
  bif decide (v6 < a2) then
    withK (fun (v12 : (List PartCount)) =>
        chk (inI (v6 + 1)) <|
        back (v6 + 1, v12)) fun k1 =>
    loopN (slices_insertionSortCmpFunc_PartCount_L1 n a1 k1) n (v6, v7)
  else
    some v7
def slices_insertionSortCmpFunc_PartCount (n : Nat) (a0 : List PartCount) (a1 : Int) (a2 : Int) : Option (List PartCount) :=
  chk (inI (a1 + 1)) <|
  loopN (slices_insertionSortCmpFunc_PartCount_L2 n a1 a2) n (a1 + 1, a0)
def slices_pdqsortCmpFunc_PartCount_L1 (n : Nat) (a0 : List PartCount) (a1 : Int) (a2 : Int) (a3 : Int) (back : Unit → Option (List PartCount)) : Unit → Option (List PartCount)
  | _ =>
  chk (inI (a2 - a1)) <|
  bif decide ((a2 - a1) ≤ (12 : Int)) then
    (slices_insertionSortCmpFunc_PartCount n a0 a1 a2).bind fun y1 =>
    chk (decide (a0.length = y1.length)) <|
    some y1
  else
    bif (a3 == (0 : Int)) then
      none
    else
      none
def slices_pdqsortCmpFunc_PartCount (n : Nat) (a0 : List PartCount) (a1 : Int) (a2 : Int) (a3 : Int) : Option (List PartCount) :=
  loopN (slices_pdqsortCmpFunc_PartCount_L1 n a0 a1 a2 a3) n ()
def slices_SortFunc_PartCount (n : Nat) (a0 : List PartCount) : Option (List PartCount) :=
  (math_bits_Len n (IntKind.u64.wrap ((a0.length : Nat) : Int))).bind fun y1 =>
  (slices_pdqsortCmpFunc_PartCount n a0 0 ((a0.length : Nat) : Int) y1).bind fun y2 =>
  chk (decide (a0.length = y2.length)) <|
  some y2
noncomputable def restore_PartsOf_L3 (k3 : ((List PartCount) → Option (Int × (List PartCount)))) (back : (List PartCount) × (Option (Str × Int)) × (List (Str × Int)) → Option (Int × (List PartCount))) : (List PartCount) × (Option (Str × Int)) × (List (Str × Int)) → Option (Int × (List PartCount))
  | (v15, v16, v17) =>
  bif decide (v17.length = 0) then
    k3 v15
  else
    pickK v17 fun j18 x19 =>
    chk (room 24 (v15 ++ ([(PartCount.mk x19.1 x19.2)] : List PartCount)).length) <|
    back ((v15 ++ ([(PartCount.mk x19.1 x19.2)] : List PartCount)), (some x19), (List.eraseIdx v17 j18))
def restore_PartsOf_L1 (a0 : List Task) (y8 : Int) (k1 : ((List (Str × Int)) → Option (Int × (List PartCount)))) (back : Nat × (List (Str × Int)) → Option (Int × (List PartCount))) : Nat × (List (Str × Int)) → Option (Int × (List PartCount))
  | (v9, v10) =>
  bif decide (v9 < (((ix a0 y8.toNat).Parts).length)) then
    chk (decide (v9 < ((ix a0 y8.toNat).Parts).length)) <|
    chk (inI ((Option.getD (List.lookup ((ix ((ix a0 y8.toNat).Parts) v9).Part) v10) (0 : Int)) + ((ix ((ix a0 y8.toNat).Parts) v9).Count))) <|
    chk (nI (v9 + 1)) <|
    back (v9 + 1, (mPut ((ix ((ix a0 y8.toNat).Parts) v9).Part) ((Option.getD (List.lookup ((ix ((ix a0 y8.toNat).Parts) v9).Part) v10) (0 : Int)) + ((ix ((ix a0 y8.toNat).Parts) v9).Count)) v10))
  else
    k1 v10
def restore_PartsOf_L2 (n : Nat) (a0 : List Task) (a1 : List Str) (k2 : ((List (Str × Int)) → Option (Int × (List PartCount)))) (back : Nat × (List (Str × Int)) → Option (Int × (List PartCount))) : Nat × (List (Str × Int)) → Option (Int × (List PartCount))
  | (v6, v7) =>
  bif decide (v6 < a1.length) then
    withK (fun (v11 : (List (Str × Int))) =>
        chk (nI (v6 + 1)) <|
        back (v6 + 1, v11)) fun k1 =>
    (restore_list_find n a0 (ix a1 v6)).bind fun y8 =>
    chk (inB y8 a0.length) <|
    chk (decide (y8.toNat < a0.length)) <|
    loopN (restore_PartsOf_L1 a0 y8 k1) n (0, v7)
  else
    k2 v7
noncomputable def restore_PartsOf (n : Nat) (a0 : List Task) (a1 : List Str) : Option (Int × (List PartCount)) :=
  (restore_checkSets n a0 ([a1] : List (List Str))).bind fun y1 =>
  bif (y1 != (0 : Int)) then
    some (y1, ([] : List PartCount))
  else
    withK (fun (v12 : (List (Str × Int))) =>
        withK (fun (v20 : (List PartCount)) =>
            (slices_SortFunc_PartCount n v20).bind fun y21 =>
            chk (decide (v20.length = y21.length)) <|
            some (0, y21)) fun k3 =>
        loopN (restore_PartsOf_L3 k3) n (([] : List PartCount), none, v12)) fun k2 =>
    loopN (restore_PartsOf_L2 n a0 a1 k2) n (0, ([] : List (Str × Int)))
def agraffelaw08_RestoreCosts_L2 (n : Nat) (a1 : List Stocked) (y17 : Int × (List PartCount)) (k4 : (Int → Option Bool)) (back : Int × Nat → Option Bool) : Int × Nat → Option Bool
  | (v24, v25) =>
  bif decide (v25 < y17.2.length) then
    (agrafferef08_FindStock n a1 ((ix y17.2 v25).Part)).bind fun y26 =>
    bif decide (y26 < (0 : Int)) then
      some false
    else
      chk (inB y26 a1.length) <|
      chk (decide (y26.toNat < a1.length)) <|
      chk (inI (((ix y17.2 v25).Count) * ((ix a1 y26.toNat).Cents))) <|
      chk (inI (v24 + (((ix y17.2 v25).Count) * ((ix a1 y26.toNat).Cents)))) <|
      chk (nI (v25 + 1)) <|
      back (v24 + (((ix y17.2 v25).Count) * ((ix a1 y26.toNat).Cents)), v25 + 1)
  else
    k4 v24
def agraffelaw08_RestoreCosts_L1 (n : Nat) (a0 : List Task) (a2 : List Str) (k3 : (Int → Option Bool)) (back : Int × Nat → Option Bool) : Int × Nat → Option Bool
  | (v19, v20) =>
  bif decide (v20 < a2.length) then
    (agrafferef08_Find n a0 (ix a2 v20)).bind fun y21 =>
    chk (inB y21 a0.length) <|
    chk (decide (y21.toNat < a0.length)) <|
    chk (inI (v19 + ((ix a0 y21.toNat).Cents))) <|
    chk (nI (v20 + 1)) <|
    back (v19 + ((ix a0 y21.toNat).Cents), v20 + 1)
  else
    k3 v19
noncomputable def agraffelaw08_RestoreCosts (n : Nat) (a0 : List Task) (a1 : List Stocked) (a2 : List Str) : Option Bool :=
  (agraffelaw08_awake n).bind fun y1 =>
  bif !y1 then
    some false
  else
    (agraffelaw08_Few n a0).bind fun y2 =>
    (gcall (!(!y2)) (agraffelaw08_stocked n a1)).bind fun y3 =>
    (gcall (!((!y2) || (!y3))) (agraffelaw08_texts n a2 12)).bind fun y4 =>
    bif ((!y2) || (!y3)) || (!y4) then
      some true
    else
      (agraffelaw08_Copied n a0).bind fun y5 =>
      (agraffelaw08_stock n a1).bind fun y6 =>
      (agraffebase_CopyTexts_2 n a2).bind fun y7 =>
      (restore_Cost n y5 a1 a2).bind fun y8 =>
      (agrafferef08_CheckTasks n a0).bind fun y9 =>
      withK (fun (v11 : Int) =>
          withK (fun (v13 : Int) =>
              bif (v13 != (0 : Int)) then
                some ((y8.1 == v13) && (y8.2 == (0 : Int)))
              else
                (agrafferef08_Cost n a0 a1 a2).bind fun y14 =>
                bif !y14.2 then
                  some ((y8.1 == (6 : Int)) && (y8.2 == (0 : Int)))
                else
                  (agraffelaw08_Copied n a0).bind fun y15 =>
                  (agraffebase_CopyTexts_2 n a2).bind fun y16 =>
                  (restore_PartsOf n y15 a2).bind fun y17 =>
                  withK (fun (v22 : Int) =>
                      withK (fun (v27 : Int) =>
                          some ((((y8.1 == (0 : Int)) && (y8.2 == y14.1)) && (y17.1 == (0 : Int))) && (v27 == y14.1))) fun k4 =>
                      loopN (agraffelaw08_RestoreCosts_L2 n a1 y17 k4) n (v22, 0)) fun k3 =>
                  loopN (agraffelaw08_RestoreCosts_L1 n a0 a2 k3) n (0, 0)) fun k2 =>
          bif (v11 == (0 : Int)) then
            (agrafferef08_CheckSet n a0 a2).bind fun y12 =>
            k2 y12
          else
            k2 v11) fun k1 =>
      bif (y9 == (0 : Int)) then
        (agrafferef08_CheckStock n a1).bind fun y10 =>
        k1 y10
      else
        k1 y9
end
section
set_option maxRecDepth 4000
open Go
theorem loopN_s {α β : Type} (F : (α → Option β) → α → Option β) (n : Nat) (t : α) : loopN F (n + 1) t = F (loopN F n) t := rfl
@[simp] theorem chk_t {α : Type} (k : Option α) : chk true k = k := rfl
theorem chk_of {α : Type} {b : Bool} {k : Option α} (h : b = true) : chk b k = k := by subst h; rfl
@[simp] theorem withK_eq {α β : Type} (j : α → Option β) (f : (α → Option β) → Option β) : withK j f = f j := rfl
@[simp] theorem gcall_some_ {α : Type} [Inhabited α] (g : Bool) (x : α) : (gcall g (some x)) = some (bif g then x else default) := by cases g <;> rfl
theorem nI_of {n : Nat} (h : n ≤ 9223372036854775807) : nI n = true := by simp [nI, h]
theorem inI_of {n : Int} (h : -9223372036854775808 ≤ n) (h2 : n ≤ 9223372036854775807) : inI n = true := by simp [inI, h, h2]
theorem room_of {b n : Nat} (h : n * b ≤ 140737488355328) (h2 : n ≤ 9223372036854775807) : room b n = true := by simp [room, h, h2]
theorem inB_of {q : Int} {n : Nat} (h : 0 ≤ q) (h2 : q.toNat < n) : inB q n = true := by simp [inB, h, h2]
theorem inC_of {q : Int} {n : Nat} (h : 0 ≤ q) (h2 : q.toNat ≤ n) : inC q n = true := by simp [inC, h, h2]
theorem drop_ix {α : Type} [Inhabited α] {l : List α} {v : Nat} (h : v < l.length) : l.drop v = ix l v :: l.drop (v + 1) := by
  rw [ix_eq h]; exact List.drop_eq_getElem_cons h
theorem drop_nil {α : Type} {l : List α} {v : Nat} (h : ¬ v < l.length) : l.drop v = [] := List.drop_eq_nil_of_le (by omega)
def isL (c : UInt8) : Bool := (decide ((97 : Int) ≤ ((c.toNat : Nat) : Int)) && decide (((c.toNat : Nat) : Int) ≤ (122 : Int))) || (decide ((65 : Int) ≤ ((c.toNat : Nat) : Int)) && decide (((c.toNat : Nat) : Int) ≤ (90 : Int)))
def isD (c : UInt8) : Bool := decide ((48 : Int) ≤ ((c.toNat : Nat) : Int)) && decide (((c.toNat : Nat) : Int) ≤ (57 : Int))
def okC (c : UInt8) : Bool := isL c || isD c || (((c.toNat : Nat) : Int) == (45 : Int))
def nameB (s : Str) : Bool := match s with
  | [] => false
  | c :: r => isL c && r.all okC && decide (r.length < 12)
end
section
set_option maxRecDepth 4000
open Go
theorem bne_t {x : Int} (h : ¬ x = 0) : (x != 0) = true := by simp [bne, h]
def firstE (E : Nat → Int) : Nat → Nat → Int
  | _, 0 => 0
  | v, m + 1 => bif E v != 0 then E v else firstE E (v + 1) m
theorem firstE_zero {E : Nat → Int} : ∀ {m v : Nat}, firstE E v m = 0 → ∀ j, v ≤ j → j < v + m → E j = 0
  | 0, v, _, j, h1, h2 => by omega
  | m + 1, v, h, j, h1, h2 => by
    unfold firstE at h
    by_cases e : E v = 0
    · simp [e] at h
      by_cases hj : j = v
      · rw [hj]; exact e
      · exact firstE_zero h j (by omega) (by omega)
    · rw [bne_t e, cond_true] at h; exact absurd h e
theorem loop_first {σ R : Type} {F : (σ → Option R) → σ → Option R} {st : Nat → σ} {E : Nat → Int} {err : Int → Option R} {k : Option R} {len : Nat}
    (h1 : ∀ back v, v < len → (∀ j, j < v → E j = 0) → F back (st v) = bif E v != 0 then err (E v) else back (st (v + 1)))
    (h2 : ∀ back, (∀ j, j < len → E j = 0) → F back (st len) = k) : ∀ n v, len - v < n → v ≤ len → (∀ j, j < v → E j = 0) → loopN F n (st v) = bif firstE E v (len - v) != 0 then err (firstE E v (len - v)) else k := by
  intro n
  induction n with
  | zero => intro v h; omega
  | succ n ih =>
    intro v hn hv hz
    rw [loopN_s]
    by_cases h : v < len
    · rw [h1 _ v h hz, show len - v = (len - (v + 1)) + 1 by omega]
      unfold firstE
      by_cases e : E v = 0
      · simp only [e, bne_self_eq_false, cond_false]
        exact ih (v + 1) (by omega) (by omega) fun j hj => by
          by_cases hjv : j = v
          · rw [hjv]; exact e
          · exact hz j (by omega)
      · rw [bne_t e, cond_true, cond_true, bne_t e, cond_true]
    · have : v = len := by omega
      subst this
      rw [h2 _ hz, Nat.sub_self]
      simp [firstE]
theorem loop_through {σ R : Type} {F : (σ → Option R) → σ → Option R} {st : Nat → σ} {k : Option R} {len : Nat} (h1 : ∀ back v, v < len → F back (st v) = back (st (v + 1))) (h2 : ∀ back, F back (st len) = k) : ∀ n, len < n → loopN F n (st 0) = k := by
  intro n hn
  have := loop_first (F := F) (st := st) (E := fun _ => 0) (err := fun _ => none) (k := k) (len := len) (fun back v hv _ => by simp [h1 back v hv]) (fun back _ => h2 back) n 0 (by omega) (by omega) (fun _ _ => rfl)
  rw [this, Nat.sub_zero]
  have : firstE (fun _ => (0 : Int)) 0 len = 0 := by
    have : ∀ m v, firstE (fun _ => (0 : Int)) v m = 0 := by
      intro m
      induction m with
      | zero => intro v; rfl
      | succ m ih => intro v; simp [firstE, ih]
    exact this _ _
  rw [this]; rfl
def findI {α : Type} (p : α → Bool) (l : List α) : Int := match l.findIdx? p with
  | some i => ((i : Nat) : Int)
  | none => -1
theorem loop_find {α R : Type} [Inhabited α] {l : List α} {p : α → Bool} {F : (Nat → Option R) → Nat → Option R} {yes : Nat → Option R} {no : Option R}
    (hF : ∀ back v, F back v = bif decide (v < l.length) then (bif p (ix l v) then yes v else chk (nI (v + 1)) (back (v + 1))) else no) :
    ∀ n v, l.length - v < n → l.length < 9223372036854775807 → loopN F n v = match (l.drop v).findIdx? p with | some i => yes (v + i) | none => no := by
  intro n
  induction n with
  | zero => intro v h; omega
  | succ n ih =>
    intro v hn hl
    rw [loopN_s, hF]
    by_cases h : v < l.length
    · rw [drop_ix h, List.findIdx?_cons]
      simp only [h, decide_true, cond_true, nI_of (by omega : v + 1 ≤ 9223372036854775807), chk_t]
      cases hp : p (ix l v) with
      | true => simp
      | false =>
        simp only [cond_false, Bool.false_eq_true, if_false]
        rw [ih (v + 1) (by omega) hl]
        cases hh : (l.drop (v + 1)).findIdx? p with
        | none => simp
        | some i => simp [Nat.add_assoc, Nat.add_comm 1 i]
    · rw [drop_nil h]
      simp [h]
theorem loop_any {α R : Type} [Inhabited α] {l : List α} {p : α → Bool} {F : (Nat → Option R) → Nat → Option R} {bad : Option R} {no : Option R}
    (hF : ∀ back v, F back v = bif decide (v < l.length) then (bif p (ix l v) then bad else chk (nI (v + 1)) (back (v + 1))) else no) (n : Nat) (hn : l.length < n) (hl : l.length < 9223372036854775807) : loopN F n 0 = bif l.any p then bad else no := by
  rw [loop_find (yes := fun _ => bad) hF n 0 (by omega) hl, List.drop_zero]
  cases h : l.findIdx? p with
  | none =>
    rw [List.findIdx?_eq_none_iff] at h
    have : l.any p = false := by
      rw [List.any_eq_false]
      intro x hx
      simp [h x hx]
    simp [this]
  | some i =>
    have : l.any p = true := by
      rw [List.findIdx?_eq_some_iff_getElem] at h
      obtain ⟨hi, hp, _⟩ := h
      exact List.any_eq_true.2 ⟨_, List.getElem_mem hi, hp⟩
    simp [this]
theorem findI_pos {α : Type} [Inhabited α] {p : α → Bool} {l : List α} (h : ¬ findI p l < 0) : 0 ≤ findI p l ∧ (findI p l).toNat < l.length ∧ p (ix l (findI p l).toNat) = true ∧ ∀ j, j < (findI p l).toNat → p (ix l j) = false := by
  unfold findI at h ⊢
  split at h
  · rename_i i e
    rw [List.findIdx?_eq_some_iff_getElem] at e
    obtain ⟨hi, hp, hb⟩ := e
    refine ⟨by omega, by simpa using hi, ?_, fun j hj => ?_⟩
    · rw [ix_eq (by simpa using hi)]; simpa using hp
    · have hj : j < i := by simpa using hj
      rw [ix_eq (by omega)]
      simpa using hb j hj
  · omega
end
section
set_option maxRecDepth 4000
open Go
theorem loop_find' {α R : Type} [Inhabited α] {l : List α} {p : α → Bool} {F : (Nat → Option R) → Nat → Option R} {yes : Nat → Option R} {no : Option R}
    (h1 : ∀ back v, v < l.length → F back v = bif p (ix l v) then yes v else back (v + 1)) (h2 : ∀ back, F back l.length = no) :
    ∀ n v, v ≤ l.length → l.length - v < n → loopN F n v = match (l.drop v).findIdx? p with | some i => yes (v + i) | none => no := by
  intro n
  induction n with
  | zero => intro v _ h; omega
  | succ n ih =>
    intro v hv hn
    rw [loopN_s]
    by_cases h : v < l.length
    · rw [h1 _ v h, drop_ix h, List.findIdx?_cons]
      cases hp : p (ix l v) with
      | true => simp
      | false =>
        simp only [cond_false, Bool.false_eq_true, if_false]
        rw [ih (v + 1) (by omega) (by omega)]
        cases hh : (l.drop (v + 1)).findIdx? p with
        | none => simp
        | some i => simp [Nat.add_assoc, Nat.add_comm 1 i]
    · have : v = l.length := by omega
      subst this
      rw [h2, drop_nil h]
      simp
theorem any_findIdx {α : Type} (p : α → Bool) (l : List α) : (l.findIdx? p).isSome = l.any p := by
  induction l with
  | nil => rfl
  | cons x l ih =>
    rw [List.findIdx?_cons, List.any_cons]
    cases p x <;> simp [ih]
theorem loop_any' {α R : Type} [Inhabited α] {l : List α} {p : α → Bool} {F : (Nat → Option R) → Nat → Option R} {bad no : Option R}
    (h1 : ∀ back v, v < l.length → F back v = bif p (ix l v) then bad else back (v + 1)) (h2 : ∀ back, F back l.length = no) (n : Nat) (hn : l.length < n) : loopN F n 0 = bif l.any p then bad else no := by
  rw [loop_find' (yes := fun _ => bad) h1 h2 n 0 (by omega) (by omega), List.drop_zero, ← any_findIdx]
  cases l.findIdx? p <;> rfl
theorem loop_findI {α : Type} [Inhabited α] {l : List α} {p : α → Bool} {F : (Nat → Option Int) → Nat → Option Int}
    (h1 : ∀ back v, v < l.length → F back v = bif p (ix l v) then some ((v : Nat) : Int) else back (v + 1)) (h2 : ∀ back, F back l.length = some (-1)) (n : Nat) (hn : l.length < n) : loopN F n 0 = some (findI p l) := by
  rw [loop_find' h1 h2 n 0 (by omega) (by omega), List.drop_zero, findI]
  cases l.findIdx? p <;> simp
theorem findI_any {α : Type} (p : α → Bool) (l : List α) : decide ((0 : Int) ≤ findI p l) = l.any p := by
  rw [← any_findIdx, findI]
  cases l.findIdx? p <;> simp
theorem findI_none {α : Type} (p : α → Bool) (l : List α) : decide (findI p l < (0 : Int)) = !l.any p := by
  rw [← any_findIdx, findI]
  cases l.findIdx? p
  · simp
  · simp only [Option.isSome_some, Bool.not_true, decide_eq_false_iff_not]; omega
theorem any_congr {α : Type} {p q : α → Bool} {l : List α} (h : ∀ x ∈ l, p x = q x) : l.any p = l.any q := by
  induction l with
  | nil => rfl
  | cons x l ih =>
    rw [List.any_cons, List.any_cons, h x (by simp), ih fun y hy => h y (by simp [hy])]
theorem findI_congr {α : Type} {p q : α → Bool} {l : List α} (h : ∀ x ∈ l, p x = q x) : findI p l = findI q l := by
  have : l.findIdx? p = l.findIdx? q := by
    induction l with
    | nil => rfl
    | cons x l ih =>
      rw [List.findIdx?_cons, List.findIdx?_cons, h x (by simp), ih fun y hy => h y (by simp [hy])]
  rw [findI, findI, this]
theorem findI_take {α : Type} [Inhabited α] {p : α → Bool} {l : List α} {i : Nat} : (l.take i).any p = (decide (findI p l < (i : Int)) && l.any p) := by
  rw [← any_findIdx, ← any_findIdx, findI]
  cases h : l.findIdx? p with
  | none =>
    rw [List.findIdx?_eq_none_iff] at h
    have : (l.take i).findIdx? p = none := by
      rw [List.findIdx?_eq_none_iff]
      exact fun x hx => h x (List.mem_of_mem_take hx)
    simp [this]
  | some j =>
    rw [List.findIdx?_eq_some_iff_getElem] at h
    obtain ⟨hj, hp, hb⟩ := h
    simp only [Option.isSome_some, Bool.and_true]
    rw [any_findIdx, Bool.eq_iff_iff, List.any_eq_true, decide_eq_true_eq]
    constructor
    · rintro ⟨x, hx, hpx⟩
      obtain ⟨k, hk, rfl⟩ := List.mem_iff_getElem.1 hx
      simp only [List.length_take] at hk
      rw [List.getElem_take] at hpx
      by_cases hkj : k < j
      · have := hb k hkj
        rw [hpx] at this; simp at this
      · omega
    · intro hji
      have hji : j < i := by omega
      exact ⟨l[j], List.mem_iff_getElem.2 ⟨j, by simp; omega, by simp⟩, hp⟩
theorem loop_fold {σ R : Type} {F : (σ × Nat → Option R) → σ × Nat → Option R} {st : Nat → σ} {k : Option R} {len : Nat} (h1 : ∀ back v, v < len → F back (st v, v) = back (st (v + 1), v + 1)) (h2 : ∀ back, F back (st len, len) = k) (n : Nat) (hn : len < n) {s0 : σ} (h0 : st 0 = s0) : loopN F n (s0, 0) = k := by
  subst h0
  exact loop_through (st := fun v => (st v, v)) h1 h2 n hn
theorem loop_fold' {σ R : Type} {F : (Nat × σ → Option R) → Nat × σ → Option R} {st : Nat → σ} {k : Option R} {len : Nat} (h1 : ∀ back v, v < len → F back (v, st v) = back (v + 1, st (v + 1))) (h2 : ∀ back, F back (len, st len) = k) (n : Nat) (hn : len < n) {s0 : σ} (h0 : st 0 = s0) : loopN F n (0, s0) = k := by
  subst h0
  exact loop_through (st := fun v => (v, st v)) h1 h2 n hn
end
section
set_option maxRecDepth 4000
open Go
theorem getD_ix (s : Str) (v : Nat) : List.getD s v 0 = ix s v := by
  simp only [ix, List.getD]; rfl
theorem isName_loop (s : Str) (k : Unit → Option Bool) : ∀ (n v : Nat), s.length - v < n → 0 < v → s.length < 9223372036854775807 → loopN (restore_isName_L1 s k) n v = bif (s.drop v).all okC then k () else some false := by
  intro n
  induction n with
  | zero => intro v h; omega
  | succ n ih =>
    intro v hn hv hl
    rw [loopN_s, restore_isName_L1]
    by_cases h : v < s.length
    · rw [drop_ix h]
      have h2 : ¬ v = 0 := by omega
      simp only [h, decide_true, cond_true, h2, decide_false, Bool.false_or, List.all_cons, nI_of (by omega : v + 1 ≤ 9223372036854775807), chk_t]
      rw [ih (v + 1) (by omega) (by omega) hl]
      have key : (!((decide ((97 : Int) ≤ (((ix s v).toNat : Nat) : Int)) && decide ((((ix s v).toNat : Nat) : Int) ≤ (122 : Int))) || (decide ((65 : Int) ≤ (((ix s v).toNat : Nat) : Int)) && decide ((((ix s v).toNat : Nat) : Int) ≤ (90 : Int)))) && (((((ix s v).toNat : Nat) : Int) != (45 : Int)) && (decide ((((ix s v).toNat : Nat) : Int) < (48 : Int)) || decide ((57 : Int) < (((ix s v).toNat : Nat) : Int))))) = !okC (ix s v) := by
        have hd : (decide ((((ix s v).toNat : Nat) : Int) < (48 : Int)) || decide ((57 : Int) < (((ix s v).toNat : Nat) : Int))) = !isD (ix s v) := by
          simp only [isD, Bool.not_and, ← decide_not, Int.not_le]
        rw [hd]
        show (!isL (ix s v) && _) = _
        simp only [okC]
        cases isL (ix s v) <;> cases isD (ix s v) <;> cases hh : (((((ix s v).toNat : Nat) : Int)) == (45 : Int)) <;> simp [bne, hh]
      rw [key]
      cases okC (ix s v) <;> simp
    · rw [drop_nil h]
      simp [h]
theorem isName_eq (s : Str) (n : Nat) (hn : s.length + 1 < n) (hl : s.length < 9223372036854775807) : restore_isName n s = some (nameB s) := by
  obtain ⟨n, rfl⟩ : ∃ m, n = m + 1 := ⟨n - 1, by omega⟩
  rw [restore_isName, withK_eq, loopN_s, restore_isName_L1]
  cases s with
  | nil => simp [nameB]
  | cons c r =>
    have h0 : 0 < (c :: r).length := by simp
    have hix : ix (c :: r) 0 = c := rfl
    simp only [h0, decide_true, cond_true, hix, Bool.true_or, Bool.and_true, nI_of (by simp : 0 + 1 ≤ 9223372036854775807), chk_t]
    rw [isName_loop _ _ n 1 (by simp at hn ⊢; omega) (by omega) hl]
    show (bif !isL c then some false else _) = _
    simp only [nameB, List.drop_succ_cons, List.drop_zero]
    cases hL : isL c <;> cases hA : r.all okC <;> simp
    omega
theorem IsName_loop (s : Str) (n0 : Nat) (k : Unit → Option Bool) : ∀ (n v : Nat), s.length - v < n → s.length < 9223372036854775807 → loopN (agraffebase_IsName_L1 n0 s k) n v = bif (s.drop v).all okC then k () else some false := by
  intro n
  induction n with
  | zero => intro v h; omega
  | succ n ih =>
    intro v hn hl
    rw [loopN_s, agraffebase_IsName_L1]
    by_cases h : v < s.length
    · rw [drop_ix h]
      simp only [h, decide_true, cond_true, agraffebase_isLetter, agraffebase_isDigit, gcall_some_, Option.bind_some, getD_ix, List.all_cons, nI_of (by omega : v + 1 ≤ 9223372036854775807), chk_t]
      rw [ih (v + 1) (by omega) hl]
      show (bif ((!isL (ix s v)) && (!isD (ix s v))) && ((((ix s v).toNat : Nat) : Int) != (45 : Int)) then _ else _) = _
      simp only [okC]
      cases isL (ix s v) <;> cases isD (ix s v) <;> cases hh : (((((ix s v).toNat : Nat) : Int)) == (45 : Int)) <;> simp [bne, hh]
    · rw [drop_nil h]
      simp [h]
theorem IsName_eq (s : Str) (n : Nat) (hn : s.length + 1 < n) (hl : s.length < 9223372036854775807) : agraffebase_IsName n s = some (nameB s) := by
  rw [agraffebase_IsName]
  simp only [agraffebase_isLetter, gcall_some_, Option.bind_some, getD_ix, withK_eq]
  rw [IsName_loop _ _ _ _ _ (by omega) hl]
  cases s with
  | nil => simp [nameB]
  | cons c r =>
    have h0 : ¬ (c :: r).length = 0 := by simp
    have h1 : 0 < (c :: r).length := by simp
    have hix : ix (c :: r) 0 = c := rfl
    simp only [h0, h1, decide_true, decide_false, Bool.false_or, Bool.or_true, chk_t, hix, List.drop_zero]
    show (bif (decide (12 < (c :: r).length)) || (!isL c) then _ else _) = _
    simp only [nameB, List.all_cons, okC, List.length_cons]
    by_cases hlen : r.length < 12
    · have : ¬ 12 < r.length + 1 := by omega
      cases hL : isL c <;> cases hA : r.all okC <;> simp [this, hlen, hA]
    · have : 12 < r.length + 1 := by omega
      simp [this, hlen]
end
section
set_option maxRecDepth 4000
open Go
structure OkT (t : List Task) : Prop where
  len : t.length ≤ 63
  name : ∀ x ∈ t, x.Name.length ≤ 20
  needs : ∀ x ∈ t, x.Needs.length ≤ 13
  oneof : ∀ x ∈ t, x.OneOf.length ≤ 9
  group : ∀ x ∈ t, ∀ g ∈ x.OneOf, g.length ≤ 9
  parts : ∀ x ∈ t, x.Parts.length ≤ 13
  part : ∀ x ∈ t, ∀ p ∈ x.Parts, p.Part.length ≤ 20
variable {n : Nat}
def byName (s : Str) (x : Task) : Bool := x.Name == s
theorem Find_eq (t : List Task) (s : Str) (hn : t.length < n) (hl : t.length < 9223372036854775807) : agrafferef08_Find n t s = some (findI (byName s) t) := by
  rw [agrafferef08_Find, withK_eq]
  refine loop_findI (fun back v hv => ?_) (fun back => ?_) n hn
  · rw [agrafferef08_Find_L1]; simp only [hv, decide_true, cond_true, nI_of (by omega : v + 1 ≤ 9223372036854775807), chk_t]; rfl
  · rw [agrafferef08_Find_L1]; simp
theorem find_eq (t : List Task) (s : Str) (hn : t.length < n) (hl : t.length < 9223372036854775807) : restore_list_find n t s = some (findI (byName s) t) := by
  rw [restore_list_find, slices_IndexFunc_Task, withK_eq, loop_findI (p := byName s) (fun back v hv => ?_) (fun back => ?_) n hn]
  · rfl
  · rw [slices_IndexFunc_Task_L1]; simp only [hv, restore_list_find_f1, Option.bind_some, decide_true, cond_true, nI_of (by omega : v + 1 ≤ 9223372036854775807), chk_t]; rfl
  · rw [slices_IndexFunc_Task_L1]; simp
def byPartC (s : Str) (x : PartCount) : Bool := x.Part == s
theorem FindPart_eq (l : List PartCount) (s : Str) (hn : l.length < n) (hl : l.length < 9223372036854775807) : agrafferef08_FindPart n l s = some (findI (byPartC s) l) := by
  rw [agrafferef08_FindPart, withK_eq]
  refine loop_findI (fun back v hv => ?_) (fun back => ?_) n hn
  · rw [agrafferef08_FindPart_L1]; simp only [hv, decide_true, cond_true, nI_of (by omega : v + 1 ≤ 9223372036854775807), chk_t]; rfl
  · rw [agrafferef08_FindPart_L1]; simp
theorem ContainsPart_eq (l : List PartCount) (s : Str) (c : Int) (hn : l.length < n) (hl : l.length < 9223372036854775807) : slices_ContainsFunc_PartCount n l s c = some (l.any (byPartC s)) := by
  rw [slices_ContainsFunc_PartCount, slices_IndexFunc_PartCount, withK_eq, loop_findI (p := byPartC s) (fun back v hv => ?_) (fun back => ?_) n hn]
  · simp only [Option.bind_some, findI_any]
  · rw [slices_IndexFunc_PartCount_L1]; simp only [hv, restore_checkCounts_f1, Option.bind_some, decide_true, cond_true, nI_of (by omega : v + 1 ≤ 9223372036854775807), chk_t]; rfl
  · rw [slices_IndexFunc_PartCount_L1]; simp
def isS (s : Str) (x : Str) : Bool := x == s
theorem HasText_eq (l : List Str) (s : Str) (hn : l.length < n) (hl : l.length < 9223372036854775807) : agraffebase_HasText n l s = some (l.any (isS s)) := by
  rw [agraffebase_HasText, withK_eq, loop_any' (p := isS s) (fun back v hv => ?_) (fun back => ?_) n hn]
  · cases l.any (isS s) <;> rfl
  · rw [agraffebase_HasText_L1]; simp only [hv, decide_true, cond_true, nI_of (by omega : v + 1 ≤ 9223372036854775807), chk_t]; rfl
  · rw [agraffebase_HasText_L1]; simp
theorem HasText2_eq (l : List Str) (s : Str) (hn : l.length < n) (hl : l.length < 9223372036854775807) : agraffebase_HasText_2 n l s = some (l.any (isS s)) := by
  rw [agraffebase_HasText_2, withK_eq, loop_any' (p := isS s) (fun back v hv => ?_) (fun back => ?_) n hn]
  · cases l.any (isS s) <;> rfl
  · rw [agraffebase_HasText_2_L1]; simp only [hv, decide_true, cond_true, nI_of (by omega : v + 1 ≤ 9223372036854775807), chk_t]; rfl
  · rw [agraffebase_HasText_2_L1]; simp
theorem isS_comm (s x : Str) : (s == x) = isS s x := by
  unfold isS
  rw [Bool.eq_iff_iff, beq_iff_eq, beq_iff_eq]
  exact eq_comm
theorem Contains_eq (l : List Str) (s : Str) (hn : l.length < n) (hl : l.length < 9223372036854775807) : slices_Contains_string n l s = some (l.any (isS s)) := by
  rw [slices_Contains_string, slices_Index_string, withK_eq, loop_findI (p := isS s) (fun back v hv => ?_) (fun back => ?_) n hn]
  · simp only [Option.bind_some, findI_any]
  · rw [slices_Index_string_L1]; simp only [hv, decide_true, cond_true, nI_of (by omega : v + 1 ≤ 9223372036854775807), chk_t, isS_comm]
  · rw [slices_Index_string_L1]; simp
theorem Contains2_eq (l : List Str) (s : Str) (hn : l.length < n) (hl : l.length < 9223372036854775807) : slices_Contains_string_2 n l s = some (l.any (isS s)) := by
  rw [slices_Contains_string_2, slices_Index_string_2, withK_eq, loop_findI (p := isS s) (fun back v hv => ?_) (fun back => ?_) n hn]
  · simp only [Option.bind_some, findI_any]
  · rw [slices_Index_string_2_L1]; simp only [hv, decide_true, cond_true, nI_of (by omega : v + 1 ≤ 9223372036854775807), chk_t, isS_comm]
  · rw [slices_Index_string_2_L1]; simp
theorem bif_id {x : Int} : (bif x != 0 then some x else some 0) = some x := by
  by_cases h : x = 0
  · simp [h]
  · rw [bne_t h]; rfl
theorem loop_errs {F : (Nat → Option Int) → Nat → Option Int} {E : Nat → Int} {k : Int} {len : Nat}
    (h1 : ∀ back v, v < len → F back v = bif E v != 0 then some (E v) else back (v + 1)) (h2 : ∀ back, F back len = some k) (hn : len < n) :
    loopN F n 0 = some (bif firstE E 0 len != 0 then firstE E 0 len else k) := by
  rw [loop_first (st := fun v => v) (E := E) (err := some) (k := some k) (len := len) (fun back v hv _ => h1 back v hv) (fun back _ => h2 back) n 0 (by omega) (by omega) (fun j h => by omega), Nat.sub_zero]
  cases firstE E 0 len != 0 <;> rfl
theorem bif_int {x : Int} : (bif x != 0 then x else 0) = x := by
  by_cases h : x = 0
  · simp [h]
  · rw [bne_t h]; rfl
def knownE (t : List Task) (l : List Str) (v : Nat) : Int := bif !t.any (byName (ix l v)) then 6 else bif (l.take v).any (isS (ix l v)) then 5 else 0
def known (t : List Task) (l : List Str) : Int := firstE (knownE t l) 0 l.length
theorem known_res {t : List Task} (l : List Str) (hn : 1000 < n) (ht : t.length ≤ 900) (hl : l.length ≤ 900) : restore_list_known n t l = some (known t l) := by
  rw [restore_list_known, withK_eq, loop_errs (E := knownE t l) (k := 0) (fun back v hv => ?_) (fun back => ?_) (by omega : l.length < n), bif_int]; rfl
  · rw [restore_list_known_L1]
    have hle : v ≤ l.length := by omega
    simp only [hv, hle, decide_true, cond_true, find_eq t (ix l v) (by omega : t.length < n) (by omega), Option.bind_some, findI_none, chk_t, Contains_eq (n := n) (l.take v) (ix l v) (by simp; omega) (by simp; omega), nI_of (by omega : v + 1 ≤ 9223372036854775807), knownE]
    cases !t.any (byName (ix l v)) <;> cases (l.take v).any (isS (ix l v)) <;> rfl
  · rw [restore_list_known_L1]; simp
theorem known_ref {t : List Task} (l : List Str) (hn : 1000 < n) (ht : t.length ≤ 900) (hl : l.length ≤ 900) : agrafferef08_tasks n t l = some (known t l) := by
  rw [agrafferef08_tasks, withK_eq, loop_errs (E := knownE t l) (k := 0) (fun back v hv => ?_) (fun back => ?_) (by omega : l.length < n), bif_int]; rfl
  · rw [agrafferef08_tasks_L1]
    have hle : v ≤ l.length := by omega
    simp only [hv, hle, decide_true, cond_true, Find_eq t (ix l v) (by omega : t.length < n) (by omega), Option.bind_some, findI_none, chk_t, HasText_eq (n := n) (l.take v) (ix l v) (by simp; omega) (by simp; omega), nI_of (by omega : v + 1 ≤ 9223372036854775807), knownE]
    cases !t.any (byName (ix l v)) <;> cases (l.take v).any (isS (ix l v)) <;> rfl
  · rw [agrafferef08_tasks_L1]; simp
theorem known_zero {t : List Task} {l : List Str} (h : known t l = 0) : ∀ s ∈ l, t.any (byName s) = true := by
  intro s hs
  obtain ⟨i, hi, rfl⟩ := List.mem_iff_getElem.1 hs
  have := firstE_zero h i (by omega) (by omega)
  unfold knownE at this
  rw [ix_eq hi] at this
  cases h1 : t.any (byName l[i])
  · rw [h1] at this; simp at this
  · rfl
def cntE (l : List PartCount) (most : Int) (v : Nat) : Int :=
  bif !nameB (ix l v).Part then 4 else bif (l.take v).any (byPartC (ix l v).Part) then 5 else bif !((decide (1 ≤ (ix l v).Count)) && (decide ((ix l v).Count ≤ most))) then 2 else 0
def cnts (l : List PartCount) (most : Int) : Int := firstE (cntE l most) 0 l.length
theorem counts_res {l : List PartCount} (most : Int) (hn : 1000 < n) (hl : l.length ≤ 900) (hs : ∀ x ∈ l, x.Part.length ≤ 20) : restore_checkCounts n l most = some (cnts l most) := by
  rw [restore_checkCounts, withK_eq, loop_errs (E := cntE l most) (k := 0) (fun back v hv => ?_) (fun back => ?_) (by omega : l.length < n), bif_int]; rfl
  · rw [restore_checkCounts_L1]
    have h1 := hs _ (ix_mem hv)
    have hle : v ≤ l.length := by omega
    simp only [hv, hle, decide_true, cond_true, isName_eq (ix l v).Part n (by omega) (by omega), Option.bind_some, chk_t, ContainsPart_eq (n := n) (l.take v) (ix l v).Part (ix l v).Count (by simp; omega) (by simp; omega), restore_within, nI_of (by omega : v + 1 ≤ 9223372036854775807), cntE]
    cases nameB (ix l v).Part <;> cases (l.take v).any (byPartC (ix l v).Part) <;> cases (decide (1 ≤ (ix l v).Count)) && (decide ((ix l v).Count ≤ most)) <;> rfl
  · rw [restore_checkCounts_L1]; simp
theorem counts_ref {l : List PartCount} (most : Int) (hn : 1000 < n) (hl : l.length ≤ 900) (hs : ∀ x ∈ l, x.Part.length ≤ 20) : agrafferef08_counts n l most = some (cnts l most) := by
  rw [agrafferef08_counts, withK_eq, loop_errs (E := cntE l most) (k := 0) (fun back v hv => ?_) (fun back => ?_) (by omega : l.length < n), bif_int]; rfl
  · rw [agrafferef08_counts_L1]
    have h1 := hs _ (ix_mem hv)
    have hle : v ≤ l.length := by omega
    simp only [hv, hle, decide_true, cond_true, IsName_eq (ix l v).Part n (by omega) (by omega), Option.bind_some, chk_t, FindPart_eq (n := n) (l.take v) (ix l v).Part (by simp; omega) (by simp; omega), findI_any, agraffebase_Within, nI_of (by omega : v + 1 ≤ 9223372036854775807), cntE]
    cases nameB (ix l v).Part <;> cases (l.take v).any (byPartC (ix l v).Part) <;> cases (decide (1 ≤ (ix l v).Count)) && (decide ((ix l v).Count ≤ most)) <;> rfl
  · rw [agrafferef08_counts_L1]; simp
def grpE (t : List Task) (gs : List (List Str)) (v : Nat) : Int := bif decide ((ix gs v).length = 0) then 10 else known t (ix gs v)
def large (x : Task) : Bool := ((decide (10 < x.Needs.length) || decide (6 < x.OneOf.length)) || x.OneOf.any (fun g => decide (6 < g.length))) || decide (10 < x.Parts.length)
def taskE (t : List Task) (i : Nat) : Int :=
  bif !nameB (ix t i).Name then 4 else bif decide (findI (byName (ix t i).Name) t < (i : Int)) then 5
  else bif (!((decide (0 ≤ (ix t i).Cents)) && (decide ((ix t i).Cents ≤ 1000000000)))) || (!((decide (0 ≤ (ix t i).Hours)) && (decide ((ix t i).Hours ≤ 10000)))) then 2
  else bif large (ix t i) then 8 else bif known t (ix t i).Needs != 0 then known t (ix t i).Needs
  else bif firstE (grpE t (ix t i).OneOf) 0 (ix t i).OneOf.length != 0 then firstE (grpE t (ix t i).OneOf) 0 (ix t i).OneOf.length else cnts (ix t i).Parts 1000
theorem large_res (gs : List (List Str)) (hn : gs.length < n) (hl : gs.length < 9223372036854775807) : slices_ContainsFunc_string n gs = some (gs.any (fun g => decide (6 < g.length))) := by
  rw [slices_ContainsFunc_string, slices_IndexFunc_string, withK_eq, loop_findI (p := fun g => decide (6 < g.length)) (fun back v hv => ?_) (fun back => ?_) n hn]
  · simp only [Option.bind_some, findI_any]
  · rw [slices_IndexFunc_string_L1]; simp only [hv, restore_list_checkTask_f1, Option.bind_some, decide_true, cond_true, nI_of (by omega : v + 1 ≤ 9223372036854775807), chk_t]
  · rw [slices_IndexFunc_string_L1]; simp
theorem task_res {t : List Task} (h : OkT t) (hn : 1000 < n) {i : Nat} (hi : i < t.length) : restore_list_checkTask n t ((i : Nat) : Int) = some (taskE t i) := by
  have hx := ix_mem hi
  have hlen := h.len
  have h1 := h.name _ hx
  have h2 := h.needs _ hx
  have h3 := h.oneof _ hx
  have h4 := h.parts _ hx
  rw [restore_list_checkTask]
  have e : ((i : Nat) : Int).toNat = i := by omega
  have hin : inB ((i : Nat) : Int) t.length = true := inB_of (by omega) (by omega)
  simp only [e, hin, hi, decide_true, chk_t, isName_eq (ix t i).Name n (by omega) (by omega), Option.bind_some, find_eq t (ix t i).Name (by omega : t.length < n) (by omega), restore_within, gcall_some_,
    large_res (n := n) (ix t i).OneOf (by omega) (by omega), known_res (n := n) (t := t) (ix t i).Needs hn (by omega) (by omega), withK_eq, counts_res (n := n) (l := (ix t i).Parts) 1000 hn (by omega) (h.part _ hx)]
  rw [loop_errs (E := grpE t (ix t i).OneOf) (k := cnts (ix t i).Parts 1000) (len := (ix t i).OneOf.length) (fun back v hv => ?_) (fun back => ?_) (by omega)]
  · unfold taskE large
    cases nameB (ix t i).Name
    · rfl
    cases decide (findI (byName (ix t i).Name) t < (i : Int))
    · cases (!((decide (0 ≤ (ix t i).Cents)) && (decide ((ix t i).Cents ≤ 1000000000)))) || (!((decide (0 ≤ (ix t i).Hours)) && (decide ((ix t i).Hours ≤ 10000))))
      · simp only [Bool.not_true, cond_false]
        cases decide (10 < (ix t i).Needs.length) || decide (6 < (ix t i).OneOf.length)
        · simp only [Bool.not_false, cond_true, Bool.false_or]
          cases ((ix t i).OneOf.any fun g => decide (6 < g.length)) || decide (10 < (ix t i).Parts.length)
          · cases known t (ix t i).Needs != 0 <;> rfl
          · rfl
        · simp
      · rfl
    · rfl
  · rw [restore_list_checkTask_L1]
    have hg := h.group _ hx _ (ix_mem hv)
    simp only [e, hv, decide_true, cond_true, chk_t, known_res (n := n) (t := t) (ix (ix t i).OneOf v) hn (by omega) (by omega), Option.bind_some, nI_of (by omega : v + 1 ≤ 9223372036854775807), grpE]
    cases decide ((ix (ix t i).OneOf v).length = 0)
    · rfl
    · rfl
  · rw [restore_list_checkTask_L1]
    simp [e]
theorem task_ref {t : List Task} (h : OkT t) (hn : 1000 < n) {i : Nat} (hi : i < t.length) : agrafferef08_task n t ((i : Nat) : Int) = some (taskE t i) := by
  have hx := ix_mem hi
  have hlen := h.len
  have h1 := h.name _ hx
  have h2 := h.needs _ hx
  have h3 := h.oneof _ hx
  have h4 := h.parts _ hx
  rw [agrafferef08_task]
  have e : ((i : Nat) : Int).toNat = i := by omega
  have hin : inB ((i : Nat) : Int) t.length = true := inB_of (by omega) (by omega)
  have hic : inC ((i : Nat) : Int) t.length = true := inC_of (by omega) (by omega)
  have hself : t.any (byName (ix t i).Name) = true := List.any_eq_true.2 ⟨_, hx, by simp [byName]⟩
  have hft : decide ((0 : Int) ≤ findI (byName (ix t i).Name) (t.take i)) = decide (findI (byName (ix t i).Name) t < (i : Int)) := by
    rw [findI_any, findI_take, hself, Bool.and_true]
  simp only [e, hin, hic, hi, decide_true, chk_t, IsName_eq (ix t i).Name n (by omega) (by omega), Option.bind_some, Find_eq (n := n) (t.take i) (ix t i).Name (by simp; omega) (by simp; omega), hft, agraffebase_Within, gcall_some_,
    known_ref (n := n) (t := t) (ix t i).Needs hn (by omega) (by omega), withK_eq, counts_ref (n := n) (l := (ix t i).Parts) 1000 hn (by omega) (h.part _ hx)]
  rw [loop_errs (E := grpE t (ix t i).OneOf) (k := cnts (ix t i).Parts 1000) (len := (ix t i).OneOf.length) (fun back v hv => ?_) (fun back => ?_) (by omega)]
  · rw [loop_fold (σ := Bool) (st := fun v => ((decide (10 < (ix t i).Needs.length) || decide (6 < (ix t i).OneOf.length)) || decide (10 < (ix t i).Parts.length)) || ((ix t i).OneOf.take v).any (fun g => decide (6 < g.length))) (len := (ix t i).OneOf.length) (k := bif large (ix t i) then some 8 else bif known t (ix t i).Needs != 0 then some (known t (ix t i).Needs) else some (bif firstE (grpE t (ix t i).OneOf) 0 (ix t i).OneOf.length != 0 then firstE (grpE t (ix t i).OneOf) 0 (ix t i).OneOf.length else cnts (ix t i).Parts 1000)) (fun back v hv => ?_) (fun back => ?_) n (by omega) (by simp)]
    · unfold taskE
      cases nameB (ix t i).Name
      · rfl
      cases decide (findI (byName (ix t i).Name) t < (i : Int))
      · cases (!((decide (0 ≤ (ix t i).Cents)) && (decide ((ix t i).Cents ≤ 1000000000)))) || (!((decide (0 ≤ (ix t i).Hours)) && (decide ((ix t i).Hours ≤ 10000))))
        · simp only [Bool.not_true, cond_false]
          cases large (ix t i)
          · cases known t (ix t i).Needs != 0 <;> rfl
          · rfl
        · rfl
      · rfl
    · rw [agrafferef08_task_L1]
      simp only [e, hv, decide_true, cond_true, Bool.or_true, chk_t, nI_of (by omega : v + 1 ≤ 9223372036854775807)]
      rw [List.take_succ_eq_append_getElem hv, List.any_append, ix_eq hv]
      simp [Bool.or_assoc]
    · rw [agrafferef08_task_L1]
      have : (((decide (10 < (ix t i).Needs.length) || decide (6 < (ix t i).OneOf.length)) || decide (10 < (ix t i).Parts.length)) || (ix t i).OneOf.any (fun g => decide (6 < g.length))) = large (ix t i) := by
        unfold large
        cases decide (10 < (ix t i).Needs.length) || decide (6 < (ix t i).OneOf.length) <;> cases decide (10 < (ix t i).Parts.length) <;> cases (ix t i).OneOf.any (fun g => decide (6 < g.length)) <;> rfl
      simp only [e, Nat.lt_irrefl, decide_false, cond_false, List.take_length, this]
  · rw [agrafferef08_task_L2]
    have hg := h.group _ hx _ (ix_mem hv)
    simp only [e, hv, decide_true, cond_true, chk_t, known_ref (n := n) (t := t) (ix (ix t i).OneOf v) hn (by omega) (by omega), Option.bind_some, nI_of (by omega : v + 1 ≤ 9223372036854775807), grpE]
    cases decide ((ix (ix t i).OneOf v).length = 0)
    · rfl
    · rfl
  · rw [agrafferef08_task_L2]
    simp [e]
end
section
set_option maxRecDepth 4000
open Go
variable {n : Nat}
theorem nodup_len {α : Type} [DecidableEq α] : ∀ (l m : List α), l.Nodup → (∀ x ∈ l, x ∈ m) → l.length ≤ m.length
  | [], _, _, _ => Nat.zero_le _
  | a :: l, m, h, hs => by
    have ha : a ∈ m := hs a (by simp)
    have h2 := List.nodup_cons.1 h
    have := nodup_len l (m.erase a) h2.2 fun x hx => (List.mem_erase_of_ne (by rintro rfl; exact h2.1 hx)).2 (hs x (by simp [hx]))
    rw [List.length_erase_of_mem ha] at this
    have hm := List.length_pos_of_mem ha
    simp only [List.length_cons]; omega
theorem any_isS {l : List Str} {s : Str} : l.any (isS s) = true ↔ s ∈ l := by
  rw [List.any_eq_true]
  constructor
  · rintro ⟨x, hx, h⟩; rw [← eq_of_beq h]; exact hx
  · exact fun h => ⟨s, h, by simp [isS]⟩
theorem any_byName {t : List Task} {s : Str} : t.any (byName s) = true ↔ ∃ x ∈ t, x.Name = s := by
  rw [List.any_eq_true]
  constructor
  · rintro ⟨x, hx, h⟩; exact ⟨x, hx, eq_of_beq h⟩
  · rintro ⟨x, hx, h⟩; exact ⟨x, hx, by simp [byName, h]⟩
def leads (x : Task) : List Str := x.Needs ++ x.OneOf.flatten
theorem flatten_len {b : Nat} : ∀ (l : List (List Str)), (∀ g ∈ l, g.length ≤ b) → l.flatten.length ≤ l.length * b
  | [], _ => by simp
  | g :: l, h => by
    have h1 := h g (by simp)
    have h2 := flatten_len l fun x hx => h x (by simp [hx])
    simp only [List.flatten_cons, List.length_append, List.length_cons, Nat.succ_mul]; omega
theorem take_flatten {α : Type} [Inhabited α] {l : List (List α)} {v : Nat} (hv : v < l.length) : (l.take (v + 1)).flatten = (l.take v).flatten ++ ix l v := by
  rw [List.take_succ_eq_append_getElem hv, List.flatten_append, ix_eq hv]; simp
theorem Grow_eq (a : Nat) (ha : a ≤ 100000) : slices_Grow_string n ((a : Nat) : Int) = some [] := by
  rw [slices_Grow_string]
  have h1 : ¬ ((a : Nat) : Int) < 0 := by omega
  have h2 : ((a : Nat) : Int) - (0 - 0) = (a : Int) := by omega
  have h3 : (((a : Nat) : Int)).toNat = a := by omega
  simp only [h1, h2, decide_false, cond_false, withK_eq]
  rw [chk_of (inI_of (by omega) (by omega)), chk_of (inI_of (by omega) (by omega))]
  by_cases h : 0 < a
  · have h4 : (0 : Int) < ((a : Nat) : Int) := by omega
    have h5 : (0 : Int) ≤ ((a : Nat) : Int) := by omega
    have hr : room 16 a = true := room_of (by omega) (by omega)
    simp [h4, h5, h3, h, hr]
  · have h4 : ¬ (0 : Int) < ((a : Nat) : Int) := by omega
    simp only [h4, decide_false, cond_false]
theorem Concat_eq (l : List (List Str)) (hl : l.length ≤ 900) (hs : l.flatten.length ≤ 10000) (hn : 1000 < n) : slices_Concat_string n l = some l.flatten := by
  have htk : ∀ v, v ≤ l.length → (l.take v).flatten.length ≤ l.flatten.length := by
    intro v _
    have : l.flatten = (l.take v).flatten ++ (l.drop v).flatten := by rw [← List.flatten_append, List.take_append_drop]
    rw [this, List.length_append]; omega
  rw [slices_Concat_string, withK_eq]
  rw [loop_fold (σ := Nat) (st := fun v => (l.take v).flatten.length) (len := l.length) (k := some l.flatten) (fun back v hv => ?_) (fun back => ?_) n (by omega) (by simp)]
  · rw [slices_Concat_string_L1]
    have h1 := htk (v + 1) (by omega)
    rw [take_flatten hv, List.length_append] at h1
    have h2 : ¬ ((l.take v).flatten.length + (ix l v).length < 0) := by omega
    simp only [hv, decide_true, cond_true, nI_of (by omega : (l.take v).flatten.length + (ix l v).length ≤ 9223372036854775807), chk_t, h2, decide_false, cond_false, nI_of (by omega : v + 1 ≤ 9223372036854775807)]
    rw [take_flatten hv, List.length_append]
  · rw [slices_Concat_string_L1]
    have h1 := htk l.length (Nat.le_refl _)
    simp only [Nat.lt_irrefl, decide_false, cond_false, Grow_eq (n := n) (l.take l.length).flatten.length (by omega), Option.bind_some, withK_eq]
    refine loop_fold' (σ := List Str) (st := fun v => (l.take v).flatten) (len := l.length) (fun back v hv => ?_) (fun back => ?_) n (by omega) (by simp)
    · rw [slices_Concat_string_L2]
      have h1 := htk (v + 1) (by omega)
      rw [take_flatten hv] at h1
      simp only [hv, decide_true, cond_true, room_of (b := 16) (n := ((l.take v).flatten ++ ix l v).length) (by omega) (by omega), chk_t, nI_of (by omega : v + 1 ≤ 9223372036854775807)]
      rw [take_flatten hv]
    · rw [slices_Concat_string_L2]; simp
theorem leads_len {t : List Task} (h : OkT t) {x : Task} (hx : x ∈ t) : (leads x).length ≤ 100 := by
  have h1 := h.needs x hx
  have h2 := h.oneof x hx
  have h3 := flatten_len (b := 9) x.OneOf (h.group x hx)
  simp only [leads, List.length_append]; omega
theorem leads_res {t : List Task} (h : OkT t) {x : Task} (hx : x ∈ t) (hn : 1000 < n) : restore_leads n x = some (leads x) := by
  have h1 := leads_len h hx
  have h2 := h.oneof x hx
  rw [restore_leads]
  have e : ([x.Needs] ++ x.OneOf : List (List Str)).flatten = leads x := by simp [leads]
  rw [chk_of (room_of (by simp; omega) (by simp; omega)), Concat_eq _ (by simp; omega) (by rw [e]; omega) hn, e]
  rfl
theorem Leads_ref {t : List Task} (h : OkT t) {x : Task} (hx : x ∈ t) (hn : 1000 < n) : agrafferef08_Leads n x = some (leads x) := by
  have h1 := leads_len h hx
  have h2 := h.oneof x hx
  have h3 := h.needs x hx
  have htk : ∀ v, v ≤ x.OneOf.length → (x.OneOf.take v).flatten.length ≤ x.OneOf.flatten.length := by
    intro v _
    have : x.OneOf.flatten = (x.OneOf.take v).flatten ++ (x.OneOf.drop v).flatten := by rw [← List.flatten_append, List.take_append_drop]
    rw [this, List.length_append]; omega
  rw [agrafferef08_Leads, agraffebase_CopyTexts_2, chk_of (room_of (by omega) (by omega))]
  simp only [Option.bind_some, withK_eq]
  refine loop_fold' (σ := List Str) (st := fun v => x.Needs ++ (x.OneOf.take v).flatten) (len := x.OneOf.length) (fun back v hv => ?_) (fun back => ?_) n (by omega) (by simp)
  · rw [agrafferef08_Leads_L1]
    have h4 := htk (v + 1) (by omega)
    rw [take_flatten hv, List.length_append] at h4
    simp only [leads, List.length_append] at h1
    simp only [hv, decide_true, cond_true, room_of (b := 16) (n := (x.Needs ++ (x.OneOf.take v).flatten ++ ix x.OneOf v).length) (by simp only [List.length_append]; omega) (by simp only [List.length_append]; omega), chk_t, nI_of (by omega : v + 1 ≤ 9223372036854775807)]
    rw [take_flatten hv, List.append_assoc]
  · rw [agrafferef08_Leads_L1]; simp [leads]
def Inv (t : List Task) (out : List Str) : Prop := out.Nodup ∧ ∀ s ∈ out, t.any (byName s) = true
theorem Inv.len {t : List Task} {out : List Str} (h : Inv t out) : out.length ≤ t.length := by
  have := nodup_len out (t.map Task.Name) h.1 fun s hs => by
    obtain ⟨x, hx, rfl⟩ := any_byName.1 (h.2 s hs)
    exact List.mem_map.2 ⟨x, hx, rfl⟩
  simpa using this
theorem Inv.nil (t : List Task) : Inv t [] := ⟨List.nodup_nil, by simp⟩
def rdy (inS : Str → Bool) (out : List Str) (x : Task) : Bool := (inS x.Name && !out.any (isS x.Name)) && !(leads x).any (fun s => inS s && !out.any (isS s))
theorem Inv.step {t : List Task} {out : List Str} (h : Inv t out) {inS : Str → Bool} {x : Task} (hx : x ∈ t) (hr : rdy inS out x = true) : Inv t (out ++ [x.Name]) := by
  unfold rdy at hr
  simp only [Bool.and_eq_true, Bool.not_eq_true'] at hr
  have hn : x.Name ∉ out := fun hm => by
    have := any_isS.2 hm
    rw [hr.1.2] at this; cases this
  refine ⟨List.nodup_append.2 ⟨h.1, by simp, fun a ha b hb => ?_⟩, fun s hs => ?_⟩
  · simp only [List.mem_singleton] at hb
    subst hb
    rintro rfl; exact hn ha
  · rw [List.mem_append, List.mem_singleton] at hs
    rcases hs with hs | rfl
    · exact h.2 s hs
    · exact any_byName.2 ⟨x, hx, rfl⟩
def ordF (t : List Task) (inS : Str → Bool) : Nat → List Str → List Str
  | 0, out => out
  | k + 1, out => bif decide (findI (rdy inS out) t < 0) then out else ordF t inS k (out ++ [(ix t (findI (rdy inS out) t).toNat).Name])
theorem order_loop {F : (List Str → Option (List Str)) → List Str → Option (List Str)} {t : List Task} {inS : Str → Bool}
    (hF : ∀ back out, Inv t out → F back out = bif decide (findI (rdy inS out) t < 0) then some out else back (out ++ [(ix t (findI (rdy inS out) t).toNat).Name])) :
    ∀ n out, Inv t out → t.length - out.length < n → loopN F n out = some (ordF t inS n out) := by
  intro n
  induction n with
  | zero => intro out _ h; omega
  | succ n ih =>
    intro out hi hn
    rw [loopN_s, hF _ out hi, ordF]
    by_cases h : findI (rdy inS out) t < 0
    · simp [h]
    · obtain ⟨f1, f2, f3, f4⟩ := findI_pos h
      have hs := hi.step (ix_mem f2) f3
      have hl := hs.len
      simp only [List.length_append, List.length_singleton] at hl
      simp only [h, decide_false, cond_false]
      exact ih _ hs (by simp only [List.length_append, List.length_singleton]; omega)
theorem ordF_congr {t : List Task} {i1 i2 : Str → Bool} (h : ∀ x ∈ t, i1 x.Name = i2 x.Name ∧ ∀ s ∈ leads x, i1 s = i2 s) : ∀ n out, ordF t i1 n out = ordF t i2 n out := by
  intro n
  induction n with
  | zero => exact fun _ => rfl
  | succ n ih =>
    intro out
    have e : findI (rdy i1 out) t = findI (rdy i2 out) t := findI_congr fun x hx => by
      have e2 : (leads x).any (fun s => i1 s && !out.any (isS s)) = (leads x).any (fun s => i2 s && !out.any (isS s)) := any_congr fun s hs => by rw [(h x hx).2 s hs]
      unfold rdy
      rw [(h x hx).1, e2]
    rw [ordF, ordF, e, ih]
theorem order_res {t : List Task} (h : OkT t) (hn : 1000 < n) : restore_list_order n t = some (ordF t (fun _ => true) n []) := by
  have hlen := h.len
  rw [restore_list_order]
  refine order_loop (fun back out hi => ?_) n [] (Inv.nil t) (by simp; omega)
  have hol := hi.len
  rw [restore_list_order_L1]
  have h1 : ∀ s, restore_list_order_f1_2 n s out = some (!out.any (isS s)) := by
    intro s
    rw [restore_list_order_f1_2, restore_CheckTasks_f1, Contains2_eq out s (by omega) (by omega)]
    simp
  have h3 : ∀ l : List Str, l.length ≤ 900 → slices_ContainsFunc_string_3 n l out = some (l.any fun s => !out.any (isS s)) := by
    intro l hl
    rw [slices_ContainsFunc_string_3, slices_IndexFunc_string_3, withK_eq, loop_findI (l := l) (p := fun s => !out.any (isS s)) (fun back v hv => ?_) (fun back => ?_) n (by omega)]
    · simp only [Option.bind_some, findI_any]
    · rw [slices_IndexFunc_string_3_L1]; simp only [hv, h1, Option.bind_some, decide_true, cond_true, nI_of (by omega : v + 1 ≤ 9223372036854775807), chk_t]
    · rw [slices_IndexFunc_string_3_L1]; simp
  have h2 : ∀ x ∈ t, restore_list_order_f2_2 n x out = some (rdy (fun _ => true) out x) := by
    intro x hx
    rw [restore_list_order_f2_2, h1, leads_res h hx hn]
    simp only [Option.bind_some, gcall_some_]
    unfold rdy
    cases hb : out.any (isS x.Name)
    · simp only [Bool.not_false, cond_true, h3 (leads x) (by have := leads_len h hx; omega), gcall_some_, Option.bind_some, Bool.true_and]
    · simp [gcall]
  have h4 : slices_IndexFunc_Task_3 n t out = some (findI (rdy (fun _ => true) out) t) := by
    rw [slices_IndexFunc_Task_3, withK_eq]
    refine loop_findI (fun back v hv => ?_) (fun back => ?_) n (by omega)
    · rw [slices_IndexFunc_Task_3_L1]; simp only [hv, h2 _ (ix_mem hv), Option.bind_some, decide_true, cond_true, nI_of (by omega : v + 1 ≤ 9223372036854775807), chk_t]
    · rw [slices_IndexFunc_Task_3_L1]; simp
  rw [h4]
  simp only [Option.bind_some]
  by_cases hf : findI (rdy (fun _ => true) out) t < 0
  · simp [hf]
  · obtain ⟨f1, f2, f3, f4⟩ := findI_pos hf
    simp only [hf, decide_false, cond_false, inB_of f1 f2, chk_t, f2, decide_true]
    rw [chk_of (room_of (by simp; omega) (by simp; omega))]
theorem loop_flag {α R : Type} [Inhabited α] {l : List α} {p : α → Bool} {F : (Int × Nat → Option R) → Int × Nat → Option R} {k : Int → Option R}
    (h1 : ∀ back v, v < l.length → F back (-1, v) = bif p (ix l v) then back (((v : Nat) : Int), v + 1) else back (-1, v + 1))
    (h2 : ∀ back (i : Int) v, 0 ≤ i → F back (i, v) = k i) (h3 : ∀ back, F back (-1, l.length) = k (-1)) (n : Nat) (hn : l.length + 1 < n) : loopN F n (-1, 0) = k (findI p l) := by
  have : ∀ n v, v ≤ l.length → l.length - v + 1 < n → loopN F n (-1, v) = match (l.drop v).findIdx? p with | some i => k (((v + i : Nat) : Int)) | none => k (-1) := by
    intro n
    induction n with
    | zero => intro v _ h; omega
    | succ n ih =>
      intro v hv hn
      rw [loopN_s]
      by_cases h : v < l.length
      · rw [h1 _ v h, drop_ix h, List.findIdx?_cons]
        cases hp : p (ix l v) with
        | true =>
          obtain ⟨n, rfl⟩ : ∃ m, n = m + 1 := ⟨n - 1, by omega⟩
          simp only [cond_true, if_true, Nat.add_zero]
          rw [loopN_s, h2 _ _ _ (by omega)]
        | false =>
          simp only [cond_false, Bool.false_eq_true, if_false]
          rw [ih (v + 1) (by omega) (by omega)]
          cases hh : (l.drop (v + 1)).findIdx? p with
          | none => simp
          | some i => simp [Nat.add_assoc, Nat.add_comm 1 i]
      · have : v = l.length := by omega
        subst this
        rw [h3, drop_nil h]
        simp
  rw [this n 0 (by omega) (by omega), List.drop_zero, findI]
  cases l.findIdx? p <;> simp
theorem all_take {α : Type} [Inhabited α] {l : List α} {p : α → Bool} {v : Nat} (hv : v < l.length) : (l.take (v + 1)).all p = ((l.take v).all p && p (ix l v)) := by
  rw [List.take_succ_eq_append_getElem hv, List.all_append, ix_eq hv]; simp
theorem Order_ref {t : List Task} (h : OkT t) {set : List Str} (hset : set.length ≤ 900) (hn : 1000 < n) : agrafferef08_Order n t set = some (ordF t (fun s => set.any (isS s)) n []) := by
  have hlen := h.len
  rw [agrafferef08_Order]
  refine order_loop (fun back out hi => ?_) n [] (Inv.nil t) (by simp; omega)
  have hol := hi.len
  rw [agrafferef08_Order_L3, withK_eq]
  rw [loop_flag (l := t) (p := rdy (fun s => set.any (isS s)) out) (k := fun v51 => bif decide (v51 < (0 : Int)) then some out else
        chk (inB v51 t.length) <|
        chk (decide (v51.toNat < t.length)) <|
        chk (room 16 (out ++ ([(ix t v51.toNat).Name] : List Str)).length) <|
        back (out ++ ([(ix t v51.toNat).Name] : List Str))) (fun back v hv => ?_) (fun back i v hi => ?_) (fun back => ?_) n (by omega)]
  · by_cases hf : findI (rdy (fun s => set.any (isS s)) out) t < 0
    · simp [hf]
    · obtain ⟨f1, f2, f3, f4⟩ := findI_pos hf
      simp only [hf, decide_false, cond_false, inB_of f1 f2, chk_t, f2, decide_true]
      rw [chk_of (room_of (by simp; omega) (by simp; omega))]
  · rw [agrafferef08_Order_L2]
    have hx := ix_mem hv
    have hll := leads_len h hx
    simp only [hv, decide_true, cond_true, show decide ((-1 : Int) < 0) = true from rfl, Bool.and_self, withK_eq, chk_t, HasText_eq set (ix t v).Name (by omega : set.length < n) (by omega), HasText2_eq out (ix t v).Name (by omega : out.length < n) (by omega), Option.bind_some, gcall_some_, Leads_ref h hx hn, nI_of (by omega : v + 1 ≤ 9223372036854775807)]
    rw [loop_fold (σ := Bool) (st := fun v' => ((leads (ix t v)).take v').all fun s => !set.any (isS s) || out.any (isS s)) (len := (leads (ix t v)).length)
      (k := bif (leads (ix t v)).all (fun s => !set.any (isS s) || out.any (isS s)) then back (((v : Nat) : Int), v + 1) else back (-1, v + 1)) (fun back' v' hv' => ?_) (fun back' => ?_) n (by omega) (by simp)]
    · have hb : rdy (fun s => set.any (isS s)) out (ix t v) = ((set.any (isS (ix t v).Name) && !out.any (isS (ix t v).Name)) && !(leads (ix t v)).any (fun s => set.any (isS s) && !out.any (isS s))) := rfl
      have e : (leads (ix t v)).all (fun s => !set.any (isS s) || out.any (isS s)) = !(leads (ix t v)).any (fun s => set.any (isS s) && !out.any (isS s)) := by
        rw [List.not_any_eq_all_not]
        congr 1
        funext s
        cases set.any (isS s) <;> cases out.any (isS s) <;> rfl
      rw [hb, e]
      cases set.any (isS (ix t v).Name) <;> cases out.any (isS (ix t v).Name) <;> simp
    · rw [agrafferef08_Order_L1]
      simp only [hv', decide_true, cond_true, HasText_eq set (ix (leads (ix t v)) v') (by omega : set.length < n) (by omega), HasText2_eq out (ix (leads (ix t v)) v') (by omega : out.length < n) (by omega), Option.bind_some, gcall_some_, nI_of (by omega : v' + 1 ≤ 9223372036854775807), chk_t]
      rw [all_take hv']
      cases ((leads (ix t v)).take v').all fun s => !set.any (isS s) || out.any (isS s)
      · simp
      · cases set.any (isS (ix (leads (ix t v)) v')) <;> simp
    · rw [agrafferef08_Order_L1]
      simp
  · rw [agrafferef08_Order_L2]
    have : ¬ i < 0 := by omega
    simp [this]
  · rw [agrafferef08_Order_L2]
    simp
def tasksE (n : Nat) (t : List Task) : Int :=
  bif decide (60 < t.length) then 8 else bif firstE (taskE t) 0 t.length != 0 then firstE (taskE t) 0 t.length
  else bif decide ((ordF t (fun _ => true) n []).length < t.length) then 21 else 0
theorem CheckTasks_res {t : List Task} (h : OkT t) (hn : 1000 < n) : restore_CheckTasks n t = some (tasksE n t) := by
  have hlen := h.len
  rw [restore_CheckTasks, tasksE]
  by_cases hl : 60 < t.length
  · simp [hl]
  simp only [hl, decide_false, cond_false, withK_eq, order_res h hn, Option.bind_some]
  rw [loop_errs (E := taskE t) (len := t.length) (k := bif decide ((ordF t (fun _ => true) n []).length < t.length) then 21 else 0) (fun back v hv => ?_) (fun back => ?_) (by omega)]
  · rw [restore_CheckTasks_L1]
    simp only [hv, decide_true, cond_true, task_res h hn hv, Option.bind_some, nI_of (by omega : v + 1 ≤ 9223372036854775807), chk_t]
  · rw [restore_CheckTasks_L1]
    simp only [Nat.lt_irrefl, decide_false, cond_false]
    cases decide ((ordF t (fun _ => true) n []).length < t.length) <;> rfl
theorem lead_known {t : List Task} {i : Nat} (hi : i < t.length) (h : taskE t i = 0) : ∀ s ∈ leads (ix t i), t.any (byName s) = true := by
  unfold taskE at h
  cases h1 : nameB (ix t i).Name
  · simp [h1] at h
  rw [h1] at h
  simp only [Bool.not_true, cond_false] at h
  cases h2 : decide (findI (byName (ix t i).Name) t < (i : Int))
  · rw [h2] at h
    simp only [cond_false] at h
    cases h3 : (!((decide (0 ≤ (ix t i).Cents)) && (decide ((ix t i).Cents ≤ 1000000000)))) || (!((decide (0 ≤ (ix t i).Hours)) && (decide ((ix t i).Hours ≤ 10000))))
    · rw [h3] at h
      simp only [cond_false] at h
      cases h4 : large (ix t i)
      · rw [h4] at h
        simp only [cond_false] at h
        by_cases h5 : known t (ix t i).Needs = 0
        · simp only [h5, bne_self_eq_false, cond_false] at h
          by_cases h6 : firstE (grpE t (ix t i).OneOf) 0 (ix t i).OneOf.length = 0
          · intro s hs
            rw [leads, List.mem_append] at hs
            rcases hs with hs | hs
            · exact known_zero h5 s hs
            · obtain ⟨g, hg, hsg⟩ := List.mem_flatten.1 hs
              obtain ⟨k, hk, rfl⟩ := List.mem_iff_getElem.1 hg
              have := firstE_zero h6 k (by omega) (by omega)
              unfold grpE at this
              rw [ix_eq hk] at this
              cases h7 : decide ((ix t i).OneOf[k].length = 0)
              · rw [h7] at this
                simp only [cond_false] at this
                exact known_zero this s hsg
              · rw [h7] at this; simp at this
          · rw [bne_t h6, cond_true] at h; exact absurd h h6
        · rw [bne_t h5, cond_true] at h; exact absurd h h5
      · rw [h4] at h; simp at h
    · rw [h3] at h; simp at h
  · rw [h2] at h; simp at h
theorem CheckTasks_ref {t : List Task} (h : OkT t) (hn : 1000 < n) : agrafferef08_CheckTasks n t = some (tasksE n t) := by
  have hlen := h.len
  rw [agrafferef08_CheckTasks, tasksE]
  by_cases hl : 60 < t.length
  · simp [hl]
  simp only [hl, decide_false, cond_false, withK_eq]
  by_cases h0 : firstE (taskE t) 0 t.length = 0
  · have hcong : ordF t (fun s => (t.map Task.Name).any (isS s)) n [] = ordF t (fun _ => true) n [] := by
      refine ordF_congr (fun x hx => ⟨any_isS.2 (List.mem_map.2 ⟨x, hx, rfl⟩), fun s hs => ?_⟩) n []
      obtain ⟨i, hi, rfl⟩ := List.mem_iff_getElem.1 hx
      have hz := firstE_zero h0 i (by omega) (by omega)
      rw [← ix_eq hi] at hs
      obtain ⟨y, hy, e⟩ := any_byName.1 (lead_known hi hz s hs)
      exact any_isS.2 (List.mem_map.2 ⟨y, hy, e⟩)
    rw [loop_errs (E := taskE t) (len := t.length) (k := bif decide ((ordF t (fun _ => true) n []).length < t.length) then 21 else 0) (fun back v hv => ?_) (fun back => ?_) (by omega)]
    · rw [agrafferef08_CheckTasks_L1]
      simp only [hv, decide_true, cond_true, task_ref h hn hv, Option.bind_some, nI_of (by omega : v + 1 ≤ 9223372036854775807), chk_t]
    · rw [agrafferef08_CheckTasks_L1]
      simp only [Nat.lt_irrefl, decide_false, cond_false]
      rw [loop_fold (σ := List Str) (st := fun v => (t.take v).map Task.Name) (len := t.length) (k := some (bif decide ((ordF t (fun _ => true) n []).length < t.length) then 21 else 0)) (fun back v hv => ?_) (fun back => ?_) n (by omega) (by simp)]
      · rw [agrafferef08_CheckTasks_L2]
        simp only [hv, decide_true, cond_true, nI_of (by omega : v + 1 ≤ 9223372036854775807), chk_t]
        rw [chk_of (room_of (by simp; omega) (by simp; omega)), List.take_succ_eq_append_getElem hv, List.map_append, ix_eq hv]
        rfl
      · rw [agrafferef08_CheckTasks_L2]
        simp only [Nat.lt_irrefl, decide_false, cond_false, List.take_length, Order_ref h (set := t.map Task.Name) (by simp; omega) hn, Option.bind_some, hcong]
        cases decide ((ordF t (fun _ => true) n []).length < t.length) <;> rfl
  · rw [loop_first (st := fun v => v) (E := taskE t) (err := some) (k := agrafferef08_CheckTasks_L1 n t (fun _ => loopN (agrafferef08_CheckTasks_L2 t fun v6 => (agrafferef08_Order n t v6).bind fun y7 => bif decide (y7.length < t.length) then some 21 else some 0) n ([], 0)) (fun _ => none) t.length) (len := t.length) (fun back v hv _ => ?_) (fun back _ => ?_) n 0 (by omega) (by omega) (fun j h => by omega), Nat.sub_zero, bne_t h0, cond_true, cond_true]
    · rw [agrafferef08_CheckTasks_L1]
      simp only [hv, decide_true, cond_true, task_ref h hn hv, Option.bind_some, nI_of (by omega : v + 1 ≤ 9223372036854775807), chk_t]
    · rw [agrafferef08_CheckTasks_L1, agrafferef08_CheckTasks_L1]
      simp
end
section
set_option maxRecDepth 4000
open Go
def byPart (s : Str) (x : Stocked) : Bool := x.Part == s
theorem FindStock_eq (n : Nat) (a0 : List Stocked) (s : Str) (hn : a0.length < n) (hl : a0.length < 9223372036854775807) : agrafferef08_FindStock n a0 s = some (findI (byPart s) a0) := by
  rw [agrafferef08_FindStock, withK_eq]
  rw [loop_find (l := a0) (p := byPart s) (yes := fun v => some ((v : Nat) : Int)) (no := some (-1)) (fun back v => by rw [agrafferef08_FindStock_L1]; rfl) n 0 (by omega) hl]
  simp only [List.drop_zero, findI]
  cases a0.findIdx? (byPart s) <;> simp
theorem stocked_eq (n : Nat) (a0 : List Stocked) (s : Str) (hn : a0.length < n) (hl : a0.length < 9223372036854775807) : restore_stocked n a0 s = some (findI (byPart s) a0) := by
  rw [restore_stocked, slices_IndexFunc_Stocked, withK_eq]
  rw [loop_find (l := a0) (p := byPart s) (yes := fun v => some ((v : Nat) : Int)) (no := some (-1)) (fun back v => by rw [slices_IndexFunc_Stocked_L1]; simp only [restore_stocked_f1, Option.bind_some]; rfl) n 0 (by omega) hl]
  simp only [List.drop_zero, findI]
  cases a0.findIdx? (byPart s) <;> simp
def stockE (a0 : List Stocked) (v : Nat) : Int :=
  bif !nameB (ix a0 v).Part then 4 else bif decide ((0 : Int) ≤ findI (byPart (ix a0 v).Part) (a0.take v)) then 5
  else bif (!((decide (0 ≤ (ix a0 v).Cents)) && (decide ((ix a0 v).Cents ≤ 1000000000)))) || (!((decide (0 ≤ (ix a0 v).Count)) && (decide ((ix a0 v).Count ≤ 10000)))) then 2 else 0
def stockC (a0 : List Stocked) : Int := bif decide (60 < a0.length) then 8 else firstE (stockE a0) 0 a0.length
theorem CheckStock_ref (n : Nat) (a0 : List Stocked) (hs : ∀ x ∈ a0, x.Part.length ≤ 20) (hn : 100 < n) : agrafferef08_CheckStock n a0 = some (stockC a0) := by
  rw [agrafferef08_CheckStock, stockC]
  by_cases hlen : 60 < a0.length
  · simp [hlen]
  simp only [hlen, decide_false, cond_false, withK_eq]
  rw [loop_first (st := fun v => v) (E := stockE a0) (err := some) (k := some 0) (len := a0.length) ?_ ?_ n 0 (by omega) (by omega) (fun j h => by omega)]
  · rw [Nat.sub_zero]; exact bif_id
  · intro back v hv _
    rw [agrafferef08_CheckStock_L1]
    have h1 := hs _ (ix_mem hv)
    have hI := IsName_eq (ix a0 v).Part n (by omega) (by omega)
    have hF := FindStock_eq n (a0.take v) (ix a0 v).Part (by simp; omega) (by simp; omega)
    have hle : v ≤ a0.length := by omega
    simp only [hv, hle, decide_true, cond_true, hI, Option.bind_some, hF, agraffebase_Within, gcall_some_, nI_of (by omega : v + 1 ≤ 9223372036854775807), chk_t, stockE]
    cases nameB (ix a0 v).Part <;> cases decide ((0 : Int) ≤ findI (byPart (ix a0 v).Part) (a0.take v)) <;> simp only [Bool.not_true, Bool.not_false, cond_true, cond_false] <;> first | rfl | skip
    cases ((!((decide (0 ≤ (ix a0 v).Cents)) && (decide ((ix a0 v).Cents ≤ 1000000000)))) || (!((decide (0 ≤ (ix a0 v).Count)) && (decide ((ix a0 v).Count ≤ 10000))))) <;> rfl
  · intro back _
    rw [agrafferef08_CheckStock_L1]
    simp
theorem CheckStock_res (n : Nat) (a0 : List Stocked) (hs : ∀ x ∈ a0, x.Part.length ≤ 20) (hn : 100 < n) : restore_CheckStock n a0 = some (stockC a0) := by
  rw [restore_CheckStock, stockC]
  by_cases hlen : 60 < a0.length
  · simp [hlen]
  simp only [hlen, decide_false, cond_false, withK_eq]
  rw [loop_first (st := fun v => v) (E := stockE a0) (err := some) (k := some 0) (len := a0.length) ?_ ?_ n 0 (by omega) (by omega) (fun j h => by omega)]
  · rw [Nat.sub_zero]; exact bif_id
  · intro back v hv _
    rw [restore_CheckStock_L1]
    have h1 := hs _ (ix_mem hv)
    have hI := isName_eq (ix a0 v).Part n (by omega) (by omega)
    have hF := stocked_eq n (a0.take v) (ix a0 v).Part (by simp; omega) (by simp; omega)
    have hle : v ≤ a0.length := by omega
    simp only [hv, hle, decide_true, cond_true, hI, Option.bind_some, hF, restore_within, gcall_some_, nI_of (by omega : v + 1 ≤ 9223372036854775807), chk_t, stockE]
    cases nameB (ix a0 v).Part <;> cases decide ((0 : Int) ≤ findI (byPart (ix a0 v).Part) (a0.take v)) <;> simp only [Bool.not_true, Bool.not_false, cond_true, cond_false] <;> first | rfl | skip
    cases ((!((decide (0 ≤ (ix a0 v).Cents)) && (decide ((ix a0 v).Cents ≤ 1000000000)))) || (!((decide (0 ≤ (ix a0 v).Count)) && (decide ((ix a0 v).Count ≤ 10000))))) <;> rfl
  · intro back _
    rw [restore_CheckStock_L1]
    simp
end
section
set_option maxRecDepth 4000
open Go
variable {n : Nat}
@[simp] theorem gcall_t {α : Type} [Inhabited α] (x : Option α) : gcall true x = x := rfl
@[simp] theorem gcall_f {α : Type} [Inhabited α] (x : Option α) : gcall false x = some default := rfl
theorem set_ix {α : Type} [Inhabited α] {l : List α} {i : Nat} (h : i < l.length) : l.set i (ix l i) = l := by
  rw [ix_eq h]; exact List.set_getElem_self h
def textsB (l : List Str) (m : Int) : Bool := !decide (m < (l.length : Int)) && !l.any fun s => decide (20 < s.length)
theorem texts_eq (l : List Str) (m : Int) (hm : m ≤ 500) (hn : 1000 < n) : agraffelaw08_texts n l m = some (textsB l m) := by
  rw [agraffelaw08_texts, textsB]
  by_cases h : m < (l.length : Int)
  · simp [h]
  · simp only [h, decide_false, cond_false, withK_eq]
    rw [loop_any' (l := l) (p := fun s => decide (20 < s.length)) (bad := some false) (no := some true) (fun back v hv => ?_) (fun back => ?_) n (by omega)]
    · cases l.any fun s => decide (20 < s.length) <;> rfl
    · rw [agraffelaw08_texts_L1]; simp only [hv, decide_true, cond_true, nI_of (by omega : v + 1 ≤ 9223372036854775807), chk_t]
    · rw [agraffelaw08_texts_L1]; simp
theorem textsB_len {l : List Str} {m : Int} (h : textsB l m = true) : (l.length : Int) ≤ m := by
  unfold textsB at h
  simp only [Bool.and_eq_true, Bool.not_eq_true', decide_eq_false_iff_not] at h
  omega
def badT (x : Task) : Bool := ((((decide (20 < x.Name.length)) || !textsB x.Needs 13) || decide (9 < x.OneOf.length)) || decide (13 < x.Parts.length)) || (x.OneOf.any (fun g => !textsB g 9) || x.Parts.any (fun p => decide (20 < p.Part.length)))
def fewB (t : List Task) : Bool := !(((decide (9 < t.length)) && decide (t.length ≤ 60)) || decide (63 < t.length)) && !t.any badT
theorem Few_eq (t : List Task) (hn : 1000 < n) : agraffelaw08_Few n t = some (fewB t) := by
  rw [agraffelaw08_Few, fewB]
  cases hl : ((decide (9 < t.length)) && decide (t.length ≤ 60)) || decide (63 < t.length)
  · simp only [Bool.or_eq_false_iff, decide_eq_false_iff_not] at hl
    simp only [cond_false, withK_eq, Bool.not_false, Bool.true_and]
    rw [loop_any' (l := t) (p := badT) (bad := some false) (no := some true) (fun back v hv => ?_) (fun back => ?_) n (by omega)]
    · cases t.any badT <;> rfl
    · rw [agraffelaw08_Few_L3]
      simp only [hv, decide_true, cond_true, nI_of (by omega : v + 1 ≤ 9223372036854775807), chk_t, withK_eq, texts_eq (n := n) (ix t v).Needs 13 (by omega) hn, gcall_some_, Option.bind_some]
      have e : ((((decide (20 < (ix t v).Name.length)) || !(bif !decide (20 < (ix t v).Name.length) then textsB (ix t v).Needs 13 else default)) || decide (9 < (ix t v).OneOf.length)) || decide (13 < (ix t v).Parts.length)) = ((((decide (20 < (ix t v).Name.length)) || !textsB (ix t v).Needs 13) || decide (9 < (ix t v).OneOf.length)) || decide (13 < (ix t v).Parts.length)) := by
        cases decide (20 < (ix t v).Name.length) <;> simp
      rw [e]
      unfold badT
      cases hb : ((((decide (20 < (ix t v).Name.length)) || !textsB (ix t v).Needs 13) || decide (9 < (ix t v).OneOf.length)) || decide (13 < (ix t v).Parts.length))
      · simp only [Bool.or_eq_false_iff, decide_eq_false_iff_not] at hb
        simp only [cond_false, Bool.false_or]
        rw [loop_any' (l := (ix t v).OneOf) (p := fun g => !textsB g 9) (bad := some false) (no := bif (ix t v).Parts.any (fun p => decide (20 < p.Part.length)) then some false else back (v + 1)) (fun back' v' hv' => ?_) (fun back' => ?_) n (by omega)]
        · cases (ix t v).OneOf.any fun g => !textsB g 9 <;> rfl
        · rw [agraffelaw08_Few_L1]
          simp only [hv', decide_true, cond_true, chk_t, texts_eq (n := n) (ix (ix t v).OneOf v') 9 (by omega) hn, Option.bind_some, nI_of (by omega : v' + 1 ≤ 9223372036854775807)]
        · rw [agraffelaw08_Few_L1]
          simp only [Nat.lt_irrefl, decide_false, cond_false]
          rw [loop_any' (l := (ix t v).Parts) (p := fun p => decide (20 < p.Part.length)) (bad := some false) (no := back (v + 1)) (fun back' v' hv' => ?_) (fun back' => ?_) n (by omega)]
          · rw [agraffelaw08_Few_L2]
            simp only [hv', decide_true, cond_true, chk_t, nI_of (by omega : v' + 1 ≤ 9223372036854775807)]
          · rw [agraffelaw08_Few_L2]
            simp
      · simp
    · rw [agraffelaw08_Few_L3]; simp
  · simp
theorem few_ok {t : List Task} (h : fewB t = true) : OkT t := by
  unfold fewB at h
  simp only [Bool.and_eq_true, Bool.not_eq_true', Bool.or_eq_false_iff, decide_eq_false_iff_not] at h
  obtain ⟨⟨_, hl⟩, hb⟩ := h
  rw [List.any_eq_false] at hb
  have key : ∀ x ∈ t, x.Name.length ≤ 20 ∧ textsB x.Needs 13 = true ∧ x.OneOf.length ≤ 9 ∧ x.Parts.length ≤ 13 ∧ (∀ g ∈ x.OneOf, textsB g 9 = true) ∧ ∀ p ∈ x.Parts, p.Part.length ≤ 20 := by
    intro x hx
    have h1 := hb x hx
    unfold badT at h1
    simp only [Bool.not_eq_true, Bool.or_eq_false_iff, decide_eq_false_iff_not, Bool.not_eq_false', List.any_eq_false, decide_eq_true_eq, Bool.not_eq_true'] at h1
    obtain ⟨⟨⟨⟨a, b⟩, c⟩, d⟩, e, f⟩ := h1
    refine ⟨by omega, b, by omega, by omega, fun g hg => ?_, fun p hp => ?_⟩
    · have := e g hg
      simpa using this
    · have := f p hp
      omega
  refine ⟨by omega, fun x hx => (key x hx).1, fun x hx => ?_, fun x hx => (key x hx).2.2.1, fun x hx g hg => ?_, fun x hx => (key x hx).2.2.2.1, fun x hx => (key x hx).2.2.2.2.2⟩
  · have := textsB_len (key x hx).2.1; omega
  · have := textsB_len ((key x hx).2.2.2.2.1 g hg); omega
theorem Copied_eq {t : List Task} (h : OkT t) (hn : 1000 < n) : agraffelaw08_Copied n t = some t := by
  have hlen := h.len
  rw [agraffelaw08_Copied, chk_of (room_of (by omega) (by omega)), withK_eq]
  refine loop_fold' (σ := List Task) (st := fun _ => t) (len := t.length) (fun back v hv => ?_) (fun back => ?_) n (by omega) rfl
  · have hx := ix_mem hv
    have h1 := h.needs _ hx
    have h2 := h.oneof _ hx
    have h3 := h.parts _ hx
    rw [agraffelaw08_Copied_L2]
    simp only [hv, decide_true, cond_true, withK_eq, agraffebase_CopyTexts_2, set_ix hv, chk_t, room_of (b := 16) (n := (ix t v).Needs.length) (by omega) (by omega), room_of (b := 24) (n := (ix t v).Parts.length) (by omega) (by omega), Option.bind_some]
    rw [loop_fold' (σ := List (List Str)) (st := fun v' => (ix t v).OneOf.take v') (len := (ix t v).OneOf.length) (k := back (v + 1, t)) (fun back' v' hv' => ?_) (fun back' => ?_) n (by omega) (s0 := []) (by simp)]
    · rw [agraffelaw08_Copied_L1]
      have hg := h.group _ hx _ (ix_mem hv')
      simp only [set_ix hv, hv', decide_true, cond_true, chk_t, agraffebase_CopyTexts, room_of (b := 16) (n := (ix (ix t v).OneOf v').length) (by omega) (by omega), Option.bind_some, nI_of (by omega : v' + 1 ≤ 9223372036854775807)]
      rw [chk_of (room_of (by simp; omega) (by simp; omega)), List.take_succ_eq_append_getElem hv', ix_eq hv']
    · rw [agraffelaw08_Copied_L1]
      simp only [set_ix hv, Nat.lt_irrefl, decide_false, cond_false, List.take_length, nI_of (by omega : v + 1 ≤ 9223372036854775807), chk_t]
  · rw [agraffelaw08_Copied_L2]
    simp
def stockedB (s : List Stocked) : Bool := !(((decide (8 < s.length)) && (decide (s.length ≤ 60))) || (decide (63 < s.length))) && !s.any (fun x => decide (20 < x.Part.length))
theorem stocked_law_eq (s : List Stocked) (hn : 1000 < n) : agraffelaw08_stocked n s = some (stockedB s) := by
  rw [agraffelaw08_stocked, stockedB]
  cases hl : ((decide (8 < s.length)) && (decide (s.length ≤ 60))) || (decide (63 < s.length))
  · simp only [Bool.or_eq_false_iff, decide_eq_false_iff_not] at hl
    simp only [cond_false, withK_eq]
    rw [loop_any (l := s) (p := fun x => decide (20 < x.Part.length)) (bad := some false) (no := some true) (fun back v => by rw [agraffelaw08_stocked_L1]) n (by omega) (by omega)]
    cases s.any (fun x => decide (20 < x.Part.length)) <;> rfl
  · rfl
theorem stockedB_ok {s : List Stocked} (h : stockedB s = true) : s.length ≤ 63 ∧ ∀ x ∈ s, x.Part.length ≤ 20 := by
  unfold stockedB at h
  simp only [Bool.and_eq_true, Bool.not_eq_true', Bool.or_eq_false_iff, decide_eq_false_iff_not, List.any_eq_false, decide_eq_true_eq] at h
  exact ⟨by omega, fun x hx => by have := h.2 x hx; omega⟩
end
section
set_option maxRecDepth 4000
open Go
theorem loop_inv {σ R : Type} {F : (σ → Option R) → σ → Option R} {P : Nat → σ → Prop} {len : Nat} (h1 : ∀ back v s, v < len → P v s → ∃ s', P (v + 1) s' ∧ F back s = back s') : ∀ n v s, v ≤ len → len - v < n → P v s → ∃ s' back, P len s' ∧ loopN F n s = F back s' := by
  intro n
  induction n with
  | zero => intro v s _ h; omega
  | succ n ih =>
    intro v s hv hn hp
    rw [loopN_s]
    by_cases h : v < len
    · obtain ⟨s', p, e⟩ := h1 (loopN F n) v s h hp
      rw [e]
      exact ih (v + 1) s' (by omega) (by omega) p
    · have : v = len := by omega
      subst this
      exact ⟨s, loopN F n, hp, rfl⟩
end
section
set_option maxRecDepth 4000
open Go
def sm (f : Nat → Int) : Nat → Int
  | 0 => 0
  | k + 1 => sm f k + f k
theorem sm_le {f : Nat → Int} {c : Int} : ∀ n, (∀ i, i < n → f i ≤ c) → sm f n ≤ n * c
  | 0, _ => by simp [sm]
  | k + 1, h => by
    have h1 := sm_le k fun i hi => h i (by omega)
    have h2 := h k (by omega)
    have e : ((k + 1 : Nat) : Int) * c = k * c + c := by rw [Int.natCast_add, Int.add_mul]; simp
    rw [e, sm]; omega
theorem sm_nn {f : Nat → Int} : ∀ n, (∀ i, i < n → 0 ≤ f i) → 0 ≤ sm f n
  | 0, _ => by simp [sm]
  | k + 1, h => by
    have h1 := sm_nn k fun i hi => h i (by omega)
    have h2 := h k (by omega)
    rw [sm]; omega
theorem sm_congr {f g : Nat → Int} : ∀ n, (∀ i, i < n → f i = g i) → sm f n = sm g n
  | 0, _ => rfl
  | k + 1, h => by rw [sm, sm, sm_congr k fun i hi => h i (by omega), h k (by omega)]
end
section
set_option maxRecDepth 4000
open Go
variable {n : Nat}
theorem bLt_irr (a : Str) : bLt a a = false := by
  induction a with
  | nil => rfl
  | cons x a ih => simp [bLt, Op.bytesLess] at ih ⊢; exact ih
theorem bLt_tri : ∀ (a b : Str), bLt a b = true ∨ a = b ∨ bLt b a = true
  | [], [] => .inr (.inl rfl)
  | [], y :: b => .inl (by simp [bLt, Op.bytesLess])
  | x :: a, [] => .inr (.inr (by simp [bLt, Op.bytesLess]))
  | x :: a, y :: b => by
    have ih := bLt_tri a b
    simp only [bLt, Op.bytesLess] at ih ⊢
    by_cases h : x < y
    · simp [h]
    · by_cases g : y < x
      · simp [g]
      · have : x = y := UInt8.le_antisymm (UInt8.not_lt.1 g) (UInt8.not_lt.1 h)
        subst this
        simpa [h] using ih
theorem bLt_trans : ∀ (a b c : Str), bLt a b = true → bLt b c = true → bLt a c = true
  | [], [], c, h, _ => by simp [bLt, Op.bytesLess] at h
  | [], y :: b, [], _, g => by simp [bLt, Op.bytesLess] at g
  | [], y :: b, z :: c, _, _ => by simp [bLt, Op.bytesLess]
  | x :: a, [], c, h, _ => by simp [bLt, Op.bytesLess] at h
  | x :: a, y :: b, [], _, g => by simp [bLt, Op.bytesLess] at g
  | x :: a, y :: b, z :: c, h, g => by
    have ih := bLt_trans a b c
    simp only [bLt, Op.bytesLess, Bool.or_eq_true, Bool.and_eq_true, decide_eq_true_eq, beq_iff_eq] at ih h g ⊢
    rcases h with h | ⟨h1, h2⟩
    · rcases g with g | ⟨g1, g2⟩
      · exact .inl (UInt8.lt_trans h g)
      · subst g1; exact .inl h
    · subst h1
      rcases g with g | ⟨g1, g2⟩
      · exact .inl g
      · exact .inr ⟨g1, ih h2 g2⟩
theorem bLt_asym {a b : Str} (h : bLt a b = true) : bLt b a = false := by
  cases g : bLt b a with
  | false => rfl
  | true => have := bLt_trans _ _ _ h g; rw [bLt_irr] at this; cases this
theorem bLt_not (a b : Str) : (!bLt a b) = (bLt b a || (b == a)) := by
  rcases bLt_tri a b with h | h | h
  · have g := bLt_asym h
    have : (b == a) = false := by
      rw [beq_eq_false_iff_ne]; rintro rfl; rw [bLt_irr] at h; cases h
    simp [h, g, this]
  · subst h; simp [bLt_irr]
  · simp [h, bLt_asym h]
def Asc (l : List Str) : Prop := l.Pairwise fun a b => bLt a b = true
theorem Asc.ext : ∀ {l m : List Str}, Asc l → Asc m → (∀ s, s ∈ l ↔ s ∈ m) → l = m
  | [], [], _, _, _ => rfl
  | [], y :: m, _, _, h => by have := (h y).2 (by simp); simp at this
  | x :: l, [], _, _, h => by have := (h x).1 (by simp); simp at this
  | x :: l, y :: m, h1, h2, h => by
    have g1 := List.pairwise_cons.1 h1
    have g2 := List.pairwise_cons.1 h2
    have e : x = y := by
      have a1 := (h x).1 (by simp)
      have a2 := (h y).2 (by simp)
      rcases List.mem_cons.1 a1 with c | c
      · exact c
      · rcases List.mem_cons.1 a2 with d | d
        · exact d.symm
        · have u1 := g2.1 x c
          have u2 := g1.1 y d
          rw [bLt_asym u1] at u2; cases u2
    subst e
    congr 1
    refine Asc.ext g1.2 g2.2 fun s => ?_
    have hs := h s
    simp only [List.mem_cons] at hs
    constructor
    · intro hl
      rcases hs.1 (.inr hl) with c | c
      · subst c; have := g1.1 _ hl; rw [bLt_irr] at this; cases this
      · exact c
    · intro hl
      rcases hs.2 (.inr hl) with c | c
      · subst c; have := g2.1 _ hl; rw [bLt_irr] at this; cases this
      · exact c
theorem Asc.of_ix {l : List Str} (h : ∀ v, 1 ≤ v → v < l.length → bLt (ix l (v - 1)) (ix l v) = true) : Asc l := by
  have key : ∀ d i, i + d + 1 < l.length → bLt (ix l i) (ix l (i + d + 1)) = true := by
    intro d
    induction d with
    | zero => intro i hi; exact h (i + 1) (by omega) hi
    | succ d ih => intro i hi; exact bLt_trans _ _ _ (ih i (by omega)) (h (i + (d + 1) + 1) (by omega) hi)
  rw [Asc, List.pairwise_iff_getElem]
  intro i j hi hj hij
  have := key (j - i - 1) i (by omega)
  rw [show i + (j - i - 1) + 1 = j by omega, ix_eq hi, ix_eq hj] at this
  exact this
theorem Asc.nodup {l : List Str} (h : Asc l) : l.Nodup := by
  rw [List.nodup_iff_pairwise_ne]
  refine List.Pairwise.imp ?_ h
  rintro a b hab rfl
  rw [bLt_irr] at hab; cases hab
def setE1 (t : List Task) (l : List Str) (v : Nat) : Int := bif !t.any (byName (ix l v)) then 6 else 0
def setE2 (l : List Str) (v : Nat) : Int := bif !bLt (ix l (v - 1)) (ix l v) then 9 else 0
def setE (t : List Task) (l : List Str) : Int := bif firstE (setE1 t l) 0 l.length != 0 then firstE (setE1 t l) 0 l.length else firstE (setE2 l) 1 (l.length - 1)
theorem set_loop2 {F : (Nat → Option Int) → Nat → Option Int} {l : List Str} (h1 : ∀ back v, 1 ≤ v → v < l.length → F back v = bif !bLt (ix l (v - 1)) (ix l v) then some 9 else back (v + 1)) (h2 : ∀ back v, l.length ≤ v → F back v = some 0) (hl : l.length < n) : loopN F n 1 = some (firstE (setE2 l) 1 (l.length - 1)) := by
  have main : ∀ n v, 1 ≤ v → l.length - v < n → loopN F n v = some (firstE (setE2 l) v (l.length - v)) := by
    intro n
    induction n with
    | zero => intro v _ h; omega
    | succ n ih =>
      intro v hv hn
      rw [loopN_s]
      by_cases h : v < l.length
      · rw [h1 _ _ hv h, ih (v + 1) (by omega) (by omega), show l.length - v = (l.length - (v + 1)) + 1 by omega, firstE, setE2]
        cases !bLt (ix l (v - 1)) (ix l v) <;> simp
      · rw [h2 _ _ (by omega), show l.length - v = 0 by omega]; rfl
  exact main n 1 (by omega) (by omega)
theorem set_res {t : List Task} {l : List Str} (ht : t.length ≤ 900) (hl : l.length ≤ 900) (hn : 1000 < n) : restore_list_checkSet n t l = some (setE t l) := by
  rw [restore_list_checkSet]
  simp only [withK_eq]
  rw [set_loop2 (n := n) (l := l) (fun back v h1 h2 => ?_) (fun back v h => ?_) (by omega), setE]
  · rw [loop_errs (n := n) (E := setE1 t l) (len := l.length) (k := firstE (setE2 l) 1 (l.length - 1)) (fun back v hv => ?_) (fun back => ?_) (by omega)]
    · rw [restore_list_checkSet_L1]
      simp only [hv, decide_true, cond_true, find_eq t (ix l v) (by omega : t.length < n) (by omega), Option.bind_some, findI_none, nI_of (by omega : v + 1 ≤ 9223372036854775807), chk_t, setE1]
      cases !t.any (byName (ix l v)) <;> rfl
    · rw [restore_list_checkSet_L1]; simp
  · have e : (((v : Nat) : Int) - 1).toNat = v - 1 := by omega
    rw [restore_list_checkSet_L2]
    simp only [h2, decide_true, cond_true, e, show v - 1 < l.length by omega, chk_t]
    rw [chk_of (inI_of (by omega) (by omega)), chk_of (inB_of (by omega) (by omega)), ← bLt_not, chk_of (nI_of (by omega))]
  · rw [restore_list_checkSet_L2]
    simp [show ¬ v < l.length by omega]
theorem set_ref {t : List Task} {l : List Str} (ht : t.length ≤ 900) (hl : l.length ≤ 900) (hn : 1000 < n) : agrafferef08_CheckSet n t l = some (setE t l) := by
  rw [agrafferef08_CheckSet]
  simp only [withK_eq]
  rw [set_loop2 (n := n) (l := l) (fun back v h1 h2 => ?_) (fun back v h => ?_) (by omega), setE]
  · rw [loop_errs (n := n) (E := setE1 t l) (len := l.length) (k := firstE (setE2 l) 1 (l.length - 1)) (fun back v hv => ?_) (fun back => ?_) (by omega)]
    · rw [agrafferef08_CheckSet_L1]
      simp only [hv, decide_true, cond_true, Find_eq t (ix l v) (by omega : t.length < n) (by omega), Option.bind_some, findI_none, nI_of (by omega : v + 1 ≤ 9223372036854775807), chk_t, setE1]
      cases !t.any (byName (ix l v)) <;> rfl
    · rw [agrafferef08_CheckSet_L1]; simp
  · have e : (((v : Nat) : Int) - 1).toNat = v - 1 := by omega
    rw [agrafferef08_CheckSet_L2]
    simp only [h2, decide_true, cond_true, e, show v - 1 < l.length by omega, chk_t]
    rw [chk_of (inI_of (by omega) (by omega)), chk_of (inB_of (by omega) (by omega)), chk_of (nI_of (by omega))]
  · rw [agrafferef08_CheckSet_L2]
    simp [show ¬ v < l.length by omega]
theorem set_ok {t : List Task} {l : List Str} (h : setE t l = 0) : (∀ s ∈ l, t.any (byName s) = true) ∧ Asc l := by
  unfold setE at h
  by_cases h1 : firstE (setE1 t l) 0 l.length = 0
  · rw [h1] at h
    simp only [bne_self_eq_false, cond_false] at h
    refine ⟨fun s hs => ?_, Asc.of_ix fun v h2 h3 => ?_⟩
    · obtain ⟨i, hi, rfl⟩ := List.mem_iff_getElem.1 hs
      have := firstE_zero h1 i (by omega) (by omega)
      unfold setE1 at this
      rw [ix_eq hi] at this
      cases h4 : t.any (byName l[i])
      · rw [h4] at this; simp at this
      · rfl
    · have := firstE_zero h v (by omega) (by omega)
      unfold setE2 at this
      cases h4 : bLt (ix l (v - 1)) (ix l v)
      · rw [h4] at this; simp at this
      · rfl
  · rw [bne_t h1] at h
    exact absurd h h1
def taskOf (t : List Task) (s : Str) : Task := ix t (findI (byName s) t).toNat
theorem known_ix {t : List Task} {s : Str} (h : t.any (byName s) = true) : inB (findI (byName s) t) t.length = true ∧ (findI (byName s) t).toNat < t.length ∧ taskOf t s ∈ t ∧ (taskOf t s).Name = s := by
  have h0 : ¬ findI (byName s) t < 0 := by
    intro c
    have := findI_none (byName s) t
    rw [h] at this
    simp [c] at this
  obtain ⟨a, b, c, _⟩ := findI_pos h0
  exact ⟨inB_of a b, b, ix_mem b, eq_of_beq c⟩
theorem sets_res {t : List Task} (h : OkT t) {ls : List (List Str)} (h1 : ls.length ≤ 900) (hl : ∀ l ∈ ls, l.length ≤ 900) (hn : 1000 < n) : restore_checkSets n t ls = some (bif tasksE n t != 0 then tasksE n t else firstE (fun v => setE t (ix ls v)) 0 ls.length) := by
  have hlen := h.len
  rw [restore_checkSets, CheckTasks_res h hn]
  simp only [Option.bind_some, withK_eq]
  rw [loop_errs (n := n) (E := fun v => setE t (ix ls v)) (len := ls.length) (k := 0) (fun back v hv => ?_) (fun back => ?_) (by omega), bif_int]
  · cases tasksE n t != 0 <;> rfl
  · rw [restore_checkSets_L1]
    simp only [hv, decide_true, cond_true, set_res (n := n) (by omega : t.length ≤ 900) (hl _ (ix_mem hv)) hn, Option.bind_some, nI_of (by omega : v + 1 ≤ 9223372036854775807), chk_t]
  · rw [restore_checkSets_L1]; simp
end
section
set_option maxRecDepth 4000
open Go
variable {n : Nat}
theorem ix_set' {α : Type} [Inhabited α] {d : List α} {p j : Nat} {x : α} (hp : p < d.length) : ix (d.set p x) j = if p = j then x else ix d j := by
  unfold ix
  by_cases h : p = j
  · subst h; simp [hp]
  · simp [h]
def Nd (d : List Str) : Prop := ∀ p q, p < d.length → q < d.length → ix d p = ix d q → p = q
theorem Nd.of {d : List Str} (h : d.Nodup) : Nd d := by
  intro p q hp hq e
  rw [ix_eq hp, ix_eq hq] at e
  exact (List.getElem_inj h).1 e
theorem bits_all : ∀ k : Fin 13, (math_bits_Len 0 (IntKind.u64.wrap ((k.val : Nat) : Int))).isSome = true := by decide +kernel
theorem bits_n (n : Nat) (x : Int) : math_bits_Len n x = math_bits_Len 0 x := by delta math_bits_Len math_bits_Len64; rfl
theorem bits_ok {k : Nat} (hk : k ≤ 12) : ∃ y, math_bits_Len n (IntKind.u64.wrap ((k : Nat) : Int)) = some y := by
  have := bits_all ⟨k, by omega⟩
  rw [bits_n]
  exact Option.isSome_iff_exists.1 this
end
section
set_option maxRecDepth 4000
open Go
variable {n : Nat}
def firstOf (x : Task) : List Str := x.Needs ++ x.OneOf.map fun g => ix g 0
def nx (t : List Task) (s : Str) : List Str := firstOf (taskOf t s)
def Kn (t : List Task) (l : List Str) : Prop := ∀ s ∈ l, t.any (byName s) = true
def mk (ks : List Str) : List (Str × Bool) := ks.map fun s => (s, true)
structure Tk (t : List Task) (A ks ks' : List Str) : Prop where
  nd : ks'.Nodup
  kn : Kn t ks'
  sub : ∀ x ∈ ks, x ∈ ks'
  seed : ∀ a ∈ A, a ∈ ks'
  cl : ∀ x ∈ ks', x ∈ ks ∨ ∀ y ∈ nx t x, y ∈ ks'
  least : ∀ C : Str → Prop, (∀ x, C x → ∀ y ∈ nx t x, C y) → (∀ a ∈ A, C a) → ∀ x ∈ ks', x ∈ ks ∨ C x
theorem Tk.refl {t : List Task} {ks : List Str} (h1 : ks.Nodup) (h2 : Kn t ks) : Tk t [] ks ks := ⟨h1, h2, fun _ h => h, by simp, fun _ h => .inl h, fun _ _ _ _ h => .inl h⟩
theorem Tk.trans {t : List Task} {A B ks k1 k2 : List Str} (h : Tk t A ks k1) (g : Tk t B k1 k2) : Tk t (A ++ B) ks k2 where
  nd := g.nd
  kn := g.kn
  sub := fun x hx => g.sub x (h.sub x hx)
  seed := fun a ha => by
    rcases List.mem_append.1 ha with c | c
    · exact g.sub a (h.seed a c)
    · exact g.seed a c
  cl := fun x hx => by
    rcases g.cl x hx with c | c
    · rcases h.cl x c with d | d
      · exact .inl d
      · exact .inr fun y hy => g.sub y (d y hy)
    · exact .inr c
  least := fun C hC hA x hx => by
    rcases g.least C hC (fun a ha => hA a (by simp [ha])) x hx with c | c
    · exact h.least C hC (fun a ha => hA a (by simp [ha])) x c
    · exact .inr c
theorem Tk.len {t : List Task} {A ks ks' : List Str} (h : Tk t A ks ks') : ks'.length ≤ t.length := Inv.len ⟨h.nd, h.kn⟩
end
section
set_option maxRecDepth 4000
open Go
variable {n : Nat}
theorem erase_perm {α : Type} : ∀ (l : List α) (j : Nat) (x : α), l[j]? = some x → (x :: l.eraseIdx j).Perm l
  | [], j, x, h => by simp at h
  | y :: l, 0, x, h => by
    simp only [List.getElem?_cons_zero, Option.some.injEq] at h
    subst h; exact List.Perm.refl _
  | y :: l, j + 1, x, h => by
    simp only [List.getElem?_cons_succ] at h
    rw [List.eraseIdx_cons_succ]
    exact (List.Perm.swap y x _).trans ((erase_perm l j x h).cons y)
end
section
set_option maxRecDepth 4000
open Go
variable {n : Nat}
theorem tasks_zero {t : List Task} (h : tasksE n t = 0) : t.length ≤ 60 ∧ ∀ i, i < t.length → taskE t i = 0 := by
  unfold tasksE at h
  by_cases h1 : 60 < t.length
  · simp [h1] at h
  · simp only [h1, decide_false, cond_false] at h
    by_cases h2 : firstE (taskE t) 0 t.length = 0
    · exact ⟨by omega, fun i hi => firstE_zero h2 i (by omega) (by omega)⟩
    · rw [bne_t h2, cond_true] at h; exact absurd h h2
structure Rs (t : List Task) (out0 out : List Str) : Prop where
  asc : Asc out
  kn : Kn t out
  sub : ∀ x ∈ out0, x ∈ out
  least : ∀ C : Str → Prop, (∀ x, C x → ∀ y ∈ nx t x, C y) → (∀ x ∈ out0, C x) → ∀ x ∈ out, C x
theorem Rs.refl {t : List Task} {out : List Str} (h1 : Asc out) (h2 : Kn t out) : Rs t out out := ⟨h1, h2, fun _ h => h, fun _ _ h => h⟩
theorem Rs.trans {t : List Task} {a b c : List Str} (h : Rs t a b) (g : Rs t b c) : Rs t a c := ⟨g.asc, g.kn, fun x hx => g.sub x (h.sub x hx), fun C hC hA => g.least C hC (h.least C hC hA)⟩
theorem Rs.len {t : List Task} {a b : List Str} (h : Rs t a b) : b.length ≤ t.length := Inv.len ⟨h.asc.nodup, h.kn⟩
end
section
set_option maxRecDepth 4000
open Go
variable {n : Nat}
end
section
set_option maxRecDepth 4000
open Go
variable {n : Nat}
theorem task_nums {t : List Task} {i : Nat} (h : taskE t i = 0) : (0 ≤ (ix t i).Cents ∧ (ix t i).Cents ≤ 1000000000) ∧ (ix t i).Parts.length ≤ 10 ∧ cnts (ix t i).Parts 1000 = 0 := by
  unfold taskE at h
  cases h1 : nameB (ix t i).Name
  · simp [h1] at h
  rw [h1] at h
  simp only [Bool.not_true, cond_false] at h
  cases h2 : decide (findI (byName (ix t i).Name) t < (i : Int))
  · rw [h2] at h
    simp only [cond_false] at h
    cases h3 : (!((decide (0 ≤ (ix t i).Cents)) && (decide ((ix t i).Cents ≤ 1000000000)))) || (!((decide (0 ≤ (ix t i).Hours)) && (decide ((ix t i).Hours ≤ 10000))))
    · rw [h3] at h
      simp only [cond_false] at h
      cases h4 : large (ix t i)
      · rw [h4] at h
        simp only [cond_false] at h
        have hc : 0 ≤ (ix t i).Cents ∧ (ix t i).Cents ≤ 1000000000 := by
          simp only [Bool.or_eq_false_iff, Bool.not_eq_false', Bool.and_eq_true, decide_eq_true_eq] at h3
          exact h3.1
        have hp : (ix t i).Parts.length ≤ 10 := by
          simp only [large, Bool.or_eq_false_iff, decide_eq_false_iff_not] at h4
          omega
        by_cases h5 : known t (ix t i).Needs = 0
        · simp only [h5, bne_self_eq_false, cond_false] at h
          by_cases h6 : firstE (grpE t (ix t i).OneOf) 0 (ix t i).OneOf.length = 0
          · simp only [h6, bne_self_eq_false, cond_false] at h
            exact ⟨hc, hp, h⟩
          · rw [bne_t h6, cond_true] at h; exact absurd h h6
        · rw [bne_t h5, cond_true] at h; exact absurd h h5
      · rw [h4] at h; simp at h
    · rw [h3] at h; simp at h
  · rw [h2] at h; simp at h
theorem cnts_ok {l : List PartCount} (h : cnts l 1000 = 0) : ∀ i, i < l.length → 1 ≤ (ix l i).Count ∧ (ix l i).Count ≤ 1000 := by
  intro i hi
  have := firstE_zero h i (by omega) (by omega)
  unfold cntE at this
  cases h1 : nameB (ix l i).Part
  · rw [h1] at this; simp at this
  · rw [h1] at this
    cases h2 : (l.take i).any (byPartC (ix l i).Part)
    · rw [h2] at this
      cases h3 : ((decide (1 ≤ (ix l i).Count)) && (decide ((ix l i).Count ≤ 1000)))
      · rw [h3] at this; simp at this
      · simpa using h3
    · rw [h2] at this; simp at this
theorem stock_ok {s : List Stocked} (h : stockC s = 0) : s.length ≤ 60 ∧ ∀ i, i < s.length → (0 ≤ (ix s i).Cents ∧ (ix s i).Cents ≤ 1000000000) := by
  unfold stockC at h
  by_cases h1 : 60 < s.length
  · simp [h1] at h
  · simp only [h1, decide_false, cond_false] at h
    refine ⟨by omega, fun i hi => ?_⟩
    have := firstE_zero h i (by omega) (by omega)
    unfold stockE at this
    cases h2 : nameB (ix s i).Part
    · rw [h2] at this; simp at this
    · rw [h2] at this
      cases h3 : decide ((0 : Int) ≤ findI (byPart (ix s i).Part) (s.take i))
      · rw [h3] at this
        cases h4 : (!((decide (0 ≤ (ix s i).Cents)) && (decide ((ix s i).Cents ≤ 1000000000)))) || (!((decide (0 ≤ (ix s i).Count)) && (decide ((ix s i).Count ≤ 10000))))
        · simp only [Bool.or_eq_false_iff, Bool.not_eq_false', Bool.and_eq_true, decide_eq_true_eq] at h4
          exact h4.1
        · rw [h4] at this; simp at this
      · rw [h3] at this; simp at this
def priceOf (s : List Stocked) (p : Str) : Int := (ix s (findI (byPart p) s).toNat).Cents
def pf (s : List Stocked) (l : List PartCount) (i : Nat) : Int := (ix l i).Count * priceOf s (ix l i).Part
def lackE (s : List Stocked) (l : List PartCount) (i : Nat) : Int := bif decide (findI (byPart (ix l i).Part) s < 0) then 1 else 0
def lacks (s : List Stocked) (l : List PartCount) : Bool := firstE (lackE s l) 0 l.length != 0
theorem pf_bounds {s : List Stocked} {l : List PartCount} (hs : stockC s = 0) (hl : cnts l 1000 = 0) {i : Nat} (hi : i < l.length) (hk : lackE s l i = 0) : 0 ≤ pf s l i ∧ pf s l i ≤ 1000000000000 := by
  have h1 := cnts_ok hl i hi
  have h0 : ¬ findI (byPart (ix l i).Part) s < 0 := by
    intro c
    unfold lackE at hk
    simp [c] at hk
  obtain ⟨_, b, _, _⟩ := findI_pos h0
  have h2 := (stock_ok hs).2 _ b
  unfold pf priceOf
  refine ⟨Int.mul_nonneg (by omega) h2.1, ?_⟩
  have := Int.mul_le_mul h1.2 h2.2 h2.1 (by decide)
  exact this
theorem parts_loop {R : Type} {s : List Stocked} {l : List PartCount} (hs : stockC s = 0) (hl : cnts l 1000 = 0) (hlen : l.length ≤ 10) {c : Int} (h0 : 0 ≤ c) (h1 : c ≤ 1000000000000000) {F : (Int × Nat → Option R) → Int × Nat → Option R} {bad : Option R} {k : Int → Option R} (hn : 1000 < n)
    (hF : ∀ back a v, v < l.length → F back (a, v) = bif decide (findI (byPart (ix l v).Part) s < 0) then bad else
      chk (inB (findI (byPart (ix l v).Part) s) s.length) (chk (decide ((findI (byPart (ix l v).Part) s).toNat < s.length)) (chk (inI (pf s l v)) (chk (inI (a + pf s l v)) (chk (nI (v + 1)) (back (a + pf s l v, v + 1)))))))
    (hE : ∀ back a, F back (a, l.length) = k a) : loopN F n (c, 0) = bif lacks s l then bad else k (c + sm (pf s l) l.length) := by
  have e0 : (c, 0) = (fun v => (c + sm (pf s l) v, v)) 0 := by simp [sm]
  rw [e0, loop_first (st := fun v => (c + sm (pf s l) v, v)) (E := lackE s l) (err := fun _ => bad) (k := k (c + sm (pf s l) l.length)) (len := l.length) (fun back v hv hz => ?_) (fun back hz => hE back _) n 0 (by omega) (by omega) (fun j h => by omega), Nat.sub_zero]
  · rfl
  · rw [hF _ _ _ hv]
    cases hd : decide (findI (byPart (ix l v).Part) s < 0) with
    | true => simp [lackE, hd]
    | false =>
      have hk : lackE s l v = 0 := by simp [lackE, hd]
      have hb : ∀ i, i < v + 1 → 0 ≤ pf s l i ∧ pf s l i ≤ 1000000000000 := fun i hi => by
        refine pf_bounds hs hl (by omega) ?_
        by_cases c : i = v
        · subst c; exact hk
        · exact hz i (by omega)
      have a1 := sm_nn (f := pf s l) v fun i hi => (hb i (by omega)).1
      have a2 := sm_le (f := pf s l) (c := 1000000000000) v fun i hi => (hb i (by omega)).2
      have a3 := hb v (by omega)
      obtain ⟨p1, p2, _, _⟩ := findI_pos (of_decide_eq_false hd)
      simp only [cond_false, hk, bne_self_eq_false]
      rw [chk_of (inB_of p1 p2), chk_of (by simp; exact p2), chk_of (inI_of (by omega) (by omega)), chk_of (inI_of (by omega) (by omega)), chk_of (nI_of (by omega))]
      simp only [sm]
      rw [Int.add_assoc]
end
section
set_option maxRecDepth 4000
open Go
variable {n : Nat}
theorem cost_res {x : Task} {s : List Stocked} (hs : stockC s = 0) (hl : cnts x.Parts 1000 = 0) (hlen : x.Parts.length ≤ 10) (h0 : 0 ≤ x.Cents) (h1 : x.Cents ≤ 1000000000) (hn : 1000 < n) : restore_costOf n x s = some (bif lacks s x.Parts then (0, false) else (x.Cents + sm (pf s x.Parts) x.Parts.length, true)) := by
  have hsl := (stock_ok hs).1
  rw [restore_costOf, withK_eq, parts_loop (n := n) hs hl hlen h0 (by omega) (bad := some (0, false)) (k := fun v5 => some (v5, true)) hn (fun back a v hv => ?_) (fun back a => ?_)]
  · cases lacks s x.Parts <;> rfl
  · simp only [restore_costOf_L1, hv, decide_true, cond_true, stocked_eq n s _ (by omega : s.length < n) (by omega), Option.bind_some]
    rfl
  · simp [restore_costOf_L1]
def taskC (s : List Stocked) (x : Task) : Int := x.Cents + sm (pf s x.Parts) x.Parts.length
def setF (t : List Task) (s : List Stocked) (l : List Str) (v : Nat) : Int := taskC s (taskOf t (ix l v))
def setL (t : List Task) (s : List Stocked) (l : List Str) (v : Nat) : Int := bif lacks s (taskOf t (ix l v)).Parts then 1 else 0
theorem nums_of {t : List Task} (h0 : tasksE n t = 0) {x : Str} (hk : t.any (byName x) = true) : (0 ≤ (taskOf t x).Cents ∧ (taskOf t x).Cents ≤ 1000000000) ∧ (taskOf t x).Parts.length ≤ 10 ∧ cnts (taskOf t x).Parts 1000 = 0 := by
  obtain ⟨_, k2, _, _⟩ := known_ix hk
  exact task_nums ((tasks_zero h0).2 _ k2)
theorem lacks_zero {s : List Stocked} {l : List PartCount} (h : lacks s l = false) : ∀ i, i < l.length → lackE s l i = 0 := by
  have : firstE (lackE s l) 0 l.length = 0 := by
    unfold lacks at h
    by_cases c : firstE (lackE s l) 0 l.length = 0
    · exact c
    · rw [bne_t c] at h; cases h
  exact fun i hi => firstE_zero this i (by omega) (by omega)
theorem taskC_bounds {s : List Stocked} {x : Task} (hs : stockC s = 0) (hl : cnts x.Parts 1000 = 0) (hlen : x.Parts.length ≤ 10) (h0 : 0 ≤ x.Cents) (h1 : x.Cents ≤ 1000000000) (hk : lacks s x.Parts = false) : (0 ≤ sm (pf s x.Parts) x.Parts.length ∧ sm (pf s x.Parts) x.Parts.length ≤ 10000000000000) ∧ 0 ≤ taskC s x ∧ taskC s x ≤ 11000000000000 := by
  have a1 := sm_nn (f := pf s x.Parts) x.Parts.length fun i hi => (pf_bounds hs hl hi (lacks_zero hk i hi)).1
  have a2 := sm_le (f := pf s x.Parts) (c := 1000000000000) x.Parts.length fun i hi => (pf_bounds hs hl hi (lacks_zero hk i hi)).2
  unfold taskC
  omega
theorem Cost_res {t : List Task} {s : List Stocked} {l : List Str} (ht : OkT t) (h0 : tasksE n t = 0) (hs : stockC s = 0) (hl : setE t l = 0) (hll : l.length ≤ 63) (hn : 1000 < n) (kk : Int → Option (Int × Int)) :
    loopN (restore_Cost_L1 n t s l kk) n (0, 0) = bif firstE (setL t s l) 0 l.length != 0 then some (6, 0) else kk (sm (setF t s l) l.length) := by
  have hlen := ht.len
  have hk := (set_ok hl).1
  have e0 : ((0 : Int), 0) = (fun v => (sm (setF t s l) v, v)) 0 := rfl
  rw [e0, loop_first (st := fun v => (sm (setF t s l) v, v)) (E := setL t s l) (err := fun _ => some (6, 0)) (k := kk (sm (setF t s l) l.length)) (len := l.length) (fun back v hv hz => ?_) (fun back hz => ?_) n 0 (by omega) (by omega) (fun j h => by omega), Nat.sub_zero]
  · obtain ⟨k1, k2, k3, k4⟩ := known_ix (hk _ (ix_mem hv))
    have nm := fun i (hi : i < l.length) => nums_of h0 (hk _ (ix_mem hi))
    have nv := nm v hv
    simp only [restore_Cost_L1, hv, decide_true, cond_true, find_eq t (ix l v) (by omega : t.length < n) (by omega), Option.bind_some, k1, k2, chk_t]
    rw [show ix t (findI (byName (ix l v)) t).toNat = taskOf t (ix l v) from rfl, cost_res hs nv.2.2 nv.2.1 nv.1.1 nv.1.2 hn]
    cases hb : lacks s (taskOf t (ix l v)).Parts with
    | true => simp [setL, hb]
    | false =>
      have hb2 : ∀ i, i < v + 1 → 0 ≤ setF t s l i ∧ setF t s l i ≤ 11000000000000 := fun i hi => by
        have ni := nm i (by omega)
        refine (taskC_bounds hs ni.2.2 ni.2.1 ni.1.1 ni.1.2 ?_).2
        by_cases c : i = v
        · subst c; exact hb
        · have := hz i (by omega)
          unfold setL at this
          cases c2 : lacks s (taskOf t (ix l i)).Parts with
          | false => rfl
          | true => rw [c2] at this; simp at this
      have a1 := sm_nn (f := setF t s l) v fun i hi => (hb2 i (by omega)).1
      have a2 := sm_le (f := setF t s l) (c := 11000000000000) v fun i hi => (hb2 i (by omega)).2
      have a3 := hb2 v (by omega)
      have e1 : (taskOf t (ix l v)).Cents + sm (pf s (taskOf t (ix l v)).Parts) (taskOf t (ix l v)).Parts.length = setF t s l v := rfl
      simp only [Option.bind_some, cond_false, Bool.not_true, setL, hb, bne_self_eq_false, e1]
      rw [chk_of (inI_of (by omega) (by omega)), chk_of (nI_of (by omega))]
      rfl
  · simp [restore_Cost_L1]
theorem Cost_ref {t : List Task} {s : List Stocked} {l : List Str} (ht : OkT t) (h0 : tasksE n t = 0) (hs : stockC s = 0) (hl : setE t l = 0) (hll : l.length ≤ 63) (hn : 1000 < n) :
    agrafferef08_Cost n t s l = some (bif firstE (setL t s l) 0 l.length != 0 then (0, false) else (sm (setF t s l) l.length, true)) := by
  have hlen := ht.len
  have hsl := (stock_ok hs).1
  have hk := (set_ok hl).1
  rw [agrafferef08_Cost]
  simp only [withK_eq]
  have e0 : ((0 : Int), 0) = (fun v => (sm (setF t s l) v, v)) 0 := rfl
  rw [e0, loop_first (st := fun v => (sm (setF t s l) v, v)) (E := setL t s l) (err := fun _ => some (0, false)) (k := some (sm (setF t s l) l.length, true)) (len := l.length) (fun back v hv hz => ?_) (fun back hz => ?_) n 0 (by omega) (by omega) (fun j h => by omega), Nat.sub_zero]
  · cases firstE (setL t s l) 0 l.length != 0 <;> rfl
  · obtain ⟨k1, k2, k3, k4⟩ := known_ix (hk _ (ix_mem hv))
    have nm := fun i (hi : i < l.length) => nums_of h0 (hk _ (ix_mem hi))
    have nv := nm v hv
    have hb2 : ∀ i, i < v → 0 ≤ setF t s l i ∧ setF t s l i ≤ 11000000000000 := fun i hi => by
      have ni := nm i (by omega)
      refine (taskC_bounds hs ni.2.2 ni.2.1 ni.1.1 ni.1.2 ?_).2
      have := hz i (by omega)
      unfold setL at this
      cases c2 : lacks s (taskOf t (ix l i)).Parts with
      | false => rfl
      | true => rw [c2] at this; simp at this
    have a1 := sm_nn (f := setF t s l) v fun i hi => (hb2 i (by omega)).1
    have a2 := sm_le (f := setF t s l) (c := 11000000000000) v fun i hi => (hb2 i (by omega)).2
    simp only [agrafferef08_Cost_L2, hv, decide_true, cond_true, Find_eq t (ix l v) (by omega : t.length < n) (by omega), Option.bind_some, k1, k2, chk_t, withK_eq]
    rw [show ix t (findI (byName (ix l v)) t).toNat = taskOf t (ix l v) from rfl, chk_of (inI_of (by omega) (by omega)), parts_loop (n := n) (l := (taskOf t (ix l v)).Parts) hs nv.2.2 nv.2.1 (by omega) (by omega) (bad := some (0, false)) (k := fun v14 => chk (nI (v + 1)) (back (v14, v + 1))) hn (fun back2 a u hu => ?_) (fun back2 a => ?_)]
    · cases hb : lacks s (taskOf t (ix l v)).Parts with
      | true => simp [setL, hb]
      | false =>
        simp only [cond_false, setL, hb, bne_self_eq_false, nI_of (by omega : v + 1 ≤ 9223372036854775807), chk_t]
        simp only [sm, setF, taskC]
        rw [Int.add_assoc]
    · have hu' : u < (ix t (findI (byName (ix l v)) t).toNat).Parts.length := hu
      simp only [agrafferef08_Cost_L1, hu', decide_true, cond_true, chk_t, FindStock_eq n s _ (by omega : s.length < n) (by omega), Option.bind_some]
      rfl
    · have hu' : ¬ (taskOf t (ix l v)).Parts.length < (ix t (findI (byName (ix l v)) t).toNat).Parts.length := Nat.lt_irrefl _
      simp [agrafferef08_Cost_L1, hu']
  · simp [agrafferef08_Cost_L2]
end
section
set_option maxRecDepth 4000
open Go
variable {n : Nat}
theorem sw_perm : ∀ (l : List PartCount) (j : Nat), 0 < j → j < l.length → (List.set (List.set l j (ix l (j - 1))) (j - 1) (ix l j)).Perm l
  | [], j, _, h => by simp at h
  | [x], j, h0, h => by simp at h; omega
  | x :: y :: b, 1, _, _ => by
    show (y :: x :: b).Perm (x :: y :: b)
    exact List.Perm.swap x y b
  | x :: y :: b, j + 2, _, h => by
    have ih := sw_perm (y :: b) (j + 1) (by omega) (by simpa using h)
    exact ih.cons x
def valM (s : List Stocked) (m : List (Str × Int)) : Int := (m.map fun x => x.2 * priceOf s x.1).sum
theorem val_put (s : List Stocked) (p : Str) (c : Int) : ∀ m : List (Str × Int), valM s (mPut p (Option.getD (List.lookup p m) 0 + c) m) = valM s m + c * priceOf s p
  | [] => by simp [valM, mPut]
  | (k, u) :: m => by
    have ih := val_put s p c m
    simp only [mPut, List.lookup_cons]
    cases h : (p == k) with
    | true =>
      have : p = k := eq_of_beq h
      subst this
      simp only [valM, List.map_cons, List.sum_cons, Option.getD_some, Int.add_mul]
      omega
    | false =>
      simp only [valM, List.map_cons, List.sum_cons] at ih ⊢
      rw [ih]; omega
theorem keys_put (p : Str) (v : Int) : ∀ m : List (Str × Int), (mPut p v m).map Prod.fst = if p ∈ m.map Prod.fst then m.map Prod.fst else m.map Prod.fst ++ [p]
  | [] => by simp [mPut]
  | (k, u) :: m => by
    have ih := keys_put p v m
    simp only [mPut]
    cases h : (p == k) with
    | true =>
      have : p = k := eq_of_beq h
      subst this
      simp
    | false =>
      have hne : p ≠ k := by rintro rfl; simp at h
      simp only [List.map_cons, ih, List.mem_cons, hne, false_or]
      by_cases c : p ∈ m.map Prod.fst <;> simp [c]
theorem mem_put {p : Str} {v : Int} : ∀ {m : List (Str × Int)} {x : Str × Int}, x ∈ mPut p v m → x ∈ m ∨ x = (p, v)
  | [], x, h => by simpa [mPut] using h
  | (k, u) :: m, x, h => by
    simp only [mPut] at h
    cases c : (p == k) with
    | true =>
      rw [c] at h
      rcases List.mem_cons.1 h with e | e
      · exact .inr e
      · exact .inl (by simp [e])
    | false =>
      rw [c] at h
      rcases List.mem_cons.1 h with e | e
      · exact .inl (by simp [e])
      · rcases mem_put e with e | e
        · exact .inl (by simp [e])
        · exact .inr e
theorem lookup_mem {p : Str} : ∀ {m : List (Str × Int)} {u : Int}, List.lookup p m = some u → (p, u) ∈ m
  | (k, w) :: m, u, h => by
    rw [List.lookup_cons] at h
    cases c : (p == k) with
    | true => rw [c] at h; have := eq_of_beq c; subst this; cases h; simp
    | false => rw [c] at h; simp [lookup_mem h]
structure Mp (s : List Stocked) (m : List (Str × Int)) (K : Int) : Prop where
  nd : (m.map Prod.fst).Nodup
  kn : ∀ k ∈ m.map Prod.fst, ¬ findI (byPart k) s < 0
  vl : ∀ x ∈ m, 0 ≤ x.2 ∧ x.2 ≤ K
theorem Mp.put {s : List Stocked} {m : List (Str × Int)} {K c : Int} {p : Str} (h : Mp s m K) (hK : 0 ≤ K) (hp : ¬ findI (byPart p) s < 0) (h0 : 0 ≤ c) (h1 : c ≤ 1000) : (0 ≤ Option.getD (List.lookup p m) 0 ∧ Option.getD (List.lookup p m) 0 ≤ K) ∧ Mp s (mPut p (Option.getD (List.lookup p m) 0 + c) m) (K + 1000) := by
  have hv : 0 ≤ Option.getD (List.lookup p m) 0 ∧ Option.getD (List.lookup p m) 0 ≤ K := by
    cases e : List.lookup p m with
    | none => exact ⟨Int.le_refl _, hK⟩
    | some u => exact h.vl _ (lookup_mem e)
  refine ⟨hv, ?_, fun k hk => ?_, fun x hx => ?_⟩
  · rw [keys_put]
    by_cases c : p ∈ m.map Prod.fst
    · rw [if_pos c]; exact h.nd
    · rw [if_neg c, List.nodup_append]
      exact ⟨h.nd, by simp, fun a ha b hb => by rw [List.mem_singleton] at hb; subst hb; rintro rfl; exact c ha⟩
  · rw [keys_put] at hk
    by_cases c : p ∈ m.map Prod.fst
    · rw [if_pos c] at hk; exact h.kn k hk
    · rw [if_neg c, List.mem_append, List.mem_singleton] at hk
      rcases hk with e | e
      · exact h.kn k e
      · subst e; exact hp
  · rcases mem_put hx with e | e
    · have := h.vl x e; omega
    · subst e; simp only; omega
end
section
set_option maxRecDepth 4000
open Go
variable {n : Nat}
theorem Mp.len {s : List Stocked} {m : List (Str × Int)} {K : Int} (h : Mp s m K) : m.length ≤ s.length := by
  have := nodup_len _ (s.map fun x => x.Part) h.nd fun k hk => by
    obtain ⟨_, b, c, _⟩ := findI_pos (h.kn k hk)
    rw [List.mem_map]
    exact ⟨_, ix_mem b, eq_of_beq c⟩
  simpa using this
theorem counts_task {t : List Task} {s : List Stocked} {x : Str} (ht : OkT t) (h0 : tasksE n t = 0) (hs : stockC s = 0) (hk : t.any (byName x) = true) (hb : lacks s (taskOf t x).Parts = false) (hn : 1000 < n) {m : List (Str × Int)} {K : Int} (hK : 0 ≤ K) (hK1 : K ≤ 1000000000) (hm : Mp s m K) (kk : List (Str × Int) → Option (Int × List PartCount)) :
    ∃ m', Mp s m' (K + 10000) ∧ valM s m' = valM s m + sm (pf s (taskOf t x).Parts) (taskOf t x).Parts.length ∧ loopN (restore_PartsOf_L1 t (findI (byName x) t) kk) n (0, m) = kk m' := by
  have nv := nums_of h0 hk
  obtain ⟨s2, back2, ⟨m', e3, p1, p2⟩, r2⟩ := loop_inv (F := restore_PartsOf_L1 t (findI (byName x) t) kk) (len := (taskOf t x).Parts.length) (P := fun v st => ∃ m', st = (v, m') ∧ Mp s m' (K + 1000 * (v : Int)) ∧ valM s m' = valM s m + sm (pf s (taskOf t x).Parts) v) (fun back v st hv hP => by
    obtain ⟨m', e, p1, p2⟩ := hP
    subst e
    have hc := cnts_ok nv.2.2 v hv
    have hl := lacks_zero hb v hv
    have hf : ¬ findI (byPart (ix (taskOf t x).Parts v).Part) s < 0 := by
      intro c; unfold lackE at hl; simp [c] at hl
    obtain ⟨q1, q2⟩ := p1.put (c := (ix (taskOf t x).Parts v).Count) (by omega) hf (by omega) hc.2
    refine ⟨(v + 1, _), ⟨_, rfl, by rw [show K + 1000 * ((v + 1 : Nat) : Int) = K + 1000 * (v : Int) + 1000 by omega]; exact q2, ?_⟩, ?_⟩
    · rw [val_put, p2, sm, pf]; omega
    · have hv' : v < (ix t (findI (byName x) t).toNat).Parts.length := hv
      simp only [restore_PartsOf_L1, hv', decide_true, cond_true, chk_t]
      rw [show ix t (findI (byName x) t).toNat = taskOf t x from rfl, chk_of (inI_of (by omega) (by omega)), chk_of (nI_of (by omega))]) n 0 (0, m) (by omega) (by omega) ⟨m, rfl, by simpa using hm, by simp [sm]⟩
  subst e3
  refine ⟨m', ⟨p1.nd, p1.kn, fun y hy => by have := p1.vl y hy; omega⟩, p2, ?_⟩
  rw [r2]
  have : ¬ (taskOf t x).Parts.length < (ix t (findI (byName x) t).toNat).Parts.length := Nat.lt_irrefl _
  simp [restore_PartsOf_L1, this]
def partF (t : List Task) (s : List Stocked) (l : List Str) (v : Nat) : Int := sm (pf s (taskOf t (ix l v)).Parts) (taskOf t (ix l v)).Parts.length
theorem rngP_loop {ks : List PartCount} (hl : ks.length ≤ 900) {k2 : List PartCount → Option (Int × List PartCount)} {r : Int × List PartCount} (hk : ∀ out, out.Perm ks → k2 out = some r) : ∀ m out cur left, left.length < m → (out ++ left.map fun x : Str × Int => PartCount.mk x.1 x.2).Perm ks → loopN (restore_PartsOf_L3 k2) m (out, cur, left) = some r := by
  intro m
  induction m with
  | zero => intro out cur left h; omega
  | succ m ih =>
    intro out cur left hm hp
    rw [loopN_s]
    simp only [restore_PartsOf_L3]
    cases left with
    | nil =>
      simp only [List.length_nil, decide_true, cond_true]
      exact hk out (by simpa using hp)
    | cons x0 rest =>
      simp only [List.length_cons, show ¬ rest.length + 1 = 0 by omega, decide_false, cond_false]
      refine pickK_of (by simp) fun j x hj => ?_
      have hpl := hp.length_eq
      simp only [List.length_append, List.length_map, List.length_cons] at hpl
      rw [chk_of (room_of (by simp; omega) (by simp; omega))]
      have hjl : j < (x0 :: rest).length := (List.getElem?_eq_some_iff.1 hj).1
      refine ih _ _ _ (by rw [List.length_eraseIdx_of_lt hjl]; simp only [List.length_cons] at hm ⊢; omega) (List.Perm.trans ?_ hp)
      rw [List.append_assoc]
      refine List.Perm.append_left out ?_
      have := (erase_perm _ _ _ hj).map fun x : Str × Int => PartCount.mk x.1 x.2
      simpa using this
end
section
set_option maxRecDepth 4000
open Go
variable {n : Nat}
theorem cmpS (a b : PartCount) : ∃ y, restore_PartsOf_f1 n a b = some y ∧ decide (y < 0) = bLt a.Part b.Part := by
  simp only [restore_PartsOf_f1, cmp_Compare_string, cmp_isNaN_string, Option.bind_some, BEq.rfl, Bool.not_true, cond_false]
  cases bLt a.Part b.Part
  · cases !(false || (a.Part == b.Part)) <;> exact ⟨_, rfl, rfl⟩
  · exact ⟨_, rfl, rfl⟩
def swP (d : List PartCount) (j : Nat) : List PartCount := List.set (List.set d j (ix d (j - 1))) (j - 1) (ix d j)
theorem swP_ix {d : List PartCount} {j : Nat} (h0 : 0 < j) (hj : j < d.length) (k : Nat) : ix (swP d j) k = if k = j - 1 then ix d j else if k = j then ix d (j - 1) else ix d k := by
  unfold swP
  rw [ix_set' (by simp; omega), ix_set' hj]
  by_cases h1 : j - 1 = k
  · simp [h1]
  · have e1 : ¬ k = j - 1 := fun c => h1 c.symm
    by_cases h2 : j = k
    · subst h2; simp [h1, e1]
    · have e2 : ¬ k = j := fun c => h2 c.symm
      simp [h1, h2, e1, e2]
def NmP (d : List PartCount) : Prop := (d.map fun x => x.Part).Nodup
theorem NmP.inj {d : List PartCount} (h : NmP d) {p q : Nat} (hp : p < d.length) (hq : q < d.length) (e : (ix d p).Part = (ix d q).Part) : p = q := by
  rw [ix_eq hp, ix_eq hq] at e
  have := (List.getElem_inj h (h₀ := by simpa using hp) (h₁ := by simpa using hq)).1 (by simpa using e)
  exact this
def UpP (d : List PartCount) (i j : Nat) : Prop := ∀ p q, p < q → q ≤ i → q ≠ j → bLt (ix d p).Part (ix d q).Part = true
theorem insS_inner {k1 : List PartCount → Option (List PartCount)} {i : Nat} : ∀ m j d, j < m → j ≤ i → i < d.length → d.length ≤ 12 → NmP d → UpP d i j → ∃ d', loopN (slices_insertionSortCmpFunc_PartCount_L1 n 0 k1) m (((j : Nat) : Int), d) = k1 d' ∧ d'.Perm d ∧ UpP d' i (i + 1) := by
  intro m
  induction m with
  | zero => intro j d h; omega
  | succ m ih =>
    intro j d hm hji hi hl hnm hup
    rw [loopN_s]
    have e1 : (((j : Nat) : Int) - 1).toNat = j - 1 := by omega
    have e2 : (((j : Nat) : Int)).toNat = j := by omega
    obtain ⟨y, hy, hyb⟩ := cmpS (n := n) (ix d j) (ix d (j - 1))
    simp only [slices_insertionSortCmpFunc_PartCount_L1, e1, e2, hy, Option.bind_some, gcall_some_]
    by_cases h0 : 0 < j
    · have hd : ((0 : Int) < ((j : Nat) : Int)) := by omega
      simp only [hd, decide_true, Bool.not_true, Bool.false_or, Bool.true_and, cond_true, hyb]
      rw [chk_of (inB_of (by omega) (by omega)), chk_of (by simp; omega), chk_of (inI_of (by omega) (by omega)), chk_of (inB_of (by omega) (by omega)), chk_of (by simp; omega)]
      cases hb : bLt (ix d j).Part (ix d (j - 1)).Part with
      | true =>
        simp only [cond_true]
        rw [chk_of (inI_of (by omega) (by omega)), chk_of (inB_of (by omega) (by omega)), chk_of (by simp; omega), chk_of (inB_of (by omega) (by omega)), chk_of (by simp; omega), chk_of (by simp; omega)]
        have e3 : ((j : Nat) : Int) - 1 = ((j - 1 : Nat) : Int) := by omega
        rw [e3]
        have hpm : (swP d j).Perm d := sw_perm d j h0 (by omega)
        have hsl : (swP d j).length = d.length := hpm.length_eq
        obtain ⟨d', g1, g2, g3⟩ := ih (j - 1) (swP d j) (by omega) (by omega) (by rw [hsl]; exact hi) (by rw [hsl]; exact hl) ((hpm.map _).nodup_iff.2 hnm) (fun p q hp hq hne => by
          rw [swP_ix h0 (by omega), swP_ix h0 (by omega), if_neg hne]
          by_cases q2 : q = j
          · rw [if_pos q2]
            by_cases p1 : p = j - 1
            · rw [if_pos p1]; exact hb
            · rw [if_neg p1, if_neg (by omega)]
              exact hup p (j - 1) (by omega) (by omega) (by omega)
          · rw [if_neg q2]
            by_cases p1 : p = j - 1
            · rw [if_pos p1]; exact hup j q (by omega) hq q2
            · rw [if_neg p1]
              by_cases p2 : p = j
              · rw [if_pos p2]; exact hup (j - 1) q (by omega) hq q2
              · rw [if_neg p2]; exact hup p q hp hq q2)
        exact ⟨d', g1, g2.trans hpm, g3⟩
      | false =>
        simp only [cond_false]
        refine ⟨d, rfl, List.Perm.refl _, fun p q hp hq _ => ?_⟩
        by_cases hqj : q = j
        · have hlt : bLt (ix d (j - 1)).Part (ix d j).Part = true := by
            rcases bLt_tri (ix d j).Part (ix d (j - 1)).Part with c | c | c
            · rw [hb] at c; cases c
            · have := hnm.inj (by omega : j < d.length) (by omega : j - 1 < d.length) c; omega
            · exact c
          subst hqj
          by_cases hp1 : p = q - 1
          · rw [hp1]; exact hlt
          · exact bLt_trans _ _ _ (hup p (q - 1) (by omega) (by omega) (by omega)) hlt
        · exact hup p q hp hq hqj
    · have : j = 0 := by omega
      subst this
      simp only [show ¬ ((0 : Int) < ((0 : Nat) : Int)) by omega, decide_false, Bool.not_false, Bool.true_or, chk_t, Bool.false_and, cond_false]
      exact ⟨d, rfl, List.Perm.refl _, fun p q hp hq _ => hup p q hp hq (by omega)⟩
theorem insS_sort {l : List PartCount} (hl : l.length ≤ 12) (hnm : NmP l) (hn : 100 < n) : ∃ d, slices_insertionSortCmpFunc_PartCount n l 0 ((l.length : Nat) : Int) = some d ∧ d.Perm l ∧ Asc (d.map fun x => x.Part) := by
  rw [slices_insertionSortCmpFunc_PartCount, chk_of (by decide)]
  have main : ∀ m i d, 1 ≤ i → l.length - i < m → d.Perm l → (∀ p q, p < q → q < i → q < l.length → bLt (ix d p).Part (ix d q).Part = true) → ∃ d', loopN (slices_insertionSortCmpFunc_PartCount_L2 n 0 ((l.length : Nat) : Int)) m (((i : Nat) : Int), d) = some d' ∧ d'.Perm l ∧ ∀ p q, p < q → q < l.length → bLt (ix d' p).Part (ix d' q).Part = true := by
    intro m
    induction m with
    | zero => intro i d _ h; omega
    | succ m ih =>
      intro i d hi hm hp hup
      have hd := hp.length_eq
      rw [loopN_s]
      by_cases h : i < l.length
      · have hlt : ((i : Nat) : Int) < ((l.length : Nat) : Int) := by omega
        simp only [slices_insertionSortCmpFunc_PartCount_L2, hlt, decide_true, cond_true, withK_eq]
        obtain ⟨d', g1, g2, g3⟩ := insS_inner (n := n) (i := i) (k1 := fun v12 => chk (inI (((i : Nat) : Int) + 1)) (loopN (slices_insertionSortCmpFunc_PartCount_L2 n 0 ((l.length : Nat) : Int)) m (((i : Nat) : Int) + 1, v12))) n i d (by omega) (Nat.le_refl _) (by omega) (by omega) ((hp.map _).nodup_iff.2 hnm) (fun p q h1 h2 h3 => hup p q h1 (by omega) (by omega))
        rw [g1, chk_of (inI_of (by omega) (by omega)), show ((i : Nat) : Int) + 1 = ((i + 1 : Nat) : Int) by omega]
        exact ih (i + 1) d' (by omega) (by omega) (g2.trans hp) fun p q h1 h2 h3 => g3 p q h1 (by omega) (by omega)
      · have hlt : ¬ ((i : Nat) : Int) < ((l.length : Nat) : Int) := by omega
        simp only [slices_insertionSortCmpFunc_PartCount_L2, hlt, decide_false, cond_false]
        exact ⟨d, rfl, hp, fun p q h1 h2 => hup p q h1 (by omega) h2⟩
  obtain ⟨d, g1, g2, g3⟩ := main n 1 l (by omega) (by omega) (List.Perm.refl _) (fun p q h1 h2 _ => by omega)
  have hd := g2.length_eq
  refine ⟨d, g1, g2, ?_⟩
  rw [Asc, List.pairwise_map, List.pairwise_iff_getElem]
  intro i j hi hj hij
  have := g3 i j hij (by omega)
  rw [ix_eq hi, ix_eq hj] at this
  exact this
theorem sorted_one {d d' : List PartCount} (h1 : Asc (d.map fun x => x.Part)) (h2 : Asc (d'.map fun x => x.Part)) (hp : d.Perm d') : d = d' := by
  have hm : d.map (fun x => x.Part) = d'.map fun x => x.Part := h1.ext h2 fun s => (hp.map _).mem_iff
  have hl := hp.length_eq
  refine List.ext_getElem hl fun i hi hi' => ?_
  obtain ⟨j, hj, e⟩ := List.getElem_of_mem (hp.mem_iff.1 (List.getElem_mem hi))
  have e1 : (d.map fun x => x.Part)[i]'(by simpa using hi) = (d'.map fun x => x.Part)[i]'(by simpa using hi') := by simp only [hm]
  simp only [List.getElem_map] at e1
  have : j = i := by
    have := (List.getElem_inj h2.nodup (i := j) (j := i) (h₀ := by simpa using hj) (h₁ := by simpa using hi')).1 (by simp only [List.getElem_map]; rw [e, e1])
    exact this
  subst this
  exact e.symm
end
section
set_option maxRecDepth 4000
open Go
variable {n : Nat}
theorem sortS {l : List PartCount} (hl : l.length ≤ 12) (hnm : NmP l) (hn : 100 < n) : ∃ d, slices_SortFunc_PartCount n l = some d ∧ d.Perm l ∧ Asc (d.map fun x => x.Part) := by
  obtain ⟨y, hy⟩ := bits_ok (n := n) hl
  obtain ⟨d, g1, g2, g3⟩ := insS_sort (n := n) hl hnm hn
  rw [slices_SortFunc_PartCount, hy]
  simp only [Option.bind_some]
  refine ⟨d, ?_, g2, g3⟩
  have hle : ((l.length : Nat) : Int) - 0 ≤ 12 := by omega
  have : slices_pdqsortCmpFunc_PartCount n l 0 ((l.length : Nat) : Int) y = some d := by
    rw [slices_pdqsortCmpFunc_PartCount, show n = (n - 1) + 1 by omega, loopN_s, slices_pdqsortCmpFunc_PartCount_L1, show n - 1 + 1 = n by omega, chk_of (inI_of (by omega) (by omega))]
    simp only [hle, decide_true, cond_true, g1, Option.bind_some, g2.length_eq, chk_t]
  rw [this]
  simp [g2.length_eq]
theorem parts_res {t : List Task} {s : List Stocked} {l : List Str} (ht : OkT t) (h0 : tasksE n t = 0) (hs : stockC s = 0) (h12 : s.length ≤ 12) (hl : setE t l = 0) (hll : l.length ≤ 63) (hb : ∀ i, i < l.length → setL t s l i = 0) (hn : 1000 < n) :
    ∃ d m K, restore_PartsOf n t l = some (0, d) ∧ d.Perm (m.map fun x : Str × Int => PartCount.mk x.1 x.2) ∧ Mp s m K ∧ K ≤ 1000000 ∧ valM s m = sm (partF t s l) l.length := by
  have hlen := ht.len
  have hk := (set_ok hl).1
  rw [restore_PartsOf, sets_res ht (by simp) (by simp only [List.mem_cons, List.mem_nil_iff, or_false]; rintro x rfl; omega) hn, h0]
  have e : firstE (fun v => setE t (ix [l] v)) 0 [l].length = 0 := by
    show (bif setE t l != 0 then setE t l else 0) = 0
    rw [hl]; rfl
  simp only [bne_self_eq_false, cond_false, e, Option.bind_some, withK_eq]
  obtain ⟨s2, back2, ⟨m, e3, p1, p2⟩, r2⟩ := loop_inv (F := restore_PartsOf_L2 n t l fun v12 => loopN (restore_PartsOf_L3 fun v20 => (slices_SortFunc_PartCount n v20).bind fun y21 => chk (decide (v20.length = y21.length)) <| some (0, y21)) n ([], none, v12)) (len := l.length) (P := fun v st => ∃ m, st = (v, m) ∧ Mp s m (10000 * (v : Int)) ∧ valM s m = sm (partF t s l) v) (fun back v st hv hP => by
    obtain ⟨m, e, p1, p2⟩ := hP
    subst e
    have hkv := hk _ (ix_mem hv)
    obtain ⟨k1, k2, k3, k4⟩ := known_ix hkv
    have hlk : lacks s (taskOf t (ix l v)).Parts = false := by
      have := hb v hv
      unfold setL at this
      cases c2 : lacks s (taskOf t (ix l v)).Parts with
      | false => rfl
      | true => rw [c2] at this; simp at this
    obtain ⟨m', q1, q2, q3⟩ := counts_task (n := n) ht h0 hs hkv hlk hn (by omega) (by omega) p1 fun v11 => chk (nI (v + 1)) (back (v + 1, v11))
    refine ⟨(v + 1, m'), ⟨m', rfl, by rw [show 10000 * ((v + 1 : Nat) : Int) = 10000 * (v : Int) + 10000 by omega]; exact q1, ?_⟩, ?_⟩
    · rw [q2, p2, sm, partF]
    · simp only [restore_PartsOf_L2, hv, decide_true, cond_true, withK_eq, find_eq t (ix l v) (by omega : t.length < n) (by omega), Option.bind_some, k1, k2, chk_t]
      rw [q3, chk_of (nI_of (by omega))]) n 0 (0, []) (by omega) (by omega) ⟨[], rfl, ⟨List.nodup_nil, by simp, by simp⟩, rfl⟩
  subst e3
  rw [r2]
  have hml := p1.len
  have hks : NmP (m.map fun x : Str × Int => PartCount.mk x.1 x.2) := by
    unfold NmP
    rw [List.map_map]
    exact p1.nd
  obtain ⟨d, g1, g2, g3⟩ := sortS (n := n) (l := m.map fun x : Str × Int => PartCount.mk x.1 x.2) (by simp; omega) hks (by omega)
  refine ⟨d, m, 10000 * (l.length : Int), ?_, g2, p1, by omega, p2⟩
  simp only [restore_PartsOf_L2, Nat.lt_irrefl, decide_false, cond_false]
  refine rngP_loop (ks := m.map fun x : Str × Int => PartCount.mk x.1 x.2) (by simp; omega) (fun out hp => ?_) n _ _ _ (by omega) (by simp)
  have hol : out.length ≤ 12 := by rw [hp.length_eq]; simp; omega
  obtain ⟨d', q1, q2, q3⟩ := sortS (n := n) (l := out) hol ((hp.map _).nodup_iff.2 hks) (by omega)
  have : d' = d := sorted_one q3 g3 (q2.trans (hp.trans g2.symm))
  subst this
  simp [q1, q2.length_eq]
end
section
set_option maxRecDepth 4000
open Go
variable {n : Nat}
theorem sm_add {f g : Nat → Int} : ∀ k, sm (fun i => f i + g i) k = sm f k + sm g k
  | 0 => rfl
  | k + 1 => by rw [sm, sm, sm, sm_add k]; omega
theorem perm_sum {l m : List Int} (h : l.Perm m) : l.sum = m.sum := by
  induction h with
  | nil => rfl
  | cons x _ ih => simp [ih]
  | swap x y l => simp only [List.sum_cons]; omega
  | trans _ _ ih1 ih2 => exact ih1.trans ih2
theorem sm_list {α : Type} [Inhabited α] (f : α → Int) : ∀ l : List α, sm (fun i => f (ix l i)) l.length = (l.map f).sum := by
  intro l
  have key : ∀ k, k ≤ l.length → sm (fun i => f (ix l i)) k = ((l.take k).map f).sum := by
    intro k
    induction k with
    | zero => intro _; rfl
    | succ k ih =>
      intro hk
      rw [sm, ih (by omega), List.take_succ_eq_append_getElem (by omega), ix_eq (by omega)]
      simp only [List.map_append, List.sum_append, List.map_cons, List.map_nil, List.sum_cons, List.sum_nil, Int.add_zero]
  rw [key l.length (Nat.le_refl _), List.take_length]
theorem parts_sum {s : List Stocked} (hs : stockC s = 0) (h12 : s.length ≤ 12) {d : List PartCount} {m : List (Str × Int)} {K : Int} (hp : d.Perm (m.map fun x : Str × Int => PartCount.mk x.1 x.2)) (hm : Mp s m K) (hK : K ≤ 1000000) {c : Int} (hc : 0 ≤ c) (hc1 : c ≤ 1000000000000) (hn : 1000 < n) (kk : Int → Option Bool) :
    loopN (agraffelaw08_RestoreCosts_L2 n s (0, d) kk) n (c, 0) = kk (c + valM s m) := by
  have hml := hm.len
  have hdl : d.length = m.length := by rw [hp.length_eq]; simp
  have hb : ∀ i, i < d.length → ¬ findI (byPart (ix d i).Part) s < 0 ∧ 0 ≤ pf s d i ∧ pf s d i ≤ 1000000000000000 := by
    intro i hi
    have hx := hp.mem_iff.1 (ix_mem hi)
    rw [List.mem_map] at hx
    obtain ⟨x, hxm, e⟩ := hx
    have h1 := hm.kn x.1 (List.mem_map_of_mem hxm)
    have h2 := hm.vl x hxm
    have e1 : (ix d i).Part = x.1 := by rw [← e]
    have e2 : (ix d i).Count = x.2 := by rw [← e]
    obtain ⟨_, b, _, _⟩ := findI_pos h1
    have h3 := (stock_ok hs).2 _ b
    unfold pf priceOf
    rw [e1, e2]
    refine ⟨h1, Int.mul_nonneg h2.1 h3.1, ?_⟩
    have := Int.mul_le_mul (Int.le_trans h2.2 hK) h3.2 h3.1 (by decide)
    exact this
  have hv : valM s m = sm (pf s d) d.length := by
    have e1 : sm (pf s d) d.length = (d.map fun x => x.Count * priceOf s x.Part).sum := sm_list (fun x : PartCount => x.Count * priceOf s x.Part) d
    rw [e1, perm_sum (hp.map _), List.map_map]
    rfl
  rw [hv]
  refine loop_fold (st := fun v => c + sm (pf s d) v) (len := d.length) (fun back v hvv => ?_) (fun back => ?_) n (by omega) (by simp [sm])
  · have a1 := sm_nn (f := pf s d) v fun i hi => (hb i (by omega)).2.1
    have a2 := sm_le (f := pf s d) (c := 1000000000000000) v fun i hi => (hb i (by omega)).2.2
    obtain ⟨b1, b2, b3⟩ := hb v hvv
    obtain ⟨q1, q2, _, _⟩ := findI_pos b1
    simp only [agraffelaw08_RestoreCosts_L2, hvv, decide_true, cond_true, FindStock_eq n s _ (by omega : s.length < n) (by omega), Option.bind_some, b1, decide_false, cond_false]
    rw [show (ix d v).Count * (ix s (findI (byPart (ix d v).Part) s).toNat).Cents = pf s d v from rfl, chk_of (inB_of q1 q2), chk_of (by simp; exact q2), chk_of (inI_of (by omega) (by omega)), chk_of (inI_of (by omega) (by omega)), chk_of (nI_of (by omega))]
    simp only [sm]
    rw [Int.add_assoc]
  · simp [agraffelaw08_RestoreCosts_L2]
theorem cents_sum {t : List Task} (ht : OkT t) (h0 : tasksE n t = 0) {s : List Stocked} {l : List Str} (hl : setE t l = 0) (hll : l.length ≤ 63) (hn : 1000 < n) (kk : Int → Option Bool) :
    (0 ≤ sm (fun v => (taskOf t (ix l v)).Cents) l.length ∧ sm (fun v => (taskOf t (ix l v)).Cents) l.length ≤ 1000000000000) ∧ loopN (agraffelaw08_RestoreCosts_L1 n t l kk) n (0, 0) = kk (sm (fun v => (taskOf t (ix l v)).Cents) l.length) := by
  have hlen := ht.len
  have hk := (set_ok hl).1
  have hb : ∀ i, i < l.length → 0 ≤ (taskOf t (ix l i)).Cents ∧ (taskOf t (ix l i)).Cents ≤ 1000000000 := fun i hi => (nums_of h0 (hk _ (ix_mem hi))).1
  have A : ∀ v, v ≤ l.length → 0 ≤ sm (fun v => (taskOf t (ix l v)).Cents) v ∧ sm (fun v => (taskOf t (ix l v)).Cents) v ≤ 1000000000000 := fun v hv => by
    have a1 := sm_nn (f := fun v => (taskOf t (ix l v)).Cents) v fun i hi => (hb i (by omega)).1
    have a2 := sm_le (f := fun v => (taskOf t (ix l v)).Cents) (c := 1000000000) v fun i hi => (hb i (by omega)).2
    omega
  refine ⟨A _ (Nat.le_refl _), ?_⟩
  refine loop_fold (st := fun v => sm (fun v => (taskOf t (ix l v)).Cents) v) (len := l.length) (fun back v hv => ?_) (fun back => ?_) n (by omega) rfl
  · obtain ⟨k1, k2, k3, k4⟩ := known_ix (hk _ (ix_mem hv))
    have a := A v (by omega)
    have b := hb v hv
    simp only [agraffelaw08_RestoreCosts_L1, hv, decide_true, cond_true, Find_eq t (ix l v) (by omega : t.length < n) (by omega), Option.bind_some, k1, k2, chk_t]
    rw [show ix t (findI (byName (ix l v)) t).toNat = taskOf t (ix l v) from rfl, chk_of (inI_of (by omega) (by omega)), chk_of (nI_of (by omega))]
    rfl
  · simp [agraffelaw08_RestoreCosts_L1]
theorem pure_RestoreCosts (a0 : List Task) (a1 : List Stocked) (a2 : List Str) : agraffelaw08_RestoreCosts 2000 a0 a1 a2 = some true := by
  rw [agraffelaw08_RestoreCosts]
  simp only [agraffelaw08_awake, Option.bind_some, Bool.not_true, cond_false, withK_eq, Few_eq (n := 2000) a0 (by omega), stocked_law_eq (n := 2000) a1 (by omega), texts_eq (n := 2000) a2 12 (by omega) (by omega), gcall_some_]
  cases hf : fewB a0
  · simp
  cases hst : stockedB a1
  · simp
  cases hs : textsB a2 12
  · simp
  have ok := few_ok hf
  obtain ⟨s1, s2⟩ := stockedB_ok hst
  have ls := textsB_len hs
  have hlen := ok.len
  simp only [Bool.not_true, Bool.not_false, Bool.or_self, cond_true, cond_false, Copied_eq (n := 2000) ok (by omega), Option.bind_some, agraffelaw08_stock, agraffebase_CopyTexts_2, room_of (b := 32) (n := a1.length) (by omega) (by omega), room_of (b := 16) (n := a2.length) (by omega) (by omega), chk_t, CheckTasks_ref (n := 2000) ok (by omega), CheckStock_ref 2000 a1 s2 (by omega), set_ref (n := 2000) (t := a0) (l := a2) (by omega) (by omega) (by omega)]
  rw [restore_Cost, CheckTasks_res (n := 2000) ok (by omega)]
  simp only [Option.bind_some, CheckStock_res 2000 a1 s2 (by omega), set_res (n := 2000) (t := a0) (l := a2) (by omega) (by omega) (by omega), withK_eq]
  by_cases h0 : tasksE 2000 a0 = 0
  · by_cases h1 : stockC a1 = 0
    · by_cases h2 : setE a0 a2 = 0
      · have h12 : a1.length ≤ 12 := by
          have h60 := (stock_ok h1).1
          simp only [stockedB, Bool.and_eq_true, Bool.not_eq_true', Bool.or_eq_false_iff, Bool.and_eq_false_iff, decide_eq_false_iff_not] at hst
          omega
        simp only [h0, h1, h2, bne_self_eq_false, BEq.rfl, cond_false, cond_true, Cost_res (n := 2000) ok h0 h1 h2 (by omega) (by omega), Cost_ref (n := 2000) ok h0 h1 h2 (by omega) (by omega), Option.bind_some]
        by_cases hb : firstE (setL a0 a1 a2) 0 a2.length = 0
        · have hbz : ∀ i, i < a2.length → setL a0 a1 a2 i = 0 := fun i hi => firstE_zero hb i (by omega) (by omega)
          obtain ⟨d, m, K, e1, e2, e3, e4, e5⟩ := parts_res (n := 2000) ok h0 h1 h12 h2 (by omega) hbz (by omega)
          simp only [hb, bne_self_eq_false, cond_false, Option.bind_some, Bool.not_true, e1]
          obtain ⟨c1, c2⟩ := cents_sum (n := 2000) ok h0 (s := a1) h2 (by omega) (by omega) (fun v22 => loopN (agraffelaw08_RestoreCosts_L2 2000 a1 (0, d) fun v27 => some (((((0 : Int) == 0) && (sm (setF a0 a1 a2) a2.length == sm (setF a0 a1 a2) a2.length)) && ((0 : Int) == 0)) && (v27 == sm (setF a0 a1 a2) a2.length))) 2000 (v22, 0))
          have tot : sm (fun v => (taskOf a0 (ix a2 v)).Cents) a2.length + valM a1 m = sm (setF a0 a1 a2) a2.length := by
            rw [e5, ← sm_add]
            exact sm_congr _ fun i _ => rfl
          have := parts_sum (n := 2000) h1 h12 e2 e3 e4 c1.1 c1.2 (by omega) fun v27 => some (((((0 : Int) == 0) && (sm (setF a0 a1 a2) a2.length == sm (setF a0 a1 a2) a2.length)) && ((0 : Int) == 0)) && (v27 == sm (setF a0 a1 a2) a2.length))
          rw [tot] at this
          refine (c2.trans this).trans ?_
          simp
        · have hbb : (firstE (setL a0 a1 a2) 0 a2.length != 0) = true := bne_t hb
          simp [hbb]
      · have hb : (setE a0 a2 != 0) = true := bne_t h2
        simp [h0, h1, hb]
    · have hb : (stockC a1 != 0) = true := bne_t h1
      have hb2 : (stockC a1 == 0) = false := by rw [beq_eq_false_iff_ne]; exact h1
      simp [h0, hb, hb2]
  · have hb : (tasksE 2000 a0 != 0) = true := bne_t h0
    have hb2 : (tasksE 2000 a0 == 0) = false := by rw [beq_eq_false_iff_ne]; exact h0
    simp [hb, hb2]
end
end Go.Proofs.YtcdcpambkdlhjaaGreat.As
