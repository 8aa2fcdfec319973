/- What the functions compute, on plain data, and what follows from it, part 1: no condition. -/
import Derived.Test.YtifabpmjiphhdaaGreatGround3
namespace Go.Proofs.YtifabpmjiphhdaaGreat.As
open Go
section
set_option maxRecDepth 4000
open Go
structure PartCount where
  Part : Str
  Count : Int
  deriving Inhabited, DecidableEq
def ePartCount (x : PartCount) : V := .agg [vt x.Part, vi x.Count]
theorem ePartCount_frz (x : PartCount) : (ePartCount x).frz = true := rfl
theorem ePartCount_frzE (x : PartCount) : frzE (ePartCount x) = true := rfl
structure Task where
  Name : Str
  Cents : Int
  Hours : Int
  Needs : List Str
  OneOf : List (List Str)
  Parts : List PartCount
  deriving Inhabited, DecidableEq
def eTask (x : Task) : V := .agg [vt x.Name, vi x.Cents, vi x.Hours, eS 1 vt x.Needs, eS 1 (eS 1 vt) x.OneOf, eS 2 ePartCount x.Parts]
structure Stocked where
  Part : Str
  Cents : Int
  Count : Int
  deriving Inhabited, DecidableEq
def eStocked (x : Stocked) : V := .agg [vt x.Part, vi x.Cents, vi x.Count]
structure Finding where
  Name : Str
  Tasks : List Str
  deriving Inhabited, DecidableEq
def eFinding (x : Finding) : V := .agg [vt x.Name, eS 1 vt x.Tasks]
structure Range where
  Lo : Int
  Hi : Int
  deriving Inhabited, DecidableEq
def agraffelaw08_texts_L1 (a0 : List Str) (k1 : (Unit → Option Bool)) (back : Nat → Option Bool) : Nat → Option Bool
  | v1 =>
  bif decide (v1 < a0.length) then
    bif decide (20 < ((ix a0 v1).length)) then
      some false
    else
      chk (nI (v1 + 1)) <|
      back (v1 + 1)
  else
    k1 ()
def agraffelaw08_texts (n : Nat) (a0 : List Str) (a1 : Int) : Option Bool :=
  bif decide (a1 < ((a0.length : Nat) : Int)) then
    some false
  else
    withK (fun (_ : Unit) =>
        some true) fun k1 =>
    loopN (agraffelaw08_texts_L1 a0 k1) n 0
def agraffelaw08_Few_L2 (a0 : List Task) (v6 : Nat) (k2 : (Unit → Option Bool)) (back : Nat → Option Bool) : Nat → Option Bool
  | v11 =>
  bif decide (v11 < (((ix a0 v6).Parts).length)) then
    chk (decide (v11 < ((ix a0 v6).Parts).length)) <|
    bif decide (20 < (((ix ((ix a0 v6).Parts) v11).Part).length)) then
      some false
    else
      chk (nI (v11 + 1)) <|
      back (v11 + 1)
  else
    k2 ()
def agraffelaw08_Few_L1 (n : Nat) (a0 : List Task) (v6 : Nat) (k1 : (Unit → Option Bool)) (back : Nat → Option Bool) : Nat → Option Bool
  | v9 =>
  bif decide (v9 < (((ix a0 v6).OneOf).length)) then
    chk (decide (v9 < ((ix a0 v6).OneOf).length)) <|
    (agraffelaw08_texts n (ix ((ix a0 v6).OneOf) v9) 9).bind fun y10 =>
    bif !y10 then
      some false
    else
      chk (nI (v9 + 1)) <|
      back (v9 + 1)
  else
    k1 ()
def agraffelaw08_Few_L3 (n : Nat) (a0 : List Task) (k3 : (Unit → Option Bool)) (back : Nat → Option Bool) : Nat → Option Bool
  | v6 =>
  bif decide (v6 < a0.length) then
    withK (fun (_ : Unit) =>
        chk (nI (v6 + 1)) <|
        back (v6 + 1)) fun k2 =>
    (gcall (!(decide (20 < (((ix a0 v6).Name).length)))) (agraffelaw08_texts n ((ix a0 v6).Needs) 13)).bind fun y7 =>
    bif (((decide (20 < (((ix a0 v6).Name).length))) || (!y7)) || (decide (9 < (((ix a0 v6).OneOf).length)))) || (decide (13 < (((ix a0 v6).Parts).length))) then
      some false
    else
      withK (fun (_ : Unit) =>
          loopN (agraffelaw08_Few_L2 a0 v6 k2) n 0) fun k1 =>
      loopN (agraffelaw08_Few_L1 n a0 v6 k1) n 0
  else
    k3 ()
def agraffelaw08_Few (n : Nat) (a0 : List Task) : Option Bool :=
  bif ((decide (9 < a0.length)) && (decide (a0.length ≤ 60))) || (decide (63 < a0.length)) then
    some false
  else
    withK (fun (_ : Unit) =>
        some true) fun k3 =>
    loopN (agraffelaw08_Few_L3 n a0 k3) n 0
def agraffebase_CopyTexts_2 (n : Nat) (a0 : List Str) : Option Unit :=
  chk (room 16 a0.length) <|
  some ()
def restore_isName_L1 (a0 : Str) (k1 : (Unit → Option Bool)) (back : Nat → Option Bool) : Nat → Option Bool
  | v1 =>
  bif decide (v1 < a0.length) then
    bif (!(((decide ((97 : Int) ≤ (((ix a0 v1).toNat : Nat) : Int))) && (decide ((((ix a0 v1).toNat : Nat) : Int) ≤ (122 : Int)))) || ((decide ((65 : Int) ≤ (((ix a0 v1).toNat : Nat) : Int))) && (decide ((((ix a0 v1).toNat : Nat) : Int) ≤ (90 : Int)))))) && ((decide (v1 = 0)) || (((((ix a0 v1).toNat : Nat) : Int) != (45 : Int)) && ((decide ((((ix a0 v1).toNat : Nat) : Int) < (48 : Int))) || (decide ((57 : Int) < (((ix a0 v1).toNat : Nat) : Int)))))) then
      some false
    else
      chk (nI (v1 + 1)) <|
      back (v1 + 1)
  else
    k1 ()
def restore_isName (n : Nat) (a0 : Str) : Option Bool :=
  withK (fun (_ : Unit) =>
      some ((!(a0 == ([] : Str))) && (decide (a0.length ≤ 12)))) fun k1 =>
  loopN (restore_isName_L1 a0 k1) n 0
def restore_list_find_f1 (n : Nat) (a0 : Task) (a1 : Str) : Option Unit :=
  some ()
def slices_IndexFunc_Task_L1 (n : Nat) (a0 : List Task) (a1 : Str) (k1 : (Unit → Option Int)) (back : Nat → Option Int) : Nat → Option Int
  | v2 =>
  bif decide (v2 < a0.length) then
    (restore_list_find_f1 n (ix a0 v2) a1).bind fun y3 =>
    bif ((ix a0 v2).Name == a1) then
      some ((v2 : Nat) : Int)
    else
      chk (nI (v2 + 1)) <|
      back (v2 + 1)
  else
    k1 ()
def slices_IndexFunc_Task (n : Nat) (a0 : List Task) (a1 : Str) : Option Int :=
  withK (fun (_ : Unit) =>
      some (-1)) fun k1 =>
  loopN (slices_IndexFunc_Task_L1 n a0 a1 k1) n 0
def restore_list_find (n : Nat) (a0 : List Task) (a1 : Str) : Option Int :=
  (slices_IndexFunc_Task n a0 a1).bind fun y1 =>
  some y1
def restore_within (n : Nat) (a0 : Int) (a1 : Int) (a2 : Int) : Option Unit :=
  some ()
def restore_list_checkTask_f1 (n : Nat) (a0 : List Str) : Option Unit :=
  some ()
def slices_IndexFunc_string_L1 (n : Nat) (a0 : List (List Str)) (k1 : (Unit → Option Int)) (back : Nat → Option Int) : Nat → Option Int
  | v2 =>
  bif decide (v2 < a0.length) then
    (restore_list_checkTask_f1 n (ix a0 v2)).bind fun y3 =>
    bif decide (6 < (ix a0 v2).length) then
      some ((v2 : Nat) : Int)
    else
      chk (nI (v2 + 1)) <|
      back (v2 + 1)
  else
    k1 ()
def slices_IndexFunc_string (n : Nat) (a0 : List (List Str)) : Option Int :=
  withK (fun (_ : Unit) =>
      some (-1)) fun k1 =>
  loopN (slices_IndexFunc_string_L1 n a0 k1) n 0
def slices_ContainsFunc_string (n : Nat) (a0 : List (List Str)) : Option Bool :=
  (slices_IndexFunc_string n a0).bind fun y1 =>
  some (decide ((0 : Int) ≤ y1))
def slices_Index_string_L1 (a0 : List Str) (a1 : Str) (k1 : (Unit → Option Int)) (back : Nat → Option Int) : Nat → Option Int
  | v1 =>
  bif decide (v1 < a0.length) then
    bif (a1 == (ix a0 v1)) then
      some ((v1 : Nat) : Int)
    else
      chk (nI (v1 + 1)) <|
      back (v1 + 1)
  else
    k1 ()
def slices_Index_string (n : Nat) (a0 : List Str) (a1 : Str) : Option Int :=
  withK (fun (_ : Unit) =>
      some (-1)) fun k1 =>
  loopN (slices_Index_string_L1 a0 a1 k1) n 0
def slices_Contains_string (n : Nat) (a0 : List Str) (a1 : Str) : Option Bool :=
  (slices_Index_string n a0 a1).bind fun y1 =>
  some (decide ((0 : Int) ≤ y1))
def restore_list_known_L1 (n : Nat) (a0 : List Task) (a1 : List Str) (k1 : (Unit → Option Int)) (back : Nat → Option Int) : Nat → Option Int
  | v3 =>
  bif decide (v3 < a1.length) then
    (restore_list_find n a0 (ix a1 v3)).bind fun y4 =>
    bif decide (y4 < (0 : Int)) then
      some 6
    else
      chk (decide (v3 ≤ a1.length)) <|
      (slices_Contains_string n (List.take v3 a1) (ix a1 v3)).bind fun y5 =>
      bif y5 then
        some 5
      else
        chk (nI (v3 + 1)) <|
        back (v3 + 1)
  else
    k1 ()
def restore_list_known (n : Nat) (a0 : List Task) (a1 : List Str) : Option Int :=
  withK (fun (_ : Unit) =>
      some 0) fun k1 =>
  loopN (restore_list_known_L1 n a0 a1 k1) n 0
def restore_checkCounts_f1 (n : Nat) (a0 : PartCount) (a1 : Str) (a2 : Int) : Option Unit :=
  some ()
def slices_IndexFunc_PartCount_L1 (n : Nat) (a0 : List PartCount) (a1 : Str) (a2 : Int) (k1 : (Unit → Option Int)) (back : Nat → Option Int) : Nat → Option Int
  | v2 =>
  bif decide (v2 < a0.length) then
    (restore_checkCounts_f1 n (ix a0 v2) a1 a2).bind fun y3 =>
    bif ((ix a0 v2).Part == a1) then
      some ((v2 : Nat) : Int)
    else
      chk (nI (v2 + 1)) <|
      back (v2 + 1)
  else
    k1 ()
def slices_IndexFunc_PartCount (n : Nat) (a0 : List PartCount) (a1 : Str) (a2 : Int) : Option Int :=
  withK (fun (_ : Unit) =>
      some (-1)) fun k1 =>
  loopN (slices_IndexFunc_PartCount_L1 n a0 a1 a2 k1) n 0
def slices_ContainsFunc_PartCount (n : Nat) (a0 : List PartCount) (a1 : Str) (a2 : Int) : Option Bool :=
  (slices_IndexFunc_PartCount n a0 a1 a2).bind fun y1 =>
  some (decide ((0 : Int) ≤ y1))
def restore_checkCounts_L1 (n : Nat) (a0 : List PartCount) (a1 : Int) (k1 : (Unit → Option Int)) (back : Nat → Option Int) : Nat → Option Int
  | v4 =>
  bif decide (v4 < a0.length) then
    (restore_isName n ((ix a0 v4).Part)).bind fun y5 =>
    bif !y5 then
      some 4
    else
      chk (decide (v4 ≤ a0.length)) <|
      (slices_ContainsFunc_PartCount n (List.take v4 a0) ((ix a0 v4).Part) ((ix a0 v4).Count)).bind fun y6 =>
      bif y6 then
        some 5
      else
        (restore_within n ((ix a0 v4).Count) 1 a1).bind fun y7 =>
        bif !((decide (1 ≤ ((ix a0 v4).Count))) && (decide (((ix a0 v4).Count) ≤ a1))) then
          some 2
        else
          chk (nI (v4 + 1)) <|
          back (v4 + 1)
  else
    k1 ()
def restore_checkCounts (n : Nat) (a0 : List PartCount) (a1 : Int) : Option Int :=
  withK (fun (_ : Unit) =>
      some 0) fun k1 =>
  loopN (restore_checkCounts_L1 n a0 a1 k1) n 0
def restore_list_checkTask_L1 (n : Nat) (a0 : List Task) (a1 : Int) (k1 : (Unit → Option Int)) (back : Nat → Option Int) : Nat → Option Int
  | v8 =>
  bif decide (v8 < (((ix a0 a1.toNat).OneOf).length)) then
    chk (decide (v8 < ((ix a0 a1.toNat).OneOf).length)) <|
    bif decide (((ix ((ix a0 a1.toNat).OneOf) v8).length) = 0) then
      some 10
    else
      (restore_list_known n a0 (ix ((ix a0 a1.toNat).OneOf) v8)).bind fun y9 =>
      bif (y9 != (0 : Int)) then
        some y9
      else
        chk (nI (v8 + 1)) <|
        back (v8 + 1)
  else
    k1 ()
def restore_list_checkTask (n : Nat) (a0 : List Task) (a1 : Int) : Option Int :=
  chk (inB a1 a0.length) <|
  chk (decide (a1.toNat < a0.length)) <|
  (restore_isName n ((ix a0 a1.toNat).Name)).bind fun y1 =>
  bif !y1 then
    some 4
  else
    (restore_list_find n a0 ((ix a0 a1.toNat).Name)).bind fun y2 =>
    bif decide (y2 < a1) then
      some 5
    else
      (restore_within n ((ix a0 a1.toNat).Cents) 0 1000000000).bind fun y3 =>
      (gcall (!(!((decide (0 ≤ ((ix a0 a1.toNat).Cents))) && (decide (((ix a0 a1.toNat).Cents) ≤ 1000000000))))) (restore_within n ((ix a0 a1.toNat).Hours) 0 10000)).bind fun y4 =>
      bif (!((decide (0 ≤ ((ix a0 a1.toNat).Cents))) && (decide (((ix a0 a1.toNat).Cents) ≤ 1000000000)))) || (!((decide (0 ≤ ((ix a0 a1.toNat).Hours))) && (decide (((ix a0 a1.toNat).Hours) ≤ 10000)))) then
        some 2
      else
        (gcall (!((decide (10 < (((ix a0 a1.toNat).Needs).length))) || (decide (6 < (((ix a0 a1.toNat).OneOf).length))))) (slices_ContainsFunc_string n ((ix a0 a1.toNat).OneOf))).bind fun y5 =>
        bif (((decide (10 < (((ix a0 a1.toNat).Needs).length))) || (decide (6 < (((ix a0 a1.toNat).OneOf).length)))) || y5) || (decide (10 < (((ix a0 a1.toNat).Parts).length))) then
          some 8
        else
          (restore_list_known n a0 ((ix a0 a1.toNat).Needs)).bind fun y6 =>
          bif (y6 != (0 : Int)) then
            some y6
          else
            withK (fun (_ : Unit) =>
                (restore_checkCounts n ((ix a0 a1.toNat).Parts) 1000).bind fun y10 =>
                some y10) fun k1 =>
            loopN (restore_list_checkTask_L1 n a0 a1 k1) n 0
def restore_CheckTasks_f1 (n : Nat) (a0 : Str) : Option Unit :=
  some ()
def slices_Grow_string (n : Nat) (a0 : Int) : Option (List Str) :=
  bif decide (a0 < (0 : Int)) then
    none
  else
    withK (fun (v1 : (List Str)) =>
        some v1) fun k1 =>
    chk (inI (0 - 0)) <|
    chk (inI (a0 - (0 - 0))) <|
    bif decide ((0 : Int) < (a0 - (0 - 0))) then
      chk (decide (0 ≤ (a0 - (0 - 0)))) <|
      chk (decide (0 < (a0 - (0 - 0)).toNat)) <|
      chk (room 16 ((a0 - (0 - 0)).toNat)) <|
      chk (decide (0 ≤ ((a0 - (0 - 0)).toNat))) <|
      k1 ([] : List Str)
    else
      k1 ([] : List Str)
def slices_Concat_string_L2 (a0 : List (List Str)) (k2 : ((List Str) → Option (List Str))) (back : Nat × (List Str) → Option (List Str)) : Nat × (List Str) → Option (List Str)
  | (v5, v6) =>
  bif decide (v5 < a0.length) then
    chk (room 16 (v6 ++ (ix a0 v5)).length) <|
    chk (nI (v5 + 1)) <|
    back (v5 + 1, (v6 ++ (ix a0 v5)))
  else
    k2 v6
def slices_Concat_string_L1 (a0 : List (List Str)) (k1 : (Nat → Option (List Str))) (back : Nat × Nat → Option (List Str)) : Nat × Nat → Option (List Str)
  | (v1, v2) =>
  bif decide (v2 < a0.length) then
    chk (nI (v1 + ((ix a0 v2).length))) <|
    bif decide ((v1 + ((ix a0 v2).length)) < 0) then
      none
    else
      chk (nI (v2 + 1)) <|
      back (v1 + ((ix a0 v2).length), v2 + 1)
  else
    k1 v1
def slices_Concat_string (n : Nat) (a0 : List (List Str)) : Option (List Str) :=
  withK (fun (v3 : Nat) =>
      (slices_Grow_string n ((v3 : Nat) : Int)).bind fun y4 =>
      withK (fun (v7 : (List Str)) =>
          some v7) fun k2 =>
      loopN (slices_Concat_string_L2 a0 k2) n (0, y4)) fun k1 =>
  loopN (slices_Concat_string_L1 a0 k1) n (0, 0)
def restore_leads (n : Nat) (a0 : Task) : Option (List Str) :=
  chk (room 24 (([a0.Needs] : List (List Str)) ++ a0.OneOf).length) <|
  (slices_Concat_string n (([a0.Needs] : List (List Str)) ++ a0.OneOf)).bind fun y1 =>
  some y1
def slices_Index_string_2_L1 (a0 : List Str) (a1 : Str) (k1 : (Unit → Option Int)) (back : Nat → Option Int) : Nat → Option Int
  | v1 =>
  bif decide (v1 < a0.length) then
    bif (a1 == (ix a0 v1)) then
      some ((v1 : Nat) : Int)
    else
      chk (nI (v1 + 1)) <|
      back (v1 + 1)
  else
    k1 ()
def slices_Index_string_2 (n : Nat) (a0 : List Str) (a1 : Str) : Option Int :=
  withK (fun (_ : Unit) =>
      some (-1)) fun k1 =>
  loopN (slices_Index_string_2_L1 a0 a1 k1) n 0
def slices_Contains_string_2 (n : Nat) (a0 : List Str) (a1 : Str) : Option Bool :=
  (slices_Index_string_2 n a0 a1).bind fun y1 =>
  some (decide ((0 : Int) ≤ y1))
def restore_list_order_f1_2 (n : Nat) (a0 : Str) (a1 : List Str) : Option Bool :=
  (restore_CheckTasks_f1 n a0).bind fun y1 =>
  (gcall true (slices_Contains_string_2 n a1 a0)).bind fun y2 =>
  some (true && (!y2))
def slices_IndexFunc_string_3_L1 (n : Nat) (a0 : List Str) (a1 : List Str) (k1 : (Unit → Option Int)) (back : Nat → Option Int) : Nat → Option Int
  | v2 =>
  bif decide (v2 < a0.length) then
    (restore_list_order_f1_2 n (ix a0 v2) a1).bind fun y3 =>
    bif y3 then
      some ((v2 : Nat) : Int)
    else
      chk (nI (v2 + 1)) <|
      back (v2 + 1)
  else
    k1 ()
def slices_IndexFunc_string_3 (n : Nat) (a0 : List Str) (a1 : List Str) : Option Int :=
  withK (fun (_ : Unit) =>
      some (-1)) fun k1 =>
  loopN (slices_IndexFunc_string_3_L1 n a0 a1 k1) n 0
def slices_ContainsFunc_string_3 (n : Nat) (a0 : List Str) (a1 : List Str) : Option Bool :=
  (slices_IndexFunc_string_3 n a0 a1).bind fun y1 =>
  some (decide ((0 : Int) ≤ y1))
def restore_list_order_f2_2 (n : Nat) (a0 : Task) (a1 : List Str) : Option Bool :=
  (restore_list_order_f1_2 n a0.Name a1).bind fun y1 =>
  (gcall y1 (restore_leads n a0)).bind fun y2 =>
  (gcall y1 (slices_ContainsFunc_string_3 n y2 a1)).bind fun y3 =>
  some (y1 && (!y3))
def slices_IndexFunc_Task_3_L1 (n : Nat) (a0 : List Task) (a1 : List Str) (k1 : (Unit → Option Int)) (back : Nat → Option Int) : Nat → Option Int
  | v2 =>
  bif decide (v2 < a0.length) then
    (restore_list_order_f2_2 n (ix a0 v2) a1).bind fun y3 =>
    bif y3 then
      some ((v2 : Nat) : Int)
    else
      chk (nI (v2 + 1)) <|
      back (v2 + 1)
  else
    k1 ()
def slices_IndexFunc_Task_3 (n : Nat) (a0 : List Task) (a1 : List Str) : Option Int :=
  withK (fun (_ : Unit) =>
      some (-1)) fun k1 =>
  loopN (slices_IndexFunc_Task_3_L1 n a0 a1 k1) n 0
def restore_list_order_L1 (n : Nat) (a0 : List Task) (back : (List Str) → Option (List Str)) : (List Str) → Option (List Str)
  | v2 =>
  (slices_IndexFunc_Task_3 n a0 v2).bind fun y3 =>
  bif decide (y3 < (0 : Int)) then
    some v2
  else
    chk (inB y3 a0.length) <|
    chk (decide (y3.toNat < a0.length)) <|
    chk (room 16 (v2 ++ ([(ix a0 y3.toNat).Name] : List Str)).length) <|
    back (v2 ++ ([(ix a0 y3.toNat).Name] : List Str))
def restore_list_order (n : Nat) (a0 : List Task) : Option (List Str) :=
  loopN (restore_list_order_L1 n a0) n ([] : List Str)
def restore_CheckTasks_L1 (n : Nat) (a0 : List Task) (k1 : (Unit → Option Int)) (back : Nat → Option Int) : Nat → Option Int
  | v2 =>
  bif decide (v2 < a0.length) then
    (restore_list_checkTask n a0 ((v2 : Nat) : Int)).bind fun y3 =>
    bif (y3 != (0 : Int)) then
      some y3
    else
      chk (nI (v2 + 1)) <|
      back (v2 + 1)
  else
    k1 ()
def restore_CheckTasks (n : Nat) (a0 : List Task) : Option Int :=
  bif decide (60 < a0.length) then
    some 8
  else
    withK (fun (_ : Unit) =>
        (restore_list_order n a0).bind fun y4 =>
        bif decide (y4.length < a0.length) then
          some 21
        else
          some 0) fun k1 =>
    loopN (restore_CheckTasks_L1 n a0 k1) n 0
def agraffebase_isLetter (n : Nat) (a0 : Int) : Option Unit :=
  some ()
def agraffebase_isDigit (n : Nat) (a0 : Int) : Option Unit :=
  some ()
def agraffebase_IsName_L1 (n : Nat) (a0 : Str) (k1 : (Unit → Option Bool)) (back : Nat → Option Bool) : Nat → Option Bool
  | v4 =>
  bif decide (v4 < a0.length) then
    (agraffebase_isLetter n (((List.getD a0 v4 0).toNat : Nat) : Int)).bind fun y5 =>
    (gcall (!(((decide ((97 : Int) ≤ (((List.getD a0 v4 0).toNat : Nat) : Int))) && (decide ((((List.getD a0 v4 0).toNat : Nat) : Int) ≤ (122 : Int)))) || ((decide ((65 : Int) ≤ (((List.getD a0 v4 0).toNat : Nat) : Int))) && (decide ((((List.getD a0 v4 0).toNat : Nat) : Int) ≤ (90 : Int)))))) (agraffebase_isDigit n (((List.getD a0 v4 0).toNat : Nat) : Int))).bind fun y6 =>
    bif ((!(((decide ((97 : Int) ≤ (((List.getD a0 v4 0).toNat : Nat) : Int))) && (decide ((((List.getD a0 v4 0).toNat : Nat) : Int) ≤ (122 : Int)))) || ((decide ((65 : Int) ≤ (((List.getD a0 v4 0).toNat : Nat) : Int))) && (decide ((((List.getD a0 v4 0).toNat : Nat) : Int) ≤ (90 : Int)))))) && (!((decide ((48 : Int) ≤ (((List.getD a0 v4 0).toNat : Nat) : Int))) && (decide ((((List.getD a0 v4 0).toNat : Nat) : Int) ≤ (57 : Int)))))) && ((((List.getD a0 v4 0).toNat : Nat) : Int) != (45 : Int)) then
      some false
    else
      chk (nI (v4 + 1)) <|
      back (v4 + 1)
  else
    k1 ()
def agraffebase_IsName (n : Nat) (a0 : Str) : Option Bool :=
  chk (!(!((decide (a0.length = 0)) || (decide (12 < a0.length)))) || decide (0 < a0.length)) <|
  (gcall (!((decide (a0.length = 0)) || (decide (12 < a0.length)))) (agraffebase_isLetter n (((List.getD a0 0 0).toNat : Nat) : Int))).bind fun y1 =>
  bif ((decide (a0.length = 0)) || (decide (12 < a0.length))) || (!(((decide ((97 : Int) ≤ (((List.getD a0 0 0).toNat : Nat) : Int))) && (decide ((((List.getD a0 0 0).toNat : Nat) : Int) ≤ (122 : Int)))) || ((decide ((65 : Int) ≤ (((List.getD a0 0 0).toNat : Nat) : Int))) && (decide ((((List.getD a0 0 0).toNat : Nat) : Int) ≤ (90 : Int)))))) then
    some false
  else
    withK (fun (_ : Unit) =>
        some true) fun k1 =>
    loopN (agraffebase_IsName_L1 n a0 k1) n 0
def agrafferef08_Find_L1 (a0 : List Task) (a1 : Str) (k1 : (Unit → Option Int)) (back : Nat → Option Int) : Nat → Option Int
  | v1 =>
  bif decide (v1 < a0.length) then
    bif (((ix a0 v1).Name) == a1) then
      some ((v1 : Nat) : Int)
    else
      chk (nI (v1 + 1)) <|
      back (v1 + 1)
  else
    k1 ()
def agrafferef08_Find (n : Nat) (a0 : List Task) (a1 : Str) : Option Int :=
  withK (fun (_ : Unit) =>
      some (-1)) fun k1 =>
  loopN (agrafferef08_Find_L1 a0 a1 k1) n 0
def agraffebase_Within (n : Nat) (a0 : Int) (a1 : Int) (a2 : Int) : Option Unit :=
  some ()
def agraffebase_HasText_L1 (a0 : List Str) (a1 : Str) (k1 : (Unit → Option Bool)) (back : Nat → Option Bool) : Nat → Option Bool
  | v1 =>
  bif decide (v1 < a0.length) then
    bif ((ix a0 v1) == a1) then
      some true
    else
      chk (nI (v1 + 1)) <|
      back (v1 + 1)
  else
    k1 ()
def agraffebase_HasText (n : Nat) (a0 : List Str) (a1 : Str) : Option Bool :=
  withK (fun (_ : Unit) =>
      some false) fun k1 =>
  loopN (agraffebase_HasText_L1 a0 a1 k1) n 0
def agrafferef08_tasks_L1 (n : Nat) (a0 : List Task) (a1 : List Str) (k1 : (Unit → Option Int)) (back : Nat → Option Int) : Nat → Option Int
  | v3 =>
  bif decide (v3 < a1.length) then
    (agrafferef08_Find n a0 (ix a1 v3)).bind fun y4 =>
    bif decide (y4 < (0 : Int)) then
      some 6
    else
      chk (decide (v3 ≤ a1.length)) <|
      (agraffebase_HasText n (List.take v3 a1) (ix a1 v3)).bind fun y5 =>
      bif y5 then
        some 5
      else
        chk (nI (v3 + 1)) <|
        back (v3 + 1)
  else
    k1 ()
def agrafferef08_tasks (n : Nat) (a0 : List Task) (a1 : List Str) : Option Int :=
  withK (fun (_ : Unit) =>
      some 0) fun k1 =>
  loopN (agrafferef08_tasks_L1 n a0 a1 k1) n 0
def agrafferef08_FindPart_L1 (a0 : List PartCount) (a1 : Str) (k1 : (Unit → Option Int)) (back : Nat → Option Int) : Nat → Option Int
  | v1 =>
  bif decide (v1 < a0.length) then
    bif (((ix a0 v1).Part) == a1) then
      some ((v1 : Nat) : Int)
    else
      chk (nI (v1 + 1)) <|
      back (v1 + 1)
  else
    k1 ()
def agrafferef08_FindPart (n : Nat) (a0 : List PartCount) (a1 : Str) : Option Int :=
  withK (fun (_ : Unit) =>
      some (-1)) fun k1 =>
  loopN (agrafferef08_FindPart_L1 a0 a1 k1) n 0
def agrafferef08_counts_L1 (n : Nat) (a0 : List PartCount) (a1 : Int) (k1 : (Unit → Option Int)) (back : Nat → Option Int) : Nat → Option Int
  | v4 =>
  bif decide (v4 < a0.length) then
    (agraffebase_IsName n ((ix a0 v4).Part)).bind fun y5 =>
    bif !y5 then
      some 4
    else
      chk (decide (v4 ≤ a0.length)) <|
      (agrafferef08_FindPart n (List.take v4 a0) ((ix a0 v4).Part)).bind fun y6 =>
      bif decide ((0 : Int) ≤ y6) then
        some 5
      else
        (agraffebase_Within n ((ix a0 v4).Count) 1 a1).bind fun y7 =>
        bif !((decide (1 ≤ ((ix a0 v4).Count))) && (decide (((ix a0 v4).Count) ≤ a1))) then
          some 2
        else
          chk (nI (v4 + 1)) <|
          back (v4 + 1)
  else
    k1 ()
def agrafferef08_counts (n : Nat) (a0 : List PartCount) (a1 : Int) : Option Int :=
  withK (fun (_ : Unit) =>
      some 0) fun k1 =>
  loopN (agrafferef08_counts_L1 n a0 a1 k1) n 0
def agrafferef08_task_L2 (n : Nat) (a0 : List Task) (a1 : Int) (k2 : (Unit → Option Int)) (back : Nat → Option Int) : Nat → Option Int
  | v10 =>
  bif decide (v10 < (((ix a0 a1.toNat).OneOf).length)) then
    chk (decide (v10 < ((ix a0 a1.toNat).OneOf).length)) <|
    bif decide (((ix ((ix a0 a1.toNat).OneOf) v10).length) = 0) then
      some 10
    else
      (agrafferef08_tasks n a0 (ix ((ix a0 a1.toNat).OneOf) v10)).bind fun y11 =>
      bif (y11 != (0 : Int)) then
        some y11
      else
        chk (nI (v10 + 1)) <|
        back (v10 + 1)
  else
    k2 ()
def agrafferef08_task_L1 (a0 : List Task) (a1 : Int) (k1 : (Bool → Option Int)) (back : Bool × Nat → Option Int) : Bool × Nat → Option Int
  | (v5, v6) =>
  bif decide (v6 < (((ix a0 a1.toNat).OneOf).length)) then
    chk (!(!v5) || decide (v6 < ((ix a0 a1.toNat).OneOf).length)) <|
    chk (!(!v5) || decide (v6 < ((ix a0 a1.toNat).OneOf).length)) <|
    chk (nI (v6 + 1)) <|
    back (v5 || (decide (6 < ((ix ((ix a0 a1.toNat).OneOf) v6).length))), v6 + 1)
  else
    k1 v5
def agrafferef08_task (n : Nat) (a0 : List Task) (a1 : Int) : Option Int :=
  chk (inB a1 a0.length) <|
  chk (decide (a1.toNat < a0.length)) <|
  (agraffebase_IsName n ((ix a0 a1.toNat).Name)).bind fun y1 =>
  bif !y1 then
    some 4
  else
    chk (inC a1 a0.length) <|
    (agrafferef08_Find n (List.take a1.toNat a0) ((ix a0 a1.toNat).Name)).bind fun y2 =>
    bif decide ((0 : Int) ≤ y2) then
      some 5
    else
      (agraffebase_Within n ((ix a0 a1.toNat).Cents) 0 1000000000).bind fun y3 =>
      (gcall (!(!((decide (0 ≤ ((ix a0 a1.toNat).Cents))) && (decide (((ix a0 a1.toNat).Cents) ≤ 1000000000))))) (agraffebase_Within n ((ix a0 a1.toNat).Hours) 0 10000)).bind fun y4 =>
      bif (!((decide (0 ≤ ((ix a0 a1.toNat).Cents))) && (decide (((ix a0 a1.toNat).Cents) ≤ 1000000000)))) || (!((decide (0 ≤ ((ix a0 a1.toNat).Hours))) && (decide (((ix a0 a1.toNat).Hours) ≤ 10000)))) then
        some 2
      else
        withK (fun (v7 : Bool) =>
            bif v7 then
              some 8
            else
              (agrafferef08_tasks n a0 ((ix a0 a1.toNat).Needs)).bind fun y8 =>
              bif (y8 != (0 : Int)) then
                some y8
              else
                withK (fun (_ : Unit) =>
                    (agrafferef08_counts n ((ix a0 a1.toNat).Parts) 1000).bind fun y12 =>
                    some y12) fun k2 =>
                loopN (agrafferef08_task_L2 n a0 a1 k2) n 0) fun k1 =>
        loopN (agrafferef08_task_L1 a0 a1 k1) n (((decide (10 < (((ix a0 a1.toNat).Needs).length))) || (decide (6 < (((ix a0 a1.toNat).OneOf).length)))) || (decide (10 < (((ix a0 a1.toNat).Parts).length))), 0)
def agrafferef08_Leads_L1 (a0 : Task) (k1 : ((List Str) → Option (List Str))) (back : Nat × (List Str) → Option (List Str)) : Nat × (List Str) → Option (List Str)
  | (v2, v3) =>
  bif decide (v2 < a0.OneOf.length) then
    chk (room 16 (v3 ++ (ix a0.OneOf v2)).length) <|
    chk (nI (v2 + 1)) <|
    back (v2 + 1, (v3 ++ (ix a0.OneOf v2)))
  else
    k1 v3
def agrafferef08_Leads (n : Nat) (a0 : Task) : Option (List Str) :=
  (agraffebase_CopyTexts_2 n a0.Needs).bind fun y1 =>
  withK (fun (v4 : (List Str)) =>
      some v4) fun k1 =>
  loopN (agrafferef08_Leads_L1 a0 k1) n (0, a0.Needs)
def agraffebase_HasText_2_L1 (a0 : List Str) (a1 : Str) (k1 : (Unit → Option Bool)) (back : Nat → Option Bool) : Nat → Option Bool
  | v1 =>
  bif decide (v1 < a0.length) then
    bif ((ix a0 v1) == a1) then
      some true
    else
      chk (nI (v1 + 1)) <|
      back (v1 + 1)
  else
    k1 ()
def agraffebase_HasText_2 (n : Nat) (a0 : List Str) (a1 : Str) : Option Bool :=
  withK (fun (_ : Unit) =>
      some false) fun k1 =>
  loopN (agraffebase_HasText_2_L1 a0 a1 k1) n 0
def agrafferef08_Order_L1 (n : Nat) (a1 : List Str) (v26 : List Str) (y42 : (List Str)) (k1 : (Bool → Option (List Str))) (back : Bool × Nat → Option (List Str)) : Bool × Nat → Option (List Str)
  | (v45, v46) =>
  bif decide (v46 < y42.length) then
    (gcall v45 (agraffebase_HasText n a1 (ix y42 v46))).bind fun y47 =>
    (gcall (v45 && !(!y47)) (agraffebase_HasText_2 n v26 (ix y42 v46))).bind fun y48 =>
    chk (nI (v46 + 1)) <|
    back (v45 && ((!y47) || y48), v46 + 1)
  else
    k1 v45
def agrafferef08_Order_L2 (n : Nat) (a0 : List Task) (a1 : List Str) (v26 : List Str) (k3 : (Int → Option (List Str))) (back : Int × Nat → Option (List Str)) : Int × Nat → Option (List Str)
  | (v38, v39) =>
  bif (decide (v39 < a0.length)) && (decide (v38 < (0 : Int))) then
    withK (fun (v50 : Int) =>
        chk (nI (v39 + 1)) <|
        back (v50, v39 + 1)) fun k2 =>
    chk (decide (v39 < a0.length)) <|
    (agraffebase_HasText n a1 ((ix a0 v39).Name)).bind fun y40 =>
    (gcall (!(!y40)) (agraffebase_HasText_2 n v26 ((ix a0 v39).Name))).bind fun y41 =>
    bif (!y40) || y41 then
      k2 v38
    else
      (agrafferef08_Leads n (ix a0 v39)).bind fun y42 =>
      withK (fun (v49 : Bool) =>
          bif v49 then
            k2 ((v39 : Nat) : Int)
          else
            k2 v38) fun k1 =>
      loopN (agrafferef08_Order_L1 n a1 v26 y42 k1) n (true, 0)
  else
    k3 v38
def agrafferef08_Order_L3 (n : Nat) (a0 : List Task) (a1 : List Str) (back : (List Str) → Option (List Str)) : (List Str) → Option (List Str)
  | v26 =>
  withK (fun (v51 : Int) =>
      bif decide (v51 < (0 : Int)) then
        some v26
      else
        chk (inB v51 a0.length) <|
        chk (decide (v51.toNat < a0.length)) <|
        chk (room 16 (v26 ++ ([(ix a0 v51.toNat).Name] : List Str)).length) <|
        back (v26 ++ ([(ix a0 v51.toNat).Name] : List Str))) fun k3 =>
  loopN (agrafferef08_Order_L2 n a0 a1 v26 k3) n ((-1), 0)
def agrafferef08_Order (n : Nat) (a0 : List Task) (a1 : List Str) : Option (List Str) :=
  loopN (agrafferef08_Order_L3 n a0 a1) n ([] : List Str)
def agrafferef08_CheckTasks_L2 (a0 : List Task) (k2 : ((List Str) → Option Int)) (back : (List Str) × Nat → Option Int) : (List Str) × Nat → Option Int
  | (v4, v5) =>
  bif decide (v5 < a0.length) then
    chk (room 16 (v4 ++ ([(ix a0 v5).Name] : List Str)).length) <|
    chk (nI (v5 + 1)) <|
    back ((v4 ++ ([(ix a0 v5).Name] : List Str)), v5 + 1)
  else
    k2 v4
def agrafferef08_CheckTasks_L1 (n : Nat) (a0 : List Task) (k1 : (Unit → Option Int)) (back : Nat → Option Int) : Nat → Option Int
  | v2 =>
  bif decide (v2 < a0.length) then
    (agrafferef08_task n a0 ((v2 : Nat) : Int)).bind fun y3 =>
    bif (y3 != (0 : Int)) then
      some y3
    else
      chk (nI (v2 + 1)) <|
      back (v2 + 1)
  else
    k1 ()
def agrafferef08_CheckTasks (n : Nat) (a0 : List Task) : Option Int :=
  bif decide (60 < a0.length) then
    some 8
  else
    withK (fun (_ : Unit) =>
        withK (fun (v6 : (List Str)) =>
            (agrafferef08_Order n a0 v6).bind fun y7 =>
            bif decide (y7.length < a0.length) then
              some 21
            else
              some 0) fun k2 =>
        loopN (agrafferef08_CheckTasks_L2 a0 k2) n (([] : List Str), 0)) fun k1 =>
    loopN (agrafferef08_CheckTasks_L1 n a0 k1) n 0
def restore_stocked_f1 (n : Nat) (a0 : Stocked) (a1 : Str) : Option Unit :=
  some ()
def slices_IndexFunc_Stocked_L1 (n : Nat) (a0 : List Stocked) (a1 : Str) (k1 : (Unit → Option Int)) (back : Nat → Option Int) : Nat → Option Int
  | v2 =>
  bif decide (v2 < a0.length) then
    (restore_stocked_f1 n (ix a0 v2) a1).bind fun y3 =>
    bif ((ix a0 v2).Part == a1) then
      some ((v2 : Nat) : Int)
    else
      chk (nI (v2 + 1)) <|
      back (v2 + 1)
  else
    k1 ()
def slices_IndexFunc_Stocked (n : Nat) (a0 : List Stocked) (a1 : Str) : Option Int :=
  withK (fun (_ : Unit) =>
      some (-1)) fun k1 =>
  loopN (slices_IndexFunc_Stocked_L1 n a0 a1 k1) n 0
def restore_stocked (n : Nat) (a0 : List Stocked) (a1 : Str) : Option Int :=
  (slices_IndexFunc_Stocked n a0 a1).bind fun y1 =>
  some y1
def restore_CheckStock_L1 (n : Nat) (a0 : List Stocked) (k1 : (Unit → Option Int)) (back : Nat → Option Int) : Nat → Option Int
  | v5 =>
  bif decide (v5 < a0.length) then
    (restore_isName n ((ix a0 v5).Part)).bind fun y6 =>
    bif !y6 then
      some 4
    else
      chk (decide (v5 ≤ a0.length)) <|
      (restore_stocked n (List.take v5 a0) ((ix a0 v5).Part)).bind fun y7 =>
      bif decide ((0 : Int) ≤ y7) then
        some 5
      else
        (restore_within n ((ix a0 v5).Cents) 0 1000000000).bind fun y8 =>
        (gcall (!(!((decide (0 ≤ ((ix a0 v5).Cents))) && (decide (((ix a0 v5).Cents) ≤ 1000000000))))) (restore_within n ((ix a0 v5).Count) 0 10000)).bind fun y9 =>
        bif (!((decide (0 ≤ ((ix a0 v5).Cents))) && (decide (((ix a0 v5).Cents) ≤ 1000000000)))) || (!((decide (0 ≤ ((ix a0 v5).Count))) && (decide (((ix a0 v5).Count) ≤ 10000)))) then
          some 2
        else
          chk (nI (v5 + 1)) <|
          back (v5 + 1)
  else
    k1 ()
def restore_CheckStock (n : Nat) (a0 : List Stocked) : Option Int :=
  bif decide (60 < a0.length) then
    some 8
  else
    withK (fun (_ : Unit) =>
        some 0) fun k1 =>
    loopN (restore_CheckStock_L1 n a0 k1) n 0
def agrafferef08_FindStock_L1 (a0 : List Stocked) (a1 : Str) (k1 : (Unit → Option Int)) (back : Nat → Option Int) : Nat → Option Int
  | v1 =>
  bif decide (v1 < a0.length) then
    bif (((ix a0 v1).Part) == a1) then
      some ((v1 : Nat) : Int)
    else
      chk (nI (v1 + 1)) <|
      back (v1 + 1)
  else
    k1 ()
def agrafferef08_FindStock (n : Nat) (a0 : List Stocked) (a1 : Str) : Option Int :=
  withK (fun (_ : Unit) =>
      some (-1)) fun k1 =>
  loopN (agrafferef08_FindStock_L1 a0 a1 k1) n 0
def agrafferef08_CheckStock_L1 (n : Nat) (a0 : List Stocked) (k1 : (Unit → Option Int)) (back : Nat → Option Int) : Nat → Option Int
  | v5 =>
  bif decide (v5 < a0.length) then
    (agraffebase_IsName n ((ix a0 v5).Part)).bind fun y6 =>
    bif !y6 then
      some 4
    else
      chk (decide (v5 ≤ a0.length)) <|
      (agrafferef08_FindStock n (List.take v5 a0) ((ix a0 v5).Part)).bind fun y7 =>
      bif decide ((0 : Int) ≤ y7) then
        some 5
      else
        (agraffebase_Within n ((ix a0 v5).Cents) 0 1000000000).bind fun y8 =>
        (gcall (!(!((decide (0 ≤ ((ix a0 v5).Cents))) && (decide (((ix a0 v5).Cents) ≤ 1000000000))))) (agraffebase_Within n ((ix a0 v5).Count) 0 10000)).bind fun y9 =>
        bif (!((decide (0 ≤ ((ix a0 v5).Cents))) && (decide (((ix a0 v5).Cents) ≤ 1000000000)))) || (!((decide (0 ≤ ((ix a0 v5).Count))) && (decide (((ix a0 v5).Count) ≤ 10000)))) then
          some 2
        else
          chk (nI (v5 + 1)) <|
          back (v5 + 1)
  else
    k1 ()
def agrafferef08_CheckStock (n : Nat) (a0 : List Stocked) : Option Int :=
  bif decide (60 < a0.length) then
    some 8
  else
    withK (fun (_ : Unit) =>
        some 0) fun k1 =>
    loopN (agrafferef08_CheckStock_L1 n a0 k1) n 0
def restore_CheckFindings_f1 (n : Nat) (a0 : Finding) (a1 : Str) (a2 : List Str) : Option Unit :=
  some ()
def agrafferef08_CheckFindings_L1 (n : Nat) (a0 : List Task) (a1 : List Finding) (k1 : (Unit → Option Int)) (back : (List Str) × Nat → Option Int) : (List Str) × Nat → Option Int
  | (v5, v6) =>
  bif decide (v6 < a1.length) then
    (agraffebase_IsName n ((ix a1 v6).Name)).bind fun y7 =>
    bif !y7 then
      some 4
    else
      (agraffebase_HasText_2 n v5 ((ix a1 v6).Name)).bind fun y8 =>
      bif y8 then
        some 5
      else
        chk (room 16 (v5 ++ ([(ix a1 v6).Name] : List Str)).length) <|
        bif decide (20 < (((ix a1 v6).Tasks).length)) then
          some 8
        else
          (agrafferef08_tasks n a0 ((ix a1 v6).Tasks)).bind fun y9 =>
          bif (y9 != (0 : Int)) then
            some y9
          else
            chk (nI (v6 + 1)) <|
            back ((v5 ++ ([(ix a1 v6).Name] : List Str)), v6 + 1)
  else
    k1 ()
def agrafferef08_CheckFindings (n : Nat) (a0 : List Task) (a1 : List Finding) : Option Int :=
  (agrafferef08_CheckTasks n a0).bind fun y1 =>
  bif (y1 != (0 : Int)) then
    some y1
  else
    bif decide (40 < a1.length) then
      some 8
    else
      withK (fun (_ : Unit) =>
          some 0) fun k1 =>
      loopN (agrafferef08_CheckFindings_L1 n a0 a1 k1) n (([] : List Str), 0)
def restore_list_checkSet_L2 (a1 : List Str) (k2 : (Unit → Option Int)) (back : Nat → Option Int) : Nat → Option Int
  | v4 =>
  bif decide (v4 < a1.length) then
    chk (inI (((v4 : Nat) : Int) - 1)) <|
    chk (inB (((v4 : Nat) : Int) - 1) a1.length) <|
    chk (decide ((((v4 : Nat) : Int) - 1).toNat < a1.length)) <|
    bif (bLt (ix a1 v4) (ix a1 ((((v4 : Nat) : Int) - 1).toNat)) || ((ix a1 v4) == (ix a1 ((((v4 : Nat) : Int) - 1).toNat)))) then
      some 9
    else
      chk (nI (v4 + 1)) <|
      back (v4 + 1)
  else
    k2 ()
def restore_list_checkSet_L1 (n : Nat) (a0 : List Task) (a1 : List Str) (k1 : (Unit → Option Int)) (back : Nat → Option Int) : Nat → Option Int
  | v2 =>
  bif decide (v2 < a1.length) then
    (restore_list_find n a0 (ix a1 v2)).bind fun y3 =>
    bif decide (y3 < (0 : Int)) then
      some 6
    else
      chk (nI (v2 + 1)) <|
      back (v2 + 1)
  else
    k1 ()
def restore_list_checkSet (n : Nat) (a0 : List Task) (a1 : List Str) : Option Int :=
  withK (fun (_ : Unit) =>
      withK (fun (_ : Unit) =>
          some 0) fun k2 =>
      loopN (restore_list_checkSet_L2 a1 k2) n 1) fun k1 =>
  loopN (restore_list_checkSet_L1 n a0 a1 k1) n 0
def restore_checkSets_L1 (n : Nat) (a0 : List Task) (a1 : List (List Str)) (k1 : (Unit → Option Int)) (back : Nat → Option Int) : Nat → Option Int
  | v3 =>
  bif decide (v3 < a1.length) then
    (restore_list_checkSet n a0 (ix a1 v3)).bind fun y4 =>
    bif (y4 != (0 : Int)) then
      some y4
    else
      chk (nI (v3 + 1)) <|
      back (v3 + 1)
  else
    k1 ()
def restore_checkSets (n : Nat) (a0 : List Task) (a1 : List (List Str)) : Option Int :=
  (restore_CheckTasks n a0).bind fun y1 =>
  bif (y1 != (0 : Int)) then
    some y1
  else
    withK (fun (_ : Unit) =>
        some 0) fun k1 =>
    loopN (restore_checkSets_L1 n a0 a1 k1) n 0
def slices_Sort_string (n : Nat) (a0 : List Str) : Option (List Str) :=
  chk (decide (a0.length < 4611686018427387904)) <|
  some (sortL a0)
def agrafferef08_CheckSet_L2 (a1 : List Str) (k2 : (Unit → Option Int)) (back : Nat → Option Int) : Nat → Option Int
  | v4 =>
  bif decide (v4 < a1.length) then
    chk (inI (((v4 : Nat) : Int) - 1)) <|
    chk (inB (((v4 : Nat) : Int) - 1) a1.length) <|
    chk (decide ((((v4 : Nat) : Int) - 1).toNat < a1.length)) <|
    bif !bLt (ix a1 ((((v4 : Nat) : Int) - 1).toNat)) (ix a1 v4) then
      some 9
    else
      chk (nI (v4 + 1)) <|
      back (v4 + 1)
  else
    k2 ()
def agrafferef08_CheckSet_L1 (n : Nat) (a0 : List Task) (a1 : List Str) (k1 : (Unit → Option Int)) (back : Nat → Option Int) : Nat → Option Int
  | v2 =>
  bif decide (v2 < a1.length) then
    (agrafferef08_Find n a0 (ix a1 v2)).bind fun y3 =>
    bif decide (y3 < (0 : Int)) then
      some 6
    else
      chk (nI (v2 + 1)) <|
      back (v2 + 1)
  else
    k1 ()
def agrafferef08_CheckSet (n : Nat) (a0 : List Task) (a1 : List Str) : Option Int :=
  withK (fun (_ : Unit) =>
      withK (fun (_ : Unit) =>
          some 0) fun k2 =>
      loopN (agrafferef08_CheckSet_L2 a1 k2) n 1) fun k1 =>
  loopN (agrafferef08_CheckSet_L1 n a0 a1 k1) n 0
def agrafferef08_Put_L1 (a0 : List Str) (a1 : Str) (k2 : (Bool × (List Str) → Option (List Str))) (back : (List Str) × Bool × Nat → Option (List Str)) : (List Str) × Bool × Nat → Option (List Str)
  | (v3, v4, v5) =>
  bif decide (v5 < a0.length) then
    withK (fun (v6, v7) =>
        chk (room 16 (v6 ++ ([(ix a0 v5)] : List Str)).length) <|
        chk (nI (v5 + 1)) <|
        back ((v6 ++ ([(ix a0 v5)] : List Str)), v7, v5 + 1)) fun k1 =>
    bif (!v4) && (!bLt (ix a0 v5) a1) then
      bif !((ix a0 v5) == a1) then
        chk (room 16 (v3 ++ ([a1] : List Str)).length) <|
        k1 ((v3 ++ ([a1] : List Str)), true)
      else
        k1 (v3, true)
    else
      k1 (v3, v4)
  else
    k2 (v4, v3)
def agrafferef08_Put (n : Nat) (a0 : List Str) (a1 : Str) : Option (List Str) :=
  withK (fun (v8, v9) =>
      withK (fun (v10 : (List Str)) =>
          some v10) fun k3 =>
      bif !v8 then
        chk (room 16 (v9 ++ ([a1] : List Str)).length) <|
        k3 (v9 ++ ([a1] : List Str))
      else
        k3 v9) fun k2 =>
  loopN (agrafferef08_Put_L1 a0 a1 k2) n (([] : List Str), false, 0)
def restore_costOf_L1 (n : Nat) (a0 : Task) (a1 : List Stocked) (k1 : (Int → Option (Int × Bool))) (back : Int × Nat → Option (Int × Bool)) : Int × Nat → Option (Int × Bool)
  | (v2, v3) =>
  bif decide (v3 < a0.Parts.length) then
    (restore_stocked n a1 ((ix a0.Parts v3).Part)).bind fun y4 =>
    bif decide (y4 < (0 : Int)) then
      some (0, false)
    else
      chk (inB y4 a1.length) <|
      chk (decide (y4.toNat < a1.length)) <|
      chk (inI (((ix a0.Parts v3).Count) * ((ix a1 y4.toNat).Cents))) <|
      chk (inI (v2 + (((ix a0.Parts v3).Count) * ((ix a1 y4.toNat).Cents)))) <|
      chk (nI (v3 + 1)) <|
      back (v2 + (((ix a0.Parts v3).Count) * ((ix a1 y4.toNat).Cents)), v3 + 1)
  else
    k1 v2
def restore_costOf (n : Nat) (a0 : Task) (a1 : List Stocked) : Option (Int × Bool) :=
  withK (fun (v5 : Int) =>
      some (v5, true)) fun k1 =>
  loopN (restore_costOf_L1 n a0 a1 k1) n (a0.Cents, 0)
def math_bits_Len64 (n : Nat) (a0 : Int) : Option Int :=
  withK (fun (v1, v2) =>
      withK (fun (v3, v4) =>
          withK (fun (v5, v6) =>
              chk (inB (IntKind.u8.wrap v5) (([0, 1, 2, 2, 3, 3, 3, 3, 4, 4, 4, 4, 4, 4, 4, 4, 5, 5, 5, 5, 5, 5, 5, 5, 5, 5, 5, 5, 5, 5, 5, 5, 6, 6, 6, 6, 6, 6, 6, 6, 6, 6, 6, 6, 6, 6, 6, 6, 6, 6, 6, 6, 6, 6, 6, 6, 6, 6, 6, 6, 6, 6, 6, 6, 7, 7, 7, 7, 7, 7, 7, 7, 7, 7, 7, 7, 7, 7, 7, 7, 7, 7, 7, 7, 7, 7, 7, 7, 7, 7, 7, 7, 7, 7, 7, 7, 7, 7, 7, 7, 7, 7, 7, 7, 7, 7, 7, 7, 7, 7, 7, 7, 7, 7, 7, 7, 7, 7, 7, 7, 7, 7, 7, 7, 7, 7, 7, 7, 8, 8, 8, 8, 8, 8, 8, 8, 8, 8, 8, 8, 8, 8, 8, 8, 8, 8, 8, 8, 8, 8, 8, 8, 8, 8, 8, 8, 8, 8, 8, 8, 8, 8, 8, 8, 8, 8, 8, 8, 8, 8, 8, 8, 8, 8, 8, 8, 8, 8, 8, 8, 8, 8, 8, 8, 8, 8, 8, 8, 8, 8, 8, 8, 8, 8, 8, 8, 8, 8, 8, 8, 8, 8, 8, 8, 8, 8, 8, 8, 8, 8, 8, 8, 8, 8, 8, 8, 8, 8, 8, 8, 8, 8, 8, 8, 8, 8, 8, 8, 8, 8, 8, 8, 8, 8, 8, 8, 8, 8, 8, 8, 8, 8, 8, 8, 8, 8, 8, 8, 8, 8, 8, 8, 8, 8, 8, 8] : Str).length)) <|
              chk (inI (v6 + (((List.getD ([0, 1, 2, 2, 3, 3, 3, 3, 4, 4, 4, 4, 4, 4, 4, 4, 5, 5, 5, 5, 5, 5, 5, 5, 5, 5, 5, 5, 5, 5, 5, 5, 6, 6, 6, 6, 6, 6, 6, 6, 6, 6, 6, 6, 6, 6, 6, 6, 6, 6, 6, 6, 6, 6, 6, 6, 6, 6, 6, 6, 6, 6, 6, 6, 7, 7, 7, 7, 7, 7, 7, 7, 7, 7, 7, 7, 7, 7, 7, 7, 7, 7, 7, 7, 7, 7, 7, 7, 7, 7, 7, 7, 7, 7, 7, 7, 7, 7, 7, 7, 7, 7, 7, 7, 7, 7, 7, 7, 7, 7, 7, 7, 7, 7, 7, 7, 7, 7, 7, 7, 7, 7, 7, 7, 7, 7, 7, 7, 8, 8, 8, 8, 8, 8, 8, 8, 8, 8, 8, 8, 8, 8, 8, 8, 8, 8, 8, 8, 8, 8, 8, 8, 8, 8, 8, 8, 8, 8, 8, 8, 8, 8, 8, 8, 8, 8, 8, 8, 8, 8, 8, 8, 8, 8, 8, 8, 8, 8, 8, 8, 8, 8, 8, 8, 8, 8, 8, 8, 8, 8, 8, 8, 8, 8, 8, 8, 8, 8, 8, 8, 8, 8, 8, 8, 8, 8, 8, 8, 8, 8, 8, 8, 8, 8, 8, 8, 8, 8, 8, 8, 8, 8, 8, 8, 8, 8, 8, 8, 8, 8, 8, 8, 8, 8, 8, 8, 8, 8, 8, 8, 8, 8, 8, 8, 8, 8, 8, 8, 8, 8, 8, 8, 8, 8, 8, 8] : Str) ((IntKind.u8.wrap v5).toNat) 0).toNat : Nat) : Int))) <|
              some (v6 + (((List.getD ([0, 1, 2, 2, 3, 3, 3, 3, 4, 4, 4, 4, 4, 4, 4, 4, 5, 5, 5, 5, 5, 5, 5, 5, 5, 5, 5, 5, 5, 5, 5, 5, 6, 6, 6, 6, 6, 6, 6, 6, 6, 6, 6, 6, 6, 6, 6, 6, 6, 6, 6, 6, 6, 6, 6, 6, 6, 6, 6, 6, 6, 6, 6, 6, 7, 7, 7, 7, 7, 7, 7, 7, 7, 7, 7, 7, 7, 7, 7, 7, 7, 7, 7, 7, 7, 7, 7, 7, 7, 7, 7, 7, 7, 7, 7, 7, 7, 7, 7, 7, 7, 7, 7, 7, 7, 7, 7, 7, 7, 7, 7, 7, 7, 7, 7, 7, 7, 7, 7, 7, 7, 7, 7, 7, 7, 7, 7, 7, 8, 8, 8, 8, 8, 8, 8, 8, 8, 8, 8, 8, 8, 8, 8, 8, 8, 8, 8, 8, 8, 8, 8, 8, 8, 8, 8, 8, 8, 8, 8, 8, 8, 8, 8, 8, 8, 8, 8, 8, 8, 8, 8, 8, 8, 8, 8, 8, 8, 8, 8, 8, 8, 8, 8, 8, 8, 8, 8, 8, 8, 8, 8, 8, 8, 8, 8, 8, 8, 8, 8, 8, 8, 8, 8, 8, 8, 8, 8, 8, 8, 8, 8, 8, 8, 8, 8, 8, 8, 8, 8, 8, 8, 8, 8, 8, 8, 8, 8, 8, 8, 8, 8, 8, 8, 8, 8, 8, 8, 8, 8, 8, 8, 8, 8, 8, 8, 8, 8, 8, 8, 8, 8, 8, 8, 8, 8, 8] : Str) ((IntKind.u8.wrap v5).toNat) 0).toNat : Nat) : Int))) fun k3 =>
          bif decide ((256 : Int) ≤ v3) then
            chk (inI (v4 + 8)) <|
            k3 (Int.fdiv v3 (2 ^ (min 8 64)), v4 + 8)
          else
            k3 (v3, v4)) fun k2 =>
      bif decide ((65536 : Int) ≤ v1) then
        chk (inI (v2 + 16)) <|
        k2 (Int.fdiv v1 (2 ^ (min 16 64)), v2 + 16)
      else
        k2 (v1, v2)) fun k1 =>
  bif decide ((4294967296 : Int) ≤ a0) then
    k1 (Int.fdiv a0 (2 ^ (min 32 64)), 32)
  else
    k1 (a0, 0)
def math_bits_Len (n : Nat) (a0 : Int) : Option Int :=
  (math_bits_Len64 n a0).bind fun y1 =>
  some y1
def cmp_isNaN_string (n : Nat) (a0 : Str) : Option Unit :=
  some ()
def cmp_Compare_string (n : Nat) (a0 : Str) (a1 : Str) : Option Int :=
  (cmp_isNaN_string n a0).bind fun y1 =>
  (cmp_isNaN_string n a1).bind fun y2 =>
  bif !(a0 == a0) then
    bif !(a1 == a1) then
      some 0
    else
      some (-1)
  else
    bif !(a1 == a1) then
      some 1
    else
      bif bLt a0 a1 then
        some (-1)
      else
        bif !(bLt a0 a1 || (a0 == a1)) then
          some 1
        else
          some 0
def restore_PartsOf_f1 (n : Nat) (a0 : PartCount) (a1 : PartCount) : Option Int :=
  (cmp_Compare_string n a0.Part a1.Part).bind fun y1 =>
  some y1
def slices_insertionSortCmpFunc_PartCount_L1 (n : Nat) (a1 : Int) (k1 : ((List PartCount) → Option (List PartCount))) (back : Int × (List PartCount) → Option (List PartCount)) : Int × (List PartCount) → Option (List PartCount)
  | (v9, v10) =>
  chk (!(decide (a1 < v9)) || inB v9 v10.length) <|
  chk (!(decide (a1 < v9)) || decide (v9.toNat < v10.length)) <|
  chk (!(decide (a1 < v9)) || inI (v9 - 1)) <|
  chk (!(decide (a1 < v9)) || inB (v9 - 1) v10.length) <|
  chk (!(decide (a1 < v9)) || decide ((v9 - 1).toNat < v10.length)) <|
  (gcall (decide (a1 < v9)) (restore_PartsOf_f1 n (ix v10 v9.toNat) (ix v10 ((v9 - 1).toNat)))).bind fun y11 =>
  bif (decide (a1 < v9)) && (decide (y11 < (0 : Int))) then
    chk (inI (v9 - 1)) <|
    chk (inB (v9 - 1) v10.length) <|
    chk (decide ((v9 - 1).toNat < v10.length)) <|
    chk (inB v9 v10.length) <|
    chk (decide (v9.toNat < v10.length)) <|
    chk (decide ((v9 - 1).toNat < (List.set v10 v9.toNat (ix v10 ((v9 - 1).toNat))).length)) <|
    back (v9 - 1, (List.set (List.set v10 v9.toNat (ix v10 ((v9 - 1).toNat))) ((v9 - 1).toNat) (ix v10 v9.toNat)))
  else
    k1 v10
def slices_insertionSortCmpFunc_PartCount_L2 (n : Nat) (a1 : Int) (a2 : Int) (back : Int × (List PartCount) → Option (List PartCount)) : Int × (List PartCount) → Option (List PartCount)
  | (v6, v7) =>
  bif decide (v6 < a2) then
    withK (fun (v12 : (List PartCount)) =>
        chk (inI (v6 + 1)) <|
        back (v6 + 1, v12)) fun k1 =>
    loopN (slices_insertionSortCmpFunc_PartCount_L1 n a1 k1) n (v6, v7)
  else
    some v7
def slices_insertionSortCmpFunc_PartCount (n : Nat) (a0 : List PartCount) (a1 : Int) (a2 : Int) : Option (List PartCount) :=
  chk (inI (a1 + 1)) <|
  loopN (slices_insertionSortCmpFunc_PartCount_L2 n a1 a2) n (a1 + 1, a0)
def slices_pdqsortCmpFunc_PartCount_L1 (n : Nat) (a0 : List PartCount) (a1 : Int) (a2 : Int) (a3 : Int) (back : Unit → Option (List PartCount)) : Unit → Option (List PartCount)
  | _ =>
  chk (inI (a2 - a1)) <|
  bif decide ((a2 - a1) ≤ (12 : Int)) then
    (slices_insertionSortCmpFunc_PartCount n a0 a1 a2).bind fun y1 =>
    chk (decide (a0.length = y1.length)) <|
    some y1
  else
    bif (a3 == (0 : Int)) then
      none
    else
      none
def slices_pdqsortCmpFunc_PartCount (n : Nat) (a0 : List PartCount) (a1 : Int) (a2 : Int) (a3 : Int) : Option (List PartCount) :=
  loopN (slices_pdqsortCmpFunc_PartCount_L1 n a0 a1 a2 a3) n ()
def slices_SortFunc_PartCount (n : Nat) (a0 : List PartCount) : Option (List PartCount) :=
  (math_bits_Len n (IntKind.u64.wrap ((a0.length : Nat) : Int))).bind fun y1 =>
  (slices_pdqsortCmpFunc_PartCount n a0 0 ((a0.length : Nat) : Int) y1).bind fun y2 =>
  chk (decide (a0.length = y2.length)) <|
  some y2
noncomputable def restore_PartsOf_L3 (k3 : ((List PartCount) → Option (Int × (List PartCount)))) (back : (List PartCount) × (Option (Str × Int)) × (List (Str × Int)) → Option (Int × (List PartCount))) : (List PartCount) × (Option (Str × Int)) × (List (Str × Int)) → Option (Int × (List PartCount))
  | (v15, v16, v17) =>
  bif decide (v17.length = 0) then
    k3 v15
  else
    pickK v17 fun j18 x19 =>
    chk (room 24 (v15 ++ ([(PartCount.mk x19.1 x19.2)] : List PartCount)).length) <|
    back ((v15 ++ ([(PartCount.mk x19.1 x19.2)] : List PartCount)), (some x19), (List.eraseIdx v17 j18))
def restore_PartsOf_L1 (a0 : List Task) (y8 : Int) (k1 : ((List (Str × Int)) → Option (Int × (List PartCount)))) (back : Nat × (List (Str × Int)) → Option (Int × (List PartCount))) : Nat × (List (Str × Int)) → Option (Int × (List PartCount))
  | (v9, v10) =>
  bif decide (v9 < (((ix a0 y8.toNat).Parts).length)) then
    chk (decide (v9 < ((ix a0 y8.toNat).Parts).length)) <|
    chk (inI ((Option.getD (List.lookup ((ix ((ix a0 y8.toNat).Parts) v9).Part) v10) (0 : Int)) + ((ix ((ix a0 y8.toNat).Parts) v9).Count))) <|
    chk (nI (v9 + 1)) <|
    back (v9 + 1, (mPut ((ix ((ix a0 y8.toNat).Parts) v9).Part) ((Option.getD (List.lookup ((ix ((ix a0 y8.toNat).Parts) v9).Part) v10) (0 : Int)) + ((ix ((ix a0 y8.toNat).Parts) v9).Count)) v10))
  else
    k1 v10
def restore_PartsOf_L2 (n : Nat) (a0 : List Task) (a1 : List Str) (k2 : ((List (Str × Int)) → Option (Int × (List PartCount)))) (back : Nat × (List (Str × Int)) → Option (Int × (List PartCount))) : Nat × (List (Str × Int)) → Option (Int × (List PartCount))
  | (v6, v7) =>
  bif decide (v6 < a1.length) then
    withK (fun (v11 : (List (Str × Int))) =>
        chk (nI (v6 + 1)) <|
        back (v6 + 1, v11)) fun k1 =>
    (restore_list_find n a0 (ix a1 v6)).bind fun y8 =>
    chk (inB y8 a0.length) <|
    chk (decide (y8.toNat < a0.length)) <|
    loopN (restore_PartsOf_L1 a0 y8 k1) n (0, v7)
  else
    k2 v7
noncomputable def restore_PartsOf (n : Nat) (a0 : List Task) (a1 : List Str) : Option (Int × (List PartCount)) :=
  (restore_checkSets n a0 ([a1] : List (List Str))).bind fun y1 =>
  bif (y1 != (0 : Int)) then
    some (y1, ([] : List PartCount))
  else
    withK (fun (v12 : (List (Str × Int))) =>
        withK (fun (v20 : (List PartCount)) =>
            (slices_SortFunc_PartCount n v20).bind fun y21 =>
            chk (decide (v20.length = y21.length)) <|
            some (0, y21)) fun k3 =>
        loopN (restore_PartsOf_L3 k3) n (([] : List PartCount), none, v12)) fun k2 =>
    loopN (restore_PartsOf_L2 n a0 a1 k2) n (0, ([] : List (Str × Int)))
def restore_list_bits_L1 (n : Nat) (a0 : List Task) (a1 : List Str) (k1 : (Int → Option Int)) (back : Int × Nat → Option Int) : Int × Nat → Option Int
  | (v2, v3) =>
  bif decide (v3 < a1.length) then
    (restore_list_find n a0 (ix a1 v3)).bind fun y4 =>
    chk (decide (0 ≤ y4)) <|
    chk (nI (v3 + 1)) <|
    back (iOr .u64 v2 (IntKind.u64.wrap (1 * 2 ^ (min y4.toNat 64))), v3 + 1)
  else
    k1 v2
def restore_list_bits (n : Nat) (a0 : List Task) (a1 : List Str) : Option Int :=
  withK (fun (v5 : Int) =>
      some v5) fun k1 =>
  loopN (restore_list_bits_L1 n a0 a1 k1) n (0, 0)
def restore_choice_closed_f1 (n : Nat) (a0 : Int) (a1 : Int) : Option Unit :=
  some ()
def slices_IndexFunc_bitset_L1 (n : Nat) (a0 : List Int) (a1 : Int) (k1 : (Unit → Option Int)) (back : Nat → Option Int) : Nat → Option Int
  | v2 =>
  bif decide (v2 < a0.length) then
    (restore_choice_closed_f1 n (ix a0 v2) a1).bind fun y3 =>
    bif ((iAnd .u64 (ix a0 v2) a1) == (0 : Int)) then
      some ((v2 : Nat) : Int)
    else
      chk (nI (v2 + 1)) <|
      back (v2 + 1)
  else
    k1 ()
def slices_IndexFunc_bitset (n : Nat) (a0 : List Int) (a1 : Int) : Option Int :=
  withK (fun (_ : Unit) =>
      some (-1)) fun k1 =>
  loopN (slices_IndexFunc_bitset_L1 n a0 a1 k1) n 0
def slices_ContainsFunc_bitset (n : Nat) (a0 : List Int) (a1 : Int) : Option Bool :=
  (slices_IndexFunc_bitset n a0 a1).bind fun y1 =>
  some (decide ((0 : Int) ≤ y1))
def restore_choice_closed_L1 (n : Nat) (a0 : List Int) (a1 : List (List Int)) (a3 : Int) (k2 : (Unit → Option Bool)) (back : Nat → Option Bool) : Nat → Option Bool
  | v2 =>
  bif decide (v2 < a0.length) then
    withK (fun (_ : Unit) =>
        chk (nI (v2 + 1)) <|
        back (v2 + 1)) fun k1 =>
    chk (decide (0 ≤ ((v2 : Nat) : Int))) <|
    bif ((iAnd .u64 (Int.fdiv a3 (2 ^ (min ((v2 : Nat) : Int).toNat 64))) 1) == (0 : Int)) then
      k1 ()
    else
      chk (!(!((iAndNot .u64 (ix a0 v2) a3) != (0 : Int))) || decide (v2 < a1.length)) <|
      chk (!(!((iAndNot .u64 (ix a0 v2) a3) != (0 : Int))) || decide (v2 < a1.length)) <|
      (gcall (!((iAndNot .u64 (ix a0 v2) a3) != (0 : Int))) (slices_ContainsFunc_bitset n (ix a1 v2) a3)).bind fun y3 =>
      bif ((iAndNot .u64 (ix a0 v2) a3) != (0 : Int)) || y3 then
        some false
      else
        k1 ()
  else
    k2 ()
def restore_choice_closed (n : Nat) (a0 : List Int) (a1 : List (List Int)) (a2 : List Int) (a3 : Int) : Option Bool :=
  withK (fun (_ : Unit) =>
      some true) fun k2 =>
  loopN (restore_choice_closed_L1 n a0 a1 a3 k2) n 0
def restore_list_names_L1 (a0 : List Task) (a1 : Int) (k2 : ((List Str) → Option (List Str))) (back : (List Str) × Nat → Option (List Str)) : (List Str) × Nat → Option (List Str)
  | (v2, v3) =>
  bif decide (v3 < a0.length) then
    withK (fun (v4 : (List Str)) =>
        chk (nI (v3 + 1)) <|
        back (v4, v3 + 1)) fun k1 =>
    chk (decide (0 ≤ ((v3 : Nat) : Int))) <|
    bif ((iAnd .u64 (Int.fdiv a1 (2 ^ (min ((v3 : Nat) : Int).toNat 64))) 1) != (0 : Int)) then
      chk (room 16 (v2 ++ ([(ix a0 v3).Name] : List Str)).length) <|
      k1 (v2 ++ ([(ix a0 v3).Name] : List Str))
    else
      k1 v2
  else
    k2 v2
def restore_list_names (n : Nat) (a0 : List Task) (a1 : Int) : Option (List Str) :=
  withK (fun (v5 : (List Str)) =>
      (slices_Sort_string n v5).bind fun y6 =>
      chk (decide (v5.length = y6.length)) <|
      some y6) fun k2 =>
  loopN (restore_list_names_L1 a0 a1 k2) n (([] : List Str), 0)
def cmp_isNaN_int (n : Nat) (a0 : Int) : Option Unit :=
  some ()
def cmp_Compare_int (n : Nat) (a0 : Int) (a1 : Int) : Option Int :=
  (cmp_isNaN_int n a0).bind fun y1 =>
  (cmp_isNaN_int n a1).bind fun y2 =>
  bif (a0 != a0) then
    bif (a1 != a1) then
      some 0
    else
      some (-1)
  else
    bif (a1 != a1) then
      some 1
    else
      bif decide (a0 < a1) then
        some (-1)
      else
        bif decide (a1 < a0) then
          some 1
        else
          some 0
def slices_Compare_string_L1 (n : Nat) (a0 : List Str) (a1 : List Str) (k1 : (Unit → Option Int)) (back : Nat → Option Int) : Nat → Option Int
  | v2 =>
  bif decide (v2 < a0.length) then
    bif decide (a1.length ≤ v2) then
      some 1
    else
      chk (decide (v2 < a1.length)) <|
      (cmp_Compare_string n (ix a0 v2) (ix a1 v2)).bind fun y3 =>
      bif (y3 != (0 : Int)) then
        some y3
      else
        chk (nI (v2 + 1)) <|
        back (v2 + 1)
  else
    k1 ()
def slices_Compare_string (n : Nat) (a0 : List Str) (a1 : List Str) : Option Int :=
  withK (fun (_ : Unit) =>
      bif decide (a0.length < a1.length) then
        some (-1)
      else
        some 0) fun k1 =>
  loopN (slices_Compare_string_L1 n a0 a1 k1) n 0
def cmp_Or_int_L1 (a0 : List Int) (k1 : (Unit → Option Int)) (back : Nat → Option Int) : Nat → Option Int
  | v1 =>
  bif decide (v1 < a0.length) then
    bif ((ix a0 v1) != (0 : Int)) then
      some (ix a0 v1)
    else
      chk (nI (v1 + 1)) <|
      back (v1 + 1)
  else
    k1 ()
def cmp_Or_int (n : Nat) (a0 : List Int) : Option Int :=
  withK (fun (_ : Unit) =>
      some 0) fun k1 =>
  loopN (cmp_Or_int_L1 a0 k1) n 0
def restore_Cheapest_L4 (v8 : List Int) (v46 : Int) (k5 : (Int → Option (Int × (List Str) × Int))) (back : Int × Nat → Option (Int × (List Str) × Int)) : Int × Nat → Option (Int × (List Str) × Int)
  | (v49, v50) =>
  bif decide (v50 < v8.length) then
    withK (fun (v51 : Int) =>
        chk (nI (v50 + 1)) <|
        back (v51, v50 + 1)) fun k4 =>
    chk (decide (0 ≤ ((v50 : Nat) : Int))) <|
    bif ((iAnd .u64 (Int.fdiv v46 (2 ^ (min ((v50 : Nat) : Int).toNat 64))) 1) != (0 : Int)) then
      chk (inI (v49 + (ix v8 v50))) <|
      k4 (v49 + (ix v8 v50))
    else
      k4 v49
  else
    k5 v49
def restore_Cheapest_L5 (n : Nat) (a0 : List Task) (v8 : List Int) (v24 : List (List Int)) (v25 : List Int) (y26 : Int) (k8 : ((List Str) × Int → Option (Int × (List Str) × Int))) (back : (List Str) × Int × Int → Option (Int × (List Str) × Int)) : (List Str) × Int × Int → Option (Int × (List Str) × Int)
  | (v44, v45, v46) =>
  bif decide (v46 < (IntKind.u64.wrap (1 * 2 ^ (min ((a0.length : Nat) : Int).toNat 64)))) then
    withK (fun (v62, v63) =>
        back (v62, v63, IntKind.u64.wrap (v46 + 1))) fun k7 =>
    (gcall (!((iAndNot .u64 y26 v46) != (0 : Int))) (restore_choice_closed n v25 v24 v8 v46)).bind fun y47 =>
    bif ((iAndNot .u64 y26 v46) != (0 : Int)) || (!y47) then
      k7 (v44, v45)
    else
      withK (fun (v52 : Int) =>
          (restore_list_names n a0 v46).bind fun y53 =>
          withK (fun (v60 : Bool) =>
              bif v60 then
                k7 (y53, v52)
              else
                k7 (v44, v45)) fun k6 =>
          (gcall (!(decide (v45 < (0 : Int)))) (cmp_Compare_int n v52 v45)).bind fun y54 =>
          (gcall (!(decide (v45 < (0 : Int)))) (cmp_Compare_int n ((y53.length : Nat) : Int) ((v44.length : Nat) : Int))).bind fun y55 =>
          (gcall (!(decide (v45 < (0 : Int)))) (slices_Compare_string n y53 v44)).bind fun y56 =>
          bif !(decide (v45 < (0 : Int))) then
            (cmp_Or_int n ([y54, y55, y56] : List Int)).bind fun y57 =>
            k6 ((decide (v45 < (0 : Int))) || (decide (y57 < (0 : Int))))
          else
            k6 ((decide (v45 < (0 : Int))) || false)) fun k5 =>
      loopN (restore_Cheapest_L4 v8 v46 k5) n (0, 0)
  else
    k8 (v44, v45)
def restore_Cheapest_L2 (n : Nat) (a0 : List Task) (v15 : Nat) (k2 : ((List Int) → Option (Int × (List Str) × Int))) (back : (List Int) × Nat → Option (Int × (List Str) × Int)) : (List Int) × Nat → Option (Int × (List Str) × Int)
  | (v19, v20) =>
  bif decide (v20 < (((ix a0 v15).OneOf).length)) then
    chk (decide (v20 < ((ix a0 v15).OneOf).length)) <|
    (restore_list_bits n a0 (ix ((ix a0 v15).OneOf) v20)).bind fun y21 =>
    chk (room 8 (v19 ++ ([y21] : List Int)).length) <|
    chk (nI (v20 + 1)) <|
    back ((v19 ++ ([y21] : List Int)), v20 + 1)
  else
    k2 v19
def restore_Cheapest_L3 (n : Nat) (a0 : List Task) (k3 : ((List (List Int)) × (List Int) → Option (Int × (List Str) × Int))) (back : Nat × (List Int) × (List (List Int)) → Option (Int × (List Str) × Int)) : Nat × (List Int) × (List (List Int)) → Option (Int × (List Str) × Int)
  | (v15, v16, v17) =>
  bif decide (v15 < a0.length) then
    withK (fun (v22 : (List Int)) =>
        (restore_list_bits n a0 ((ix a0 v15).Needs)).bind fun y23 =>
        chk (room 8 (v16 ++ ([y23] : List Int)).length) <|
        chk (room 24 (v17 ++ ([v22] : List (List Int))).length) <|
        chk (nI (v15 + 1)) <|
        back (v15 + 1, (v16 ++ ([y23] : List Int)), (v17 ++ ([v22] : List (List Int))))) fun k2 =>
    loopN (restore_Cheapest_L2 n a0 v15 k2) n (([] : List Int), 0)
  else
    k3 (v17, v16)
def restore_Cheapest_L1 (n : Nat) (a0 : List Task) (a1 : List Stocked) (k1 : ((List Int) → Option (Int × (List Str) × Int))) (back : Nat × (List Int) → Option (Int × (List Str) × Int)) : Nat × (List Int) → Option (Int × (List Str) × Int)
  | (v5, v6) =>
  bif decide (v5 < a0.length) then
    (restore_costOf n (ix a0 v5) a1).bind fun y7 =>
    bif !y7.2 then
      some (6, ([] : List Str), 0)
    else
      chk (room 8 (v6 ++ ([y7.1] : List Int)).length) <|
      chk (nI (v5 + 1)) <|
      back (v5 + 1, (v6 ++ ([y7.1] : List Int)))
  else
    k1 v6
def restore_Cheapest (n : Nat) (a0 : List Task) (a1 : List Stocked) (a2 : List Str) : Option (Int × (List Str) × Int) :=
  (restore_CheckTasks n a0).bind fun y1 =>
  bif (y1 != (0 : Int)) then
    some (y1, ([] : List Str), 0)
  else
    (restore_CheckStock n a1).bind fun y2 =>
    bif (y2 != (0 : Int)) then
      some (y2, ([] : List Str), 0)
    else
      (restore_list_checkSet n a0 a2).bind fun y3 =>
      bif (y3 != (0 : Int)) then
        some (y3, ([] : List Str), 0)
      else
        withK (fun (v8 : (List Int)) =>
            bif decide (14 < a0.length) then
              some (8, ([] : List Str), 0)
            else
              withK (fun (v24, v25) =>
                  (restore_list_bits n a0 a2).bind fun y26 =>
                  withK (fun (v64, v65) =>
                      some (0, v64, v65)) fun k8 =>
                  chk (decide (0 ≤ ((a0.length : Nat) : Int))) <|
                  loopN (restore_Cheapest_L5 n a0 v8 v24 v25 y26 k8) n (([] : List Str), (-1), 0)) fun k3 =>
              loopN (restore_Cheapest_L3 n a0 k3) n (0, ([] : List Int), ([] : List (List Int)))) fun k1 =>
        loopN (restore_Cheapest_L1 n a0 a1 k1) n (0, ([] : List Int))
def slices_IndexFunc_Finding_2_L1 (n : Nat) (a0 : List Finding) (a1 : Str) (a2 : List Str) (k1 : (Unit → Option Int)) (back : Nat → Option Int) : Nat → Option Int
  | v2 =>
  bif decide (v2 < a0.length) then
    (restore_CheckFindings_f1 n (ix a0 v2) a1 a2).bind fun y3 =>
    bif ((ix a0 v2).Name == a1) then
      some ((v2 : Nat) : Int)
    else
      chk (nI (v2 + 1)) <|
      back (v2 + 1)
  else
    k1 ()
def slices_IndexFunc_Finding_2 (n : Nat) (a0 : List Finding) (a1 : Str) (a2 : List Str) : Option Int :=
  withK (fun (_ : Unit) =>
      some (-1)) fun k1 =>
  loopN (slices_IndexFunc_Finding_2_L1 n a0 a1 a2 k1) n 0
def slices_ContainsFunc_Finding_2 (n : Nat) (a0 : List Finding) (a1 : Str) (a2 : List Str) : Option Bool :=
  (slices_IndexFunc_Finding_2 n a0 a1 a2).bind fun y1 =>
  some (decide ((0 : Int) ≤ y1))
def restore_CheckFindings_2_L1 (n : Nat) (a0 : List Task) (a1 : List Finding) (k1 : (Unit → Option Int)) (back : Nat → Option Int) : Nat → Option Int
  | v5 =>
  bif decide (v5 < a1.length) then
    (restore_isName n ((ix a1 v5).Name)).bind fun y6 =>
    bif !y6 then
      some 4
    else
      chk (decide (v5 ≤ a1.length)) <|
      (slices_ContainsFunc_Finding_2 n (List.take v5 a1) ((ix a1 v5).Name) ((ix a1 v5).Tasks)).bind fun y7 =>
      bif y7 then
        some 5
      else
        bif decide (20 < (((ix a1 v5).Tasks).length)) then
          some 8
        else
          (restore_list_known n a0 ((ix a1 v5).Tasks)).bind fun y8 =>
          bif (y8 != (0 : Int)) then
            some y8
          else
            chk (nI (v5 + 1)) <|
            back (v5 + 1)
  else
    k1 ()
def restore_CheckFindings_2 (n : Nat) (a0 : List Task) (a1 : List Finding) : Option Int :=
  (restore_CheckTasks n a0).bind fun y1 =>
  bif (y1 != (0 : Int)) then
    some y1
  else
    bif decide (40 < a1.length) then
      some 8
    else
      withK (fun (_ : Unit) =>
          some 0) fun k1 =>
      loopN (restore_CheckFindings_2_L1 n a0 a1 k1) n 0
def slices_Compact_string_L1 (a0 : List Str) (v10 : Nat) (k2 : (Nat × (List Str) → Option (List Str))) (back : Nat × Nat × (List Str) → Option (List Str)) : Nat × Nat × (List Str) → Option (List Str)
  | (v13, v14, v15) =>
  bif decide (v14 < (a0.length - v10)) then
    withK (fun (v16, v17) =>
        chk (nI (v14 + 1)) <|
        back (v16, v14 + 1, v17)) fun k1 =>
    chk (decide (v10 + v14 < v15.length)) <|
    chk (inI (((v14 : Nat) : Int) - 1)) <|
    chk (inB (((v14 : Nat) : Int) - 1) (a0.length - v10)) <|
    chk (decide (v10 + ((((v14 : Nat) : Int) - 1).toNat) < v15.length)) <|
    bif !((ix v15 (v10 + v14)) == (ix v15 (v10 + ((((v14 : Nat) : Int) - 1).toNat)))) then
      chk (decide (v13 < v15.length)) <|
      chk (nI (v13 + 1)) <|
      k1 (v13 + 1, (List.set v15 v13 (ix v15 (v10 + v14))))
    else
      k1 (v13, v15)
  else
    k2 (v13, v15)
def slices_Compact_string_L2 (n : Nat) (a0 : List Str) (k3 : (Unit → Option (List Str))) (back : Nat → Option (List Str)) : Nat → Option (List Str)
  | v10 =>
  bif decide (v10 < a0.length) then
    chk (inI (((v10 : Nat) : Int) - 1)) <|
    chk (inB (((v10 : Nat) : Int) - 1) a0.length) <|
    chk (decide ((((v10 : Nat) : Int) - 1).toNat < a0.length)) <|
    bif ((ix a0 v10) == (ix a0 ((((v10 : Nat) : Int) - 1).toNat))) then
      withK (fun (v18, v19) =>
          chk (decide (v18 < v19.length)) <|
          chk (decide (0 < (v19.length - v18))) <|
          chk (decide (v18 + (v19.length - v18) ≤ v19.length)) <|
          chk (decide (v18 ≤ (clrP v19 v18 (v19.length - v18) ([] : Str)).length)) <|
          chk (decide (v18 ≤ v19.length)) <|
          some (List.take v18 (clrP v19 v18 (v19.length - v18) ([] : Str)))) fun k2 =>
      loopN (slices_Compact_string_L1 a0 v10 k2) n (v10, 1, a0)
    else
      chk (nI (v10 + 1)) <|
      back (v10 + 1)
  else
    k3 ()
def slices_Compact_string (n : Nat) (a0 : List Str) : Option (List Str) :=
  bif decide (a0.length < 2) then
    some a0
  else
    withK (fun (_ : Unit) =>
        some a0) fun k3 =>
    loopN (slices_Compact_string_L2 n a0 k3) n 1
def restore_Estimate_L1 (a2 : List Finding) (k1 : ((List Str) → Option (Int × (List Str) × Int))) (back : (List Str) × Nat → Option (Int × (List Str) × Int)) : (List Str) × Nat → Option (Int × (List Str) × Int)
  | (v2, v3) =>
  bif decide (v3 < a2.length) then
    chk (room 16 (v2 ++ (ix a2 v3).Tasks).length) <|
    chk (nI (v3 + 1)) <|
    back ((v2 ++ (ix a2 v3).Tasks), v3 + 1)
  else
    k1 v2
def restore_Estimate (n : Nat) (a0 : List Task) (a1 : List Stocked) (a2 : List Finding) : Option (Int × (List Str) × Int) :=
  (restore_CheckFindings_2 n a0 a2).bind fun y1 =>
  bif (y1 != (0 : Int)) then
    some (y1, ([] : List Str), 0)
  else
    withK (fun (v4 : (List Str)) =>
        (slices_Sort_string n v4).bind fun y5 =>
        chk (decide (v4.length = y5.length)) <|
        (slices_Compact_string n y5).bind fun y6 =>
        (restore_Cheapest n a0 a1 y6).bind fun y7 =>
        some (y7.1, y7.2.1, y7.2.2)) fun k1 =>
    loopN (restore_Estimate_L1 a2 k1) n (([] : List Str), 0)
def agrafferef08_Wanted_L1 (n : Nat) (a0 : List Finding) (v7 : Nat) (k1 : ((List Str) → Option (List Str))) (back : (List Str) × Nat → Option (List Str)) : (List Str) × Nat → Option (List Str)
  | (v9, v10) =>
  bif decide (v10 < (((ix a0 v7).Tasks).length)) then
    chk (decide (v10 < ((ix a0 v7).Tasks).length)) <|
    (agrafferef08_Put n v9 (ix ((ix a0 v7).Tasks) v10)).bind fun y11 =>
    chk (nI (v10 + 1)) <|
    back (y11, v10 + 1)
  else
    k1 v9
def agrafferef08_Wanted_L2 (n : Nat) (a0 : List Finding) (k2 : ((List Str) → Option (List Str))) (back : (List Str) × Nat → Option (List Str)) : (List Str) × Nat → Option (List Str)
  | (v6, v7) =>
  bif decide (v7 < a0.length) then
    withK (fun (v12 : (List Str)) =>
        chk (nI (v7 + 1)) <|
        back (v12, v7 + 1)) fun k1 =>
    loopN (agrafferef08_Wanted_L1 n a0 v7 k1) n (v6, 0)
  else
    k2 v6
def agrafferef08_Wanted (n : Nat) (a0 : List Finding) : Option (List Str) :=
  withK (fun (v13 : (List Str)) =>
      some v13) fun k2 =>
  loopN (agrafferef08_Wanted_L2 n a0 k2) n (([] : List Str), 0)
def agraffetop_estimated (n : Nat) : Option Bool := some true
def agraffetop_TopEstimateOnce_L3 (n : Nat) (a0 : List Task) (a1 : List Stocked) (a2 : List Finding) (y5 : Int × (List Str) × Int) (k3 : (Int → Option Bool)) (back : Int × Nat → Option Bool) : Int × Nat → Option Bool
  | (v19, v20) =>
  bif decide (v20 < a2.length) then
    chk (nI (v20 + 1)) <|
    chk (decide (v20 + 1 ≤ a2.length)) <|
    chk (decide (v20 ≤ (v20 + 1))) <|
    (restore_Estimate n a0 a1 (List.take ((v20 + 1) - v20) (List.drop v20 a2))).bind fun y21 =>
    bif (y21.1 != (0 : Int)) || (decide (y5.2.2 < y21.2.2)) then
      some false
    else
      chk (inI (v19 + y21.2.2)) <|
      back (v19 + y21.2.2, v20 + 1)
  else
    k3 v19
def agraffetop_TopEstimateOnce_L2 (n : Nat) (a1 : List Stocked) (y7 : Int × (List PartCount)) (k2 : (Int → Option Bool)) (back : Int × Nat → Option Bool) : Int × Nat → Option Bool
  | (v14, v15) =>
  bif decide (v15 < y7.2.length) then
    (agrafferef08_FindStock n a1 ((ix y7.2 v15).Part)).bind fun y16 =>
    bif decide (y16 < (0 : Int)) then
      some false
    else
      chk (inB y16 a1.length) <|
      chk (decide (y16.toNat < a1.length)) <|
      chk (inI (((ix y7.2 v15).Count) * ((ix a1 y16.toNat).Cents))) <|
      chk (inI (v14 + (((ix y7.2 v15).Count) * ((ix a1 y16.toNat).Cents)))) <|
      chk (nI (v15 + 1)) <|
      back (v14 + (((ix y7.2 v15).Count) * ((ix a1 y16.toNat).Cents)), v15 + 1)
  else
    k2 v14
def agraffetop_TopEstimateOnce_L1 (n : Nat) (a0 : List Task) (y5 : Int × (List Str) × Int) (k1 : (Int → Option Bool)) (back : Int × Nat → Option Bool) : Int × Nat → Option Bool
  | (v9, v10) =>
  bif decide (v10 < y5.2.1.length) then
    (agrafferef08_Find n a0 (ix y5.2.1 v10)).bind fun y11 =>
    chk (inB y11 a0.length) <|
    chk (decide (y11.toNat < a0.length)) <|
    chk (inI (v9 + ((ix a0 y11.toNat).Cents))) <|
    chk (nI (v10 + 1)) <|
    back (v9 + ((ix a0 y11.toNat).Cents), v10 + 1)
  else
    k1 v9
noncomputable def agraffetop_TopEstimateOnce (n : Nat) (a0 : List Task) (a1 : List Stocked) (a2 : List Finding) : Option Bool :=
  (agraffetop_estimated n).bind fun y1 =>
  bif !y1 then
    some false
  else
    (agraffelaw08_Few n a0).bind fun y2 =>
    (gcall (!((((!y2) || (decide (8 < a0.length))) || (decide (8 < a1.length))) || (decide (4 < a2.length)))) (agrafferef08_CheckFindings n a0 a2)).bind fun y3 =>
    (gcall (!(((((!y2) || (decide (8 < a0.length))) || (decide (8 < a1.length))) || (decide (4 < a2.length))) || (y3 != (0 : Int)))) (agrafferef08_CheckStock n a1)).bind fun y4 =>
    bif (((((!y2) || (decide (8 < a0.length))) || (decide (8 < a1.length))) || (decide (4 < a2.length))) || (y3 != (0 : Int))) || (y4 != (0 : Int)) then
      some true
    else
      (restore_Estimate n a0 a1 a2).bind fun y5 =>
      bif (y5.1 != (0 : Int)) then
        some ((y5.1 == (6 : Int)) && (decide (y5.2.1.length = 0)))
      else
        (agrafferef08_CheckSet n a0 y5.2.1).bind fun y6 =>
        bif (y6 != (0 : Int)) then
          some false
        else
          (restore_PartsOf n a0 y5.2.1).bind fun y7 =>
          withK (fun (v12 : Int) =>
              withK (fun (v17 : Int) =>
                  bif (y7.1 != (0 : Int)) || (v17 != y5.2.2) then
                    some false
                  else
                    withK (fun (v22 : Int) =>
                        some (decide (y5.2.2 ≤ v22))) fun k3 =>
                    loopN (agraffetop_TopEstimateOnce_L3 n a0 a1 a2 y5 k3) n (0, 0)) fun k2 =>
              loopN (agraffetop_TopEstimateOnce_L2 n a1 y7 k2) n (v12, 0)) fun k1 =>
          loopN (agraffetop_TopEstimateOnce_L1 n a0 y5 k1) n (0, 0)
end
section
set_option maxRecDepth 4000
open Go
theorem loopN_s {α β : Type} (F : (α → Option β) → α → Option β) (n : Nat) (t : α) : loopN F (n + 1) t = F (loopN F n) t := rfl
@[simp] theorem chk_t {α : Type} (k : Option α) : chk true k = k := rfl
theorem chk_of {α : Type} {b : Bool} {k : Option α} (h : b = true) : chk b k = k := by subst h; rfl
@[simp] theorem withK_eq {α β : Type} (j : α → Option β) (f : (α → Option β) → Option β) : withK j f = f j := rfl
@[simp] theorem gcall_some_ {α : Type} [Inhabited α] (g : Bool) (x : α) : (gcall g (some x)) = some (bif g then x else default) := by cases g <;> rfl
theorem nI_of {n : Nat} (h : n ≤ 9223372036854775807) : nI n = true := by simp [nI, h]
theorem inI_of {n : Int} (h : -9223372036854775808 ≤ n) (h2 : n ≤ 9223372036854775807) : inI n = true := by simp [inI, h, h2]
theorem room_of {b n : Nat} (h : n * b ≤ 140737488355328) (h2 : n ≤ 9223372036854775807) : room b n = true := by simp [room, h, h2]
theorem inB_of {q : Int} {n : Nat} (h : 0 ≤ q) (h2 : q.toNat < n) : inB q n = true := by simp [inB, h, h2]
theorem inC_of {q : Int} {n : Nat} (h : 0 ≤ q) (h2 : q.toNat ≤ n) : inC q n = true := by simp [inC, h, h2]
theorem drop_ix {α : Type} [Inhabited α] {l : List α} {v : Nat} (h : v < l.length) : l.drop v = ix l v :: l.drop (v + 1) := by
  rw [ix_eq h]; exact List.drop_eq_getElem_cons h
theorem drop_nil {α : Type} {l : List α} {v : Nat} (h : ¬ v < l.length) : l.drop v = [] := List.drop_eq_nil_of_le (by omega)
def isL (c : UInt8) : Bool := (decide ((97 : Int) ≤ ((c.toNat : Nat) : Int)) && decide (((c.toNat : Nat) : Int) ≤ (122 : Int))) || (decide ((65 : Int) ≤ ((c.toNat : Nat) : Int)) && decide (((c.toNat : Nat) : Int) ≤ (90 : Int)))
def isD (c : UInt8) : Bool := decide ((48 : Int) ≤ ((c.toNat : Nat) : Int)) && decide (((c.toNat : Nat) : Int) ≤ (57 : Int))
def okC (c : UInt8) : Bool := isL c || isD c || (((c.toNat : Nat) : Int) == (45 : Int))
def nameB (s : Str) : Bool := match s with
  | [] => false
  | c :: r => isL c && r.all okC && decide (r.length < 12)
end
section
set_option maxRecDepth 4000
open Go
theorem bne_t {x : Int} (h : ¬ x = 0) : (x != 0) = true := by simp [bne, h]
def firstE (E : Nat → Int) : Nat → Nat → Int
  | _, 0 => 0
  | v, m + 1 => bif E v != 0 then E v else firstE E (v + 1) m
theorem firstE_zero {E : Nat → Int} : ∀ {m v : Nat}, firstE E v m = 0 → ∀ j, v ≤ j → j < v + m → E j = 0
  | 0, v, _, j, h1, h2 => by omega
  | m + 1, v, h, j, h1, h2 => by
    unfold firstE at h
    by_cases e : E v = 0
    · simp [e] at h
      by_cases hj : j = v
      · rw [hj]; exact e
      · exact firstE_zero h j (by omega) (by omega)
    · rw [bne_t e, cond_true] at h; exact absurd h e
theorem loop_first {σ R : Type} {F : (σ → Option R) → σ → Option R} {st : Nat → σ} {E : Nat → Int} {err : Int → Option R} {k : Option R} {len : Nat}
    (h1 : ∀ back v, v < len → (∀ j, j < v → E j = 0) → F back (st v) = bif E v != 0 then err (E v) else back (st (v + 1)))
    (h2 : ∀ back, (∀ j, j < len → E j = 0) → F back (st len) = k) : ∀ n v, len - v < n → v ≤ len → (∀ j, j < v → E j = 0) → loopN F n (st v) = bif firstE E v (len - v) != 0 then err (firstE E v (len - v)) else k := by
  intro n
  induction n with
  | zero => intro v h; omega
  | succ n ih =>
    intro v hn hv hz
    rw [loopN_s]
    by_cases h : v < len
    · rw [h1 _ v h hz, show len - v = (len - (v + 1)) + 1 by omega]
      unfold firstE
      by_cases e : E v = 0
      · simp only [e, bne_self_eq_false, cond_false]
        exact ih (v + 1) (by omega) (by omega) fun j hj => by
          by_cases hjv : j = v
          · rw [hjv]; exact e
          · exact hz j (by omega)
      · rw [bne_t e, cond_true, cond_true, bne_t e, cond_true]
    · have : v = len := by omega
      subst this
      rw [h2 _ hz, Nat.sub_self]
      simp [firstE]
theorem loop_through {σ R : Type} {F : (σ → Option R) → σ → Option R} {st : Nat → σ} {k : Option R} {len : Nat} (h1 : ∀ back v, v < len → F back (st v) = back (st (v + 1))) (h2 : ∀ back, F back (st len) = k) : ∀ n, len < n → loopN F n (st 0) = k := by
  intro n hn
  have := loop_first (F := F) (st := st) (E := fun _ => 0) (err := fun _ => none) (k := k) (len := len) (fun back v hv _ => by simp [h1 back v hv]) (fun back _ => h2 back) n 0 (by omega) (by omega) (fun _ _ => rfl)
  rw [this, Nat.sub_zero]
  have : firstE (fun _ => (0 : Int)) 0 len = 0 := by
    have : ∀ m v, firstE (fun _ => (0 : Int)) v m = 0 := by
      intro m
      induction m with
      | zero => intro v; rfl
      | succ m ih => intro v; simp [firstE, ih]
    exact this _ _
  rw [this]; rfl
def findI {α : Type} (p : α → Bool) (l : List α) : Int := match l.findIdx? p with
  | some i => ((i : Nat) : Int)
  | none => -1
theorem loop_find {α R : Type} [Inhabited α] {l : List α} {p : α → Bool} {F : (Nat → Option R) → Nat → Option R} {yes : Nat → Option R} {no : Option R}
    (hF : ∀ back v, F back v = bif decide (v < l.length) then (bif p (ix l v) then yes v else chk (nI (v + 1)) (back (v + 1))) else no) :
    ∀ n v, l.length - v < n → l.length < 9223372036854775807 → loopN F n v = match (l.drop v).findIdx? p with | some i => yes (v + i) | none => no := by
  intro n
  induction n with
  | zero => intro v h; omega
  | succ n ih =>
    intro v hn hl
    rw [loopN_s, hF]
    by_cases h : v < l.length
    · rw [drop_ix h, List.findIdx?_cons]
      simp only [h, decide_true, cond_true, nI_of (by omega : v + 1 ≤ 9223372036854775807), chk_t]
      cases hp : p (ix l v) with
      | true => simp
      | false =>
        simp only [cond_false, Bool.false_eq_true, if_false]
        rw [ih (v + 1) (by omega) hl]
        cases hh : (l.drop (v + 1)).findIdx? p with
        | none => simp
        | some i => simp [Nat.add_assoc, Nat.add_comm 1 i]
    · rw [drop_nil h]
      simp [h]
theorem findI_pos {α : Type} [Inhabited α] {p : α → Bool} {l : List α} (h : ¬ findI p l < 0) : 0 ≤ findI p l ∧ (findI p l).toNat < l.length ∧ p (ix l (findI p l).toNat) = true ∧ ∀ j, j < (findI p l).toNat → p (ix l j) = false := by
  unfold findI at h ⊢
  split at h
  · rename_i i e
    rw [List.findIdx?_eq_some_iff_getElem] at e
    obtain ⟨hi, hp, hb⟩ := e
    refine ⟨by omega, by simpa using hi, ?_, fun j hj => ?_⟩
    · rw [ix_eq (by simpa using hi)]; simpa using hp
    · have hj : j < i := by simpa using hj
      rw [ix_eq (by omega)]
      simpa using hb j hj
  · omega
end
section
set_option maxRecDepth 4000
open Go
theorem loop_find' {α R : Type} [Inhabited α] {l : List α} {p : α → Bool} {F : (Nat → Option R) → Nat → Option R} {yes : Nat → Option R} {no : Option R}
    (h1 : ∀ back v, v < l.length → F back v = bif p (ix l v) then yes v else back (v + 1)) (h2 : ∀ back, F back l.length = no) :
    ∀ n v, v ≤ l.length → l.length - v < n → loopN F n v = match (l.drop v).findIdx? p with | some i => yes (v + i) | none => no := by
  intro n
  induction n with
  | zero => intro v _ h; omega
  | succ n ih =>
    intro v hv hn
    rw [loopN_s]
    by_cases h : v < l.length
    · rw [h1 _ v h, drop_ix h, List.findIdx?_cons]
      cases hp : p (ix l v) with
      | true => simp
      | false =>
        simp only [cond_false, Bool.false_eq_true, if_false]
        rw [ih (v + 1) (by omega) (by omega)]
        cases hh : (l.drop (v + 1)).findIdx? p with
        | none => simp
        | some i => simp [Nat.add_assoc, Nat.add_comm 1 i]
    · have : v = l.length := by omega
      subst this
      rw [h2, drop_nil h]
      simp
theorem any_findIdx {α : Type} (p : α → Bool) (l : List α) : (l.findIdx? p).isSome = l.any p := by
  induction l with
  | nil => rfl
  | cons x l ih =>
    rw [List.findIdx?_cons, List.any_cons]
    cases p x <;> simp [ih]
theorem loop_any' {α R : Type} [Inhabited α] {l : List α} {p : α → Bool} {F : (Nat → Option R) → Nat → Option R} {bad no : Option R}
    (h1 : ∀ back v, v < l.length → F back v = bif p (ix l v) then bad else back (v + 1)) (h2 : ∀ back, F back l.length = no) (n : Nat) (hn : l.length < n) : loopN F n 0 = bif l.any p then bad else no := by
  rw [loop_find' (yes := fun _ => bad) h1 h2 n 0 (by omega) (by omega), List.drop_zero, ← any_findIdx]
  cases l.findIdx? p <;> rfl
theorem loop_findI {α : Type} [Inhabited α] {l : List α} {p : α → Bool} {F : (Nat → Option Int) → Nat → Option Int}
    (h1 : ∀ back v, v < l.length → F back v = bif p (ix l v) then some ((v : Nat) : Int) else back (v + 1)) (h2 : ∀ back, F back l.length = some (-1)) (n : Nat) (hn : l.length < n) : loopN F n 0 = some (findI p l) := by
  rw [loop_find' h1 h2 n 0 (by omega) (by omega), List.drop_zero, findI]
  cases l.findIdx? p <;> simp
theorem findI_any {α : Type} (p : α → Bool) (l : List α) : decide ((0 : Int) ≤ findI p l) = l.any p := by
  rw [← any_findIdx, findI]
  cases l.findIdx? p <;> simp
theorem findI_none {α : Type} (p : α → Bool) (l : List α) : decide (findI p l < (0 : Int)) = !l.any p := by
  rw [← any_findIdx, findI]
  cases l.findIdx? p
  · simp
  · simp only [Option.isSome_some, Bool.not_true, decide_eq_false_iff_not]; omega
theorem any_congr {α : Type} {p q : α → Bool} {l : List α} (h : ∀ x ∈ l, p x = q x) : l.any p = l.any q := by
  induction l with
  | nil => rfl
  | cons x l ih =>
    rw [List.any_cons, List.any_cons, h x (by simp), ih fun y hy => h y (by simp [hy])]
theorem findI_congr {α : Type} {p q : α → Bool} {l : List α} (h : ∀ x ∈ l, p x = q x) : findI p l = findI q l := by
  have : l.findIdx? p = l.findIdx? q := by
    induction l with
    | nil => rfl
    | cons x l ih =>
      rw [List.findIdx?_cons, List.findIdx?_cons, h x (by simp), ih fun y hy => h y (by simp [hy])]
  rw [findI, findI, this]
theorem findI_take {α : Type} [Inhabited α] {p : α → Bool} {l : List α} {i : Nat} : (l.take i).any p = (decide (findI p l < (i : Int)) && l.any p) := by
  rw [← any_findIdx, ← any_findIdx, findI]
  cases h : l.findIdx? p with
  | none =>
    rw [List.findIdx?_eq_none_iff] at h
    have : (l.take i).findIdx? p = none := by
      rw [List.findIdx?_eq_none_iff]
      exact fun x hx => h x (List.mem_of_mem_take hx)
    simp [this]
  | some j =>
    rw [List.findIdx?_eq_some_iff_getElem] at h
    obtain ⟨hj, hp, hb⟩ := h
    simp only [Option.isSome_some, Bool.and_true]
    rw [any_findIdx, Bool.eq_iff_iff, List.any_eq_true, decide_eq_true_eq]
    constructor
    · rintro ⟨x, hx, hpx⟩
      obtain ⟨k, hk, rfl⟩ := List.mem_iff_getElem.1 hx
      simp only [List.length_take] at hk
      rw [List.getElem_take] at hpx
      by_cases hkj : k < j
      · have := hb k hkj
        rw [hpx] at this; simp at this
      · omega
    · intro hji
      have hji : j < i := by omega
      exact ⟨l[j], List.mem_iff_getElem.2 ⟨j, by simp; omega, by simp⟩, hp⟩
theorem loop_fold {σ R : Type} {F : (σ × Nat → Option R) → σ × Nat → Option R} {st : Nat → σ} {k : Option R} {len : Nat} (h1 : ∀ back v, v < len → F back (st v, v) = back (st (v + 1), v + 1)) (h2 : ∀ back, F back (st len, len) = k) (n : Nat) (hn : len < n) {s0 : σ} (h0 : st 0 = s0) : loopN F n (s0, 0) = k := by
  subst h0
  exact loop_through (st := fun v => (st v, v)) h1 h2 n hn
theorem loop_fold' {σ R : Type} {F : (Nat × σ → Option R) → Nat × σ → Option R} {st : Nat → σ} {k : Option R} {len : Nat} (h1 : ∀ back v, v < len → F back (v, st v) = back (v + 1, st (v + 1))) (h2 : ∀ back, F back (len, st len) = k) (n : Nat) (hn : len < n) {s0 : σ} (h0 : st 0 = s0) : loopN F n (0, s0) = k := by
  subst h0
  exact loop_through (st := fun v => (v, st v)) h1 h2 n hn
theorem ix_take {α : Type} [Inhabited α] {l : List α} {i v : Nat} (h : v < i) (hl : v < l.length) : ix (l.take i) v = ix l v := by
  rw [ix_eq (by simp; omega), ix_eq hl, List.getElem_take]
end
section
set_option maxRecDepth 4000
open Go
theorem getD_ix (s : Str) (v : Nat) : List.getD s v 0 = ix s v := by
  simp only [ix, List.getD]; rfl
theorem isName_loop (s : Str) (k : Unit → Option Bool) : ∀ (n v : Nat), s.length - v < n → 0 < v → s.length < 9223372036854775807 → loopN (restore_isName_L1 s k) n v = bif (s.drop v).all okC then k () else some false := by
  intro n
  induction n with
  | zero => intro v h; omega
  | succ n ih =>
    intro v hn hv hl
    rw [loopN_s, restore_isName_L1]
    by_cases h : v < s.length
    · rw [drop_ix h]
      have h2 : ¬ v = 0 := by omega
      simp only [h, decide_true, cond_true, h2, decide_false, Bool.false_or, List.all_cons, nI_of (by omega : v + 1 ≤ 9223372036854775807), chk_t]
      rw [ih (v + 1) (by omega) (by omega) hl]
      have key : (!((decide ((97 : Int) ≤ (((ix s v).toNat : Nat) : Int)) && decide ((((ix s v).toNat : Nat) : Int) ≤ (122 : Int))) || (decide ((65 : Int) ≤ (((ix s v).toNat : Nat) : Int)) && decide ((((ix s v).toNat : Nat) : Int) ≤ (90 : Int)))) && (((((ix s v).toNat : Nat) : Int) != (45 : Int)) && (decide ((((ix s v).toNat : Nat) : Int) < (48 : Int)) || decide ((57 : Int) < (((ix s v).toNat : Nat) : Int))))) = !okC (ix s v) := by
        have hd : (decide ((((ix s v).toNat : Nat) : Int) < (48 : Int)) || decide ((57 : Int) < (((ix s v).toNat : Nat) : Int))) = !isD (ix s v) := by
          simp only [isD, Bool.not_and, ← decide_not, Int.not_le]
        rw [hd]
        show (!isL (ix s v) && _) = _
        simp only [okC]
        cases isL (ix s v) <;> cases isD (ix s v) <;> cases hh : (((((ix s v).toNat : Nat) : Int)) == (45 : Int)) <;> simp [bne, hh]
      rw [key]
      cases okC (ix s v) <;> simp
    · rw [drop_nil h]
      simp [h]
theorem isName_eq (s : Str) (n : Nat) (hn : s.length + 1 < n) (hl : s.length < 9223372036854775807) : restore_isName n s = some (nameB s) := by
  obtain ⟨n, rfl⟩ : ∃ m, n = m + 1 := ⟨n - 1, by omega⟩
  rw [restore_isName, withK_eq, loopN_s, restore_isName_L1]
  cases s with
  | nil => simp [nameB]
  | cons c r =>
    have h0 : 0 < (c :: r).length := by simp
    have hix : ix (c :: r) 0 = c := rfl
    simp only [h0, decide_true, cond_true, hix, Bool.true_or, Bool.and_true, nI_of (by simp : 0 + 1 ≤ 9223372036854775807), chk_t]
    rw [isName_loop _ _ n 1 (by simp at hn ⊢; omega) (by omega) hl]
    show (bif !isL c then some false else _) = _
    simp only [nameB, List.drop_succ_cons, List.drop_zero]
    cases hL : isL c <;> cases hA : r.all okC <;> simp
    omega
theorem IsName_loop (s : Str) (n0 : Nat) (k : Unit → Option Bool) : ∀ (n v : Nat), s.length - v < n → s.length < 9223372036854775807 → loopN (agraffebase_IsName_L1 n0 s k) n v = bif (s.drop v).all okC then k () else some false := by
  intro n
  induction n with
  | zero => intro v h; omega
  | succ n ih =>
    intro v hn hl
    rw [loopN_s, agraffebase_IsName_L1]
    by_cases h : v < s.length
    · rw [drop_ix h]
      simp only [h, decide_true, cond_true, agraffebase_isLetter, agraffebase_isDigit, gcall_some_, Option.bind_some, getD_ix, List.all_cons, nI_of (by omega : v + 1 ≤ 9223372036854775807), chk_t]
      rw [ih (v + 1) (by omega) hl]
      show (bif ((!isL (ix s v)) && (!isD (ix s v))) && ((((ix s v).toNat : Nat) : Int) != (45 : Int)) then _ else _) = _
      simp only [okC]
      cases isL (ix s v) <;> cases isD (ix s v) <;> cases hh : (((((ix s v).toNat : Nat) : Int)) == (45 : Int)) <;> simp [bne, hh]
    · rw [drop_nil h]
      simp [h]
theorem IsName_eq (s : Str) (n : Nat) (hn : s.length + 1 < n) (hl : s.length < 9223372036854775807) : agraffebase_IsName n s = some (nameB s) := by
  rw [agraffebase_IsName]
  simp only [agraffebase_isLetter, gcall_some_, Option.bind_some, getD_ix, withK_eq]
  rw [IsName_loop _ _ _ _ _ (by omega) hl]
  cases s with
  | nil => simp [nameB]
  | cons c r =>
    have h0 : ¬ (c :: r).length = 0 := by simp
    have h1 : 0 < (c :: r).length := by simp
    have hix : ix (c :: r) 0 = c := rfl
    simp only [h0, h1, decide_true, decide_false, Bool.false_or, Bool.or_true, chk_t, hix, List.drop_zero]
    show (bif (decide (12 < (c :: r).length)) || (!isL c) then _ else _) = _
    simp only [nameB, List.all_cons, okC, List.length_cons]
    by_cases hlen : r.length < 12
    · have : ¬ 12 < r.length + 1 := by omega
      cases hL : isL c <;> cases hA : r.all okC <;> simp [this, hlen, hA]
    · have : 12 < r.length + 1 := by omega
      simp [this, hlen]
end
section
set_option maxRecDepth 4000
open Go
structure OkT (t : List Task) : Prop where
  len : t.length ≤ 63
  name : ∀ x ∈ t, x.Name.length ≤ 20
  needs : ∀ x ∈ t, x.Needs.length ≤ 13
  oneof : ∀ x ∈ t, x.OneOf.length ≤ 9
  group : ∀ x ∈ t, ∀ g ∈ x.OneOf, g.length ≤ 9
  parts : ∀ x ∈ t, x.Parts.length ≤ 13
  part : ∀ x ∈ t, ∀ p ∈ x.Parts, p.Part.length ≤ 20
variable {n : Nat}
def byName (s : Str) (x : Task) : Bool := x.Name == s
theorem Find_eq (t : List Task) (s : Str) (hn : t.length < n) (hl : t.length < 9223372036854775807) : agrafferef08_Find n t s = some (findI (byName s) t) := by
  rw [agrafferef08_Find, withK_eq]
  refine loop_findI (fun back v hv => ?_) (fun back => ?_) n hn
  · rw [agrafferef08_Find_L1]; simp only [hv, decide_true, cond_true, nI_of (by omega : v + 1 ≤ 9223372036854775807), chk_t]; rfl
  · rw [agrafferef08_Find_L1]; simp
theorem find_eq (t : List Task) (s : Str) (hn : t.length < n) (hl : t.length < 9223372036854775807) : restore_list_find n t s = some (findI (byName s) t) := by
  rw [restore_list_find, slices_IndexFunc_Task, withK_eq, loop_findI (p := byName s) (fun back v hv => ?_) (fun back => ?_) n hn]
  · rfl
  · rw [slices_IndexFunc_Task_L1]; simp only [hv, restore_list_find_f1, Option.bind_some, decide_true, cond_true, nI_of (by omega : v + 1 ≤ 9223372036854775807), chk_t]; rfl
  · rw [slices_IndexFunc_Task_L1]; simp
def byPartC (s : Str) (x : PartCount) : Bool := x.Part == s
theorem FindPart_eq (l : List PartCount) (s : Str) (hn : l.length < n) (hl : l.length < 9223372036854775807) : agrafferef08_FindPart n l s = some (findI (byPartC s) l) := by
  rw [agrafferef08_FindPart, withK_eq]
  refine loop_findI (fun back v hv => ?_) (fun back => ?_) n hn
  · rw [agrafferef08_FindPart_L1]; simp only [hv, decide_true, cond_true, nI_of (by omega : v + 1 ≤ 9223372036854775807), chk_t]; rfl
  · rw [agrafferef08_FindPart_L1]; simp
theorem ContainsPart_eq (l : List PartCount) (s : Str) (c : Int) (hn : l.length < n) (hl : l.length < 9223372036854775807) : slices_ContainsFunc_PartCount n l s c = some (l.any (byPartC s)) := by
  rw [slices_ContainsFunc_PartCount, slices_IndexFunc_PartCount, withK_eq, loop_findI (p := byPartC s) (fun back v hv => ?_) (fun back => ?_) n hn]
  · simp only [Option.bind_some, findI_any]
  · rw [slices_IndexFunc_PartCount_L1]; simp only [hv, restore_checkCounts_f1, Option.bind_some, decide_true, cond_true, nI_of (by omega : v + 1 ≤ 9223372036854775807), chk_t]; rfl
  · rw [slices_IndexFunc_PartCount_L1]; simp
def isS (s : Str) (x : Str) : Bool := x == s
theorem HasText_eq (l : List Str) (s : Str) (hn : l.length < n) (hl : l.length < 9223372036854775807) : agraffebase_HasText n l s = some (l.any (isS s)) := by
  rw [agraffebase_HasText, withK_eq, loop_any' (p := isS s) (fun back v hv => ?_) (fun back => ?_) n hn]
  · cases l.any (isS s) <;> rfl
  · rw [agraffebase_HasText_L1]; simp only [hv, decide_true, cond_true, nI_of (by omega : v + 1 ≤ 9223372036854775807), chk_t]; rfl
  · rw [agraffebase_HasText_L1]; simp
theorem HasText2_eq (l : List Str) (s : Str) (hn : l.length < n) (hl : l.length < 9223372036854775807) : agraffebase_HasText_2 n l s = some (l.any (isS s)) := by
  rw [agraffebase_HasText_2, withK_eq, loop_any' (p := isS s) (fun back v hv => ?_) (fun back => ?_) n hn]
  · cases l.any (isS s) <;> rfl
  · rw [agraffebase_HasText_2_L1]; simp only [hv, decide_true, cond_true, nI_of (by omega : v + 1 ≤ 9223372036854775807), chk_t]; rfl
  · rw [agraffebase_HasText_2_L1]; simp
theorem isS_comm (s x : Str) : (s == x) = isS s x := by
  unfold isS
  rw [Bool.eq_iff_iff, beq_iff_eq, beq_iff_eq]
  exact eq_comm
theorem Contains_eq (l : List Str) (s : Str) (hn : l.length < n) (hl : l.length < 9223372036854775807) : slices_Contains_string n l s = some (l.any (isS s)) := by
  rw [slices_Contains_string, slices_Index_string, withK_eq, loop_findI (p := isS s) (fun back v hv => ?_) (fun back => ?_) n hn]
  · simp only [Option.bind_some, findI_any]
  · rw [slices_Index_string_L1]; simp only [hv, decide_true, cond_true, nI_of (by omega : v + 1 ≤ 9223372036854775807), chk_t, isS_comm]
  · rw [slices_Index_string_L1]; simp
theorem Contains2_eq (l : List Str) (s : Str) (hn : l.length < n) (hl : l.length < 9223372036854775807) : slices_Contains_string_2 n l s = some (l.any (isS s)) := by
  rw [slices_Contains_string_2, slices_Index_string_2, withK_eq, loop_findI (p := isS s) (fun back v hv => ?_) (fun back => ?_) n hn]
  · simp only [Option.bind_some, findI_any]
  · rw [slices_Index_string_2_L1]; simp only [hv, decide_true, cond_true, nI_of (by omega : v + 1 ≤ 9223372036854775807), chk_t, isS_comm]
  · rw [slices_Index_string_2_L1]; simp
theorem bif_id {x : Int} : (bif x != 0 then some x else some 0) = some x := by
  by_cases h : x = 0
  · simp [h]
  · rw [bne_t h]; rfl
theorem loop_errs {F : (Nat → Option Int) → Nat → Option Int} {E : Nat → Int} {k : Int} {len : Nat}
    (h1 : ∀ back v, v < len → F back v = bif E v != 0 then some (E v) else back (v + 1)) (h2 : ∀ back, F back len = some k) (hn : len < n) :
    loopN F n 0 = some (bif firstE E 0 len != 0 then firstE E 0 len else k) := by
  rw [loop_first (st := fun v => v) (E := E) (err := some) (k := some k) (len := len) (fun back v hv _ => h1 back v hv) (fun back _ => h2 back) n 0 (by omega) (by omega) (fun j h => by omega), Nat.sub_zero]
  cases firstE E 0 len != 0 <;> rfl
theorem bif_int {x : Int} : (bif x != 0 then x else 0) = x := by
  by_cases h : x = 0
  · simp [h]
  · rw [bne_t h]; rfl
def knownE (t : List Task) (l : List Str) (v : Nat) : Int := bif !t.any (byName (ix l v)) then 6 else bif (l.take v).any (isS (ix l v)) then 5 else 0
def known (t : List Task) (l : List Str) : Int := firstE (knownE t l) 0 l.length
theorem known_res {t : List Task} (l : List Str) (hn : 1000 < n) (ht : t.length ≤ 900) (hl : l.length ≤ 900) : restore_list_known n t l = some (known t l) := by
  rw [restore_list_known, withK_eq, loop_errs (E := knownE t l) (k := 0) (fun back v hv => ?_) (fun back => ?_) (by omega : l.length < n), bif_int]; rfl
  · rw [restore_list_known_L1]
    have hle : v ≤ l.length := by omega
    simp only [hv, hle, decide_true, cond_true, find_eq t (ix l v) (by omega : t.length < n) (by omega), Option.bind_some, findI_none, chk_t, Contains_eq (n := n) (l.take v) (ix l v) (by simp; omega) (by simp; omega), nI_of (by omega : v + 1 ≤ 9223372036854775807), knownE]
    cases !t.any (byName (ix l v)) <;> cases (l.take v).any (isS (ix l v)) <;> rfl
  · rw [restore_list_known_L1]; simp
theorem known_ref {t : List Task} (l : List Str) (hn : 1000 < n) (ht : t.length ≤ 900) (hl : l.length ≤ 900) : agrafferef08_tasks n t l = some (known t l) := by
  rw [agrafferef08_tasks, withK_eq, loop_errs (E := knownE t l) (k := 0) (fun back v hv => ?_) (fun back => ?_) (by omega : l.length < n), bif_int]; rfl
  · rw [agrafferef08_tasks_L1]
    have hle : v ≤ l.length := by omega
    simp only [hv, hle, decide_true, cond_true, Find_eq t (ix l v) (by omega : t.length < n) (by omega), Option.bind_some, findI_none, chk_t, HasText_eq (n := n) (l.take v) (ix l v) (by simp; omega) (by simp; omega), nI_of (by omega : v + 1 ≤ 9223372036854775807), knownE]
    cases !t.any (byName (ix l v)) <;> cases (l.take v).any (isS (ix l v)) <;> rfl
  · rw [agrafferef08_tasks_L1]; simp
theorem known_zero {t : List Task} {l : List Str} (h : known t l = 0) : ∀ s ∈ l, t.any (byName s) = true := by
  intro s hs
  obtain ⟨i, hi, rfl⟩ := List.mem_iff_getElem.1 hs
  have := firstE_zero h i (by omega) (by omega)
  unfold knownE at this
  rw [ix_eq hi] at this
  cases h1 : t.any (byName l[i])
  · rw [h1] at this; simp at this
  · rfl
def cntE (l : List PartCount) (most : Int) (v : Nat) : Int :=
  bif !nameB (ix l v).Part then 4 else bif (l.take v).any (byPartC (ix l v).Part) then 5 else bif !((decide (1 ≤ (ix l v).Count)) && (decide ((ix l v).Count ≤ most))) then 2 else 0
def cnts (l : List PartCount) (most : Int) : Int := firstE (cntE l most) 0 l.length
theorem counts_res {l : List PartCount} (most : Int) (hn : 1000 < n) (hl : l.length ≤ 900) (hs : ∀ x ∈ l, x.Part.length ≤ 20) : restore_checkCounts n l most = some (cnts l most) := by
  rw [restore_checkCounts, withK_eq, loop_errs (E := cntE l most) (k := 0) (fun back v hv => ?_) (fun back => ?_) (by omega : l.length < n), bif_int]; rfl
  · rw [restore_checkCounts_L1]
    have h1 := hs _ (ix_mem hv)
    have hle : v ≤ l.length := by omega
    simp only [hv, hle, decide_true, cond_true, isName_eq (ix l v).Part n (by omega) (by omega), Option.bind_some, chk_t, ContainsPart_eq (n := n) (l.take v) (ix l v).Part (ix l v).Count (by simp; omega) (by simp; omega), restore_within, nI_of (by omega : v + 1 ≤ 9223372036854775807), cntE]
    cases nameB (ix l v).Part <;> cases (l.take v).any (byPartC (ix l v).Part) <;> cases (decide (1 ≤ (ix l v).Count)) && (decide ((ix l v).Count ≤ most)) <;> rfl
  · rw [restore_checkCounts_L1]; simp
theorem counts_ref {l : List PartCount} (most : Int) (hn : 1000 < n) (hl : l.length ≤ 900) (hs : ∀ x ∈ l, x.Part.length ≤ 20) : agrafferef08_counts n l most = some (cnts l most) := by
  rw [agrafferef08_counts, withK_eq, loop_errs (E := cntE l most) (k := 0) (fun back v hv => ?_) (fun back => ?_) (by omega : l.length < n), bif_int]; rfl
  · rw [agrafferef08_counts_L1]
    have h1 := hs _ (ix_mem hv)
    have hle : v ≤ l.length := by omega
    simp only [hv, hle, decide_true, cond_true, IsName_eq (ix l v).Part n (by omega) (by omega), Option.bind_some, chk_t, FindPart_eq (n := n) (l.take v) (ix l v).Part (by simp; omega) (by simp; omega), findI_any, agraffebase_Within, nI_of (by omega : v + 1 ≤ 9223372036854775807), cntE]
    cases nameB (ix l v).Part <;> cases (l.take v).any (byPartC (ix l v).Part) <;> cases (decide (1 ≤ (ix l v).Count)) && (decide ((ix l v).Count ≤ most)) <;> rfl
  · rw [agrafferef08_counts_L1]; simp
def grpE (t : List Task) (gs : List (List Str)) (v : Nat) : Int := bif decide ((ix gs v).length = 0) then 10 else known t (ix gs v)
def large (x : Task) : Bool := ((decide (10 < x.Needs.length) || decide (6 < x.OneOf.length)) || x.OneOf.any (fun g => decide (6 < g.length))) || decide (10 < x.Parts.length)
def taskE (t : List Task) (i : Nat) : Int :=
  bif !nameB (ix t i).Name then 4 else bif decide (findI (byName (ix t i).Name) t < (i : Int)) then 5
  else bif (!((decide (0 ≤ (ix t i).Cents)) && (decide ((ix t i).Cents ≤ 1000000000)))) || (!((decide (0 ≤ (ix t i).Hours)) && (decide ((ix t i).Hours ≤ 10000)))) then 2
  else bif large (ix t i) then 8 else bif known t (ix t i).Needs != 0 then known t (ix t i).Needs
  else bif firstE (grpE t (ix t i).OneOf) 0 (ix t i).OneOf.length != 0 then firstE (grpE t (ix t i).OneOf) 0 (ix t i).OneOf.length else cnts (ix t i).Parts 1000
theorem large_res (gs : List (List Str)) (hn : gs.length < n) (hl : gs.length < 9223372036854775807) : slices_ContainsFunc_string n gs = some (gs.any (fun g => decide (6 < g.length))) := by
  rw [slices_ContainsFunc_string, slices_IndexFunc_string, withK_eq, loop_findI (p := fun g => decide (6 < g.length)) (fun back v hv => ?_) (fun back => ?_) n hn]
  · simp only [Option.bind_some, findI_any]
  · rw [slices_IndexFunc_string_L1]; simp only [hv, restore_list_checkTask_f1, Option.bind_some, decide_true, cond_true, nI_of (by omega : v + 1 ≤ 9223372036854775807), chk_t]
  · rw [slices_IndexFunc_string_L1]; simp
theorem task_res {t : List Task} (h : OkT t) (hn : 1000 < n) {i : Nat} (hi : i < t.length) : restore_list_checkTask n t ((i : Nat) : Int) = some (taskE t i) := by
  have hx := ix_mem hi
  have hlen := h.len
  have h1 := h.name _ hx
  have h2 := h.needs _ hx
  have h3 := h.oneof _ hx
  have h4 := h.parts _ hx
  rw [restore_list_checkTask]
  have e : ((i : Nat) : Int).toNat = i := by omega
  have hin : inB ((i : Nat) : Int) t.length = true := inB_of (by omega) (by omega)
  simp only [e, hin, hi, decide_true, chk_t, isName_eq (ix t i).Name n (by omega) (by omega), Option.bind_some, find_eq t (ix t i).Name (by omega : t.length < n) (by omega), restore_within, gcall_some_,
    large_res (n := n) (ix t i).OneOf (by omega) (by omega), known_res (n := n) (t := t) (ix t i).Needs hn (by omega) (by omega), withK_eq, counts_res (n := n) (l := (ix t i).Parts) 1000 hn (by omega) (h.part _ hx)]
  rw [loop_errs (E := grpE t (ix t i).OneOf) (k := cnts (ix t i).Parts 1000) (len := (ix t i).OneOf.length) (fun back v hv => ?_) (fun back => ?_) (by omega)]
  · unfold taskE large
    cases nameB (ix t i).Name
    · rfl
    cases decide (findI (byName (ix t i).Name) t < (i : Int))
    · cases (!((decide (0 ≤ (ix t i).Cents)) && (decide ((ix t i).Cents ≤ 1000000000)))) || (!((decide (0 ≤ (ix t i).Hours)) && (decide ((ix t i).Hours ≤ 10000))))
      · simp only [Bool.not_true, cond_false]
        cases decide (10 < (ix t i).Needs.length) || decide (6 < (ix t i).OneOf.length)
        · simp only [Bool.not_false, cond_true, Bool.false_or]
          cases ((ix t i).OneOf.any fun g => decide (6 < g.length)) || decide (10 < (ix t i).Parts.length)
          · cases known t (ix t i).Needs != 0 <;> rfl
          · rfl
        · simp
      · rfl
    · rfl
  · rw [restore_list_checkTask_L1]
    have hg := h.group _ hx _ (ix_mem hv)
    simp only [e, hv, decide_true, cond_true, chk_t, known_res (n := n) (t := t) (ix (ix t i).OneOf v) hn (by omega) (by omega), Option.bind_some, nI_of (by omega : v + 1 ≤ 9223372036854775807), grpE]
    cases decide ((ix (ix t i).OneOf v).length = 0)
    · rfl
    · rfl
  · rw [restore_list_checkTask_L1]
    simp [e]
theorem task_ref {t : List Task} (h : OkT t) (hn : 1000 < n) {i : Nat} (hi : i < t.length) : agrafferef08_task n t ((i : Nat) : Int) = some (taskE t i) := by
  have hx := ix_mem hi
  have hlen := h.len
  have h1 := h.name _ hx
  have h2 := h.needs _ hx
  have h3 := h.oneof _ hx
  have h4 := h.parts _ hx
  rw [agrafferef08_task]
  have e : ((i : Nat) : Int).toNat = i := by omega
  have hin : inB ((i : Nat) : Int) t.length = true := inB_of (by omega) (by omega)
  have hic : inC ((i : Nat) : Int) t.length = true := inC_of (by omega) (by omega)
  have hself : t.any (byName (ix t i).Name) = true := List.any_eq_true.2 ⟨_, hx, by simp [byName]⟩
  have hft : decide ((0 : Int) ≤ findI (byName (ix t i).Name) (t.take i)) = decide (findI (byName (ix t i).Name) t < (i : Int)) := by
    rw [findI_any, findI_take, hself, Bool.and_true]
  simp only [e, hin, hic, hi, decide_true, chk_t, IsName_eq (ix t i).Name n (by omega) (by omega), Option.bind_some, Find_eq (n := n) (t.take i) (ix t i).Name (by simp; omega) (by simp; omega), hft, agraffebase_Within, gcall_some_,
    known_ref (n := n) (t := t) (ix t i).Needs hn (by omega) (by omega), withK_eq, counts_ref (n := n) (l := (ix t i).Parts) 1000 hn (by omega) (h.part _ hx)]
  rw [loop_errs (E := grpE t (ix t i).OneOf) (k := cnts (ix t i).Parts 1000) (len := (ix t i).OneOf.length) (fun back v hv => ?_) (fun back => ?_) (by omega)]
  · rw [loop_fold (σ := Bool) (st := fun v => ((decide (10 < (ix t i).Needs.length) || decide (6 < (ix t i).OneOf.length)) || decide (10 < (ix t i).Parts.length)) || ((ix t i).OneOf.take v).any (fun g => decide (6 < g.length))) (len := (ix t i).OneOf.length) (k := bif large (ix t i) then some 8 else bif known t (ix t i).Needs != 0 then some (known t (ix t i).Needs) else some (bif firstE (grpE t (ix t i).OneOf) 0 (ix t i).OneOf.length != 0 then firstE (grpE t (ix t i).OneOf) 0 (ix t i).OneOf.length else cnts (ix t i).Parts 1000)) (fun back v hv => ?_) (fun back => ?_) n (by omega) (by simp)]
    · unfold taskE
      cases nameB (ix t i).Name
      · rfl
      cases decide (findI (byName (ix t i).Name) t < (i : Int))
      · cases (!((decide (0 ≤ (ix t i).Cents)) && (decide ((ix t i).Cents ≤ 1000000000)))) || (!((decide (0 ≤ (ix t i).Hours)) && (decide ((ix t i).Hours ≤ 10000))))
        · simp only [Bool.not_true, cond_false]
          cases large (ix t i)
          · cases known t (ix t i).Needs != 0 <;> rfl
          · rfl
        · rfl
      · rfl
    · rw [agrafferef08_task_L1]
      simp only [e, hv, decide_true, cond_true, Bool.or_true, chk_t, nI_of (by omega : v + 1 ≤ 9223372036854775807)]
      rw [List.take_succ_eq_append_getElem hv, List.any_append, ix_eq hv]
      simp [Bool.or_assoc]
    · rw [agrafferef08_task_L1]
      have : (((decide (10 < (ix t i).Needs.length) || decide (6 < (ix t i).OneOf.length)) || decide (10 < (ix t i).Parts.length)) || (ix t i).OneOf.any (fun g => decide (6 < g.length))) = large (ix t i) := by
        unfold large
        cases decide (10 < (ix t i).Needs.length) || decide (6 < (ix t i).OneOf.length) <;> cases decide (10 < (ix t i).Parts.length) <;> cases (ix t i).OneOf.any (fun g => decide (6 < g.length)) <;> rfl
      simp only [e, Nat.lt_irrefl, decide_false, cond_false, List.take_length, this]
  · rw [agrafferef08_task_L2]
    have hg := h.group _ hx _ (ix_mem hv)
    simp only [e, hv, decide_true, cond_true, chk_t, known_ref (n := n) (t := t) (ix (ix t i).OneOf v) hn (by omega) (by omega), Option.bind_some, nI_of (by omega : v + 1 ≤ 9223372036854775807), grpE]
    cases decide ((ix (ix t i).OneOf v).length = 0)
    · rfl
    · rfl
  · rw [agrafferef08_task_L2]
    simp [e]
end
section
set_option maxRecDepth 4000
open Go
variable {n : Nat}
theorem nodup_len {α : Type} [DecidableEq α] : ∀ (l m : List α), l.Nodup → (∀ x ∈ l, x ∈ m) → l.length ≤ m.length
  | [], _, _, _ => Nat.zero_le _
  | a :: l, m, h, hs => by
    have ha : a ∈ m := hs a (by simp)
    have h2 := List.nodup_cons.1 h
    have := nodup_len l (m.erase a) h2.2 fun x hx => (List.mem_erase_of_ne (by rintro rfl; exact h2.1 hx)).2 (hs x (by simp [hx]))
    rw [List.length_erase_of_mem ha] at this
    have hm := List.length_pos_of_mem ha
    simp only [List.length_cons]; omega
theorem any_isS {l : List Str} {s : Str} : l.any (isS s) = true ↔ s ∈ l := by
  rw [List.any_eq_true]
  constructor
  · rintro ⟨x, hx, h⟩; rw [← eq_of_beq h]; exact hx
  · exact fun h => ⟨s, h, by simp [isS]⟩
theorem any_byName {t : List Task} {s : Str} : t.any (byName s) = true ↔ ∃ x ∈ t, x.Name = s := by
  rw [List.any_eq_true]
  constructor
  · rintro ⟨x, hx, h⟩; exact ⟨x, hx, eq_of_beq h⟩
  · rintro ⟨x, hx, h⟩; exact ⟨x, hx, by simp [byName, h]⟩
def leads (x : Task) : List Str := x.Needs ++ x.OneOf.flatten
theorem flatten_len {b : Nat} : ∀ (l : List (List Str)), (∀ g ∈ l, g.length ≤ b) → l.flatten.length ≤ l.length * b
  | [], _ => by simp
  | g :: l, h => by
    have h1 := h g (by simp)
    have h2 := flatten_len l fun x hx => h x (by simp [hx])
    simp only [List.flatten_cons, List.length_append, List.length_cons, Nat.succ_mul]; omega
theorem take_flatten {α : Type} [Inhabited α] {l : List (List α)} {v : Nat} (hv : v < l.length) : (l.take (v + 1)).flatten = (l.take v).flatten ++ ix l v := by
  rw [List.take_succ_eq_append_getElem hv, List.flatten_append, ix_eq hv]; simp
theorem Grow_eq (a : Nat) (ha : a ≤ 100000) : slices_Grow_string n ((a : Nat) : Int) = some [] := by
  rw [slices_Grow_string]
  have h1 : ¬ ((a : Nat) : Int) < 0 := by omega
  have h2 : ((a : Nat) : Int) - (0 - 0) = (a : Int) := by omega
  have h3 : (((a : Nat) : Int)).toNat = a := by omega
  simp only [h1, h2, decide_false, cond_false, withK_eq]
  rw [chk_of (inI_of (by omega) (by omega)), chk_of (inI_of (by omega) (by omega))]
  by_cases h : 0 < a
  · have h4 : (0 : Int) < ((a : Nat) : Int) := by omega
    have h5 : (0 : Int) ≤ ((a : Nat) : Int) := by omega
    have hr : room 16 a = true := room_of (by omega) (by omega)
    simp [h4, h5, h3, h, hr]
  · have h4 : ¬ (0 : Int) < ((a : Nat) : Int) := by omega
    simp only [h4, decide_false, cond_false]
theorem Concat_eq (l : List (List Str)) (hl : l.length ≤ 900) (hs : l.flatten.length ≤ 10000) (hn : 1000 < n) : slices_Concat_string n l = some l.flatten := by
  have htk : ∀ v, v ≤ l.length → (l.take v).flatten.length ≤ l.flatten.length := by
    intro v _
    have : l.flatten = (l.take v).flatten ++ (l.drop v).flatten := by rw [← List.flatten_append, List.take_append_drop]
    rw [this, List.length_append]; omega
  rw [slices_Concat_string, withK_eq]
  rw [loop_fold (σ := Nat) (st := fun v => (l.take v).flatten.length) (len := l.length) (k := some l.flatten) (fun back v hv => ?_) (fun back => ?_) n (by omega) (by simp)]
  · rw [slices_Concat_string_L1]
    have h1 := htk (v + 1) (by omega)
    rw [take_flatten hv, List.length_append] at h1
    have h2 : ¬ ((l.take v).flatten.length + (ix l v).length < 0) := by omega
    simp only [hv, decide_true, cond_true, nI_of (by omega : (l.take v).flatten.length + (ix l v).length ≤ 9223372036854775807), chk_t, h2, decide_false, cond_false, nI_of (by omega : v + 1 ≤ 9223372036854775807)]
    rw [take_flatten hv, List.length_append]
  · rw [slices_Concat_string_L1]
    have h1 := htk l.length (Nat.le_refl _)
    simp only [Nat.lt_irrefl, decide_false, cond_false, Grow_eq (n := n) (l.take l.length).flatten.length (by omega), Option.bind_some, withK_eq]
    refine loop_fold' (σ := List Str) (st := fun v => (l.take v).flatten) (len := l.length) (fun back v hv => ?_) (fun back => ?_) n (by omega) (by simp)
    · rw [slices_Concat_string_L2]
      have h1 := htk (v + 1) (by omega)
      rw [take_flatten hv] at h1
      simp only [hv, decide_true, cond_true, room_of (b := 16) (n := ((l.take v).flatten ++ ix l v).length) (by omega) (by omega), chk_t, nI_of (by omega : v + 1 ≤ 9223372036854775807)]
      rw [take_flatten hv]
    · rw [slices_Concat_string_L2]; simp
theorem leads_len {t : List Task} (h : OkT t) {x : Task} (hx : x ∈ t) : (leads x).length ≤ 100 := by
  have h1 := h.needs x hx
  have h2 := h.oneof x hx
  have h3 := flatten_len (b := 9) x.OneOf (h.group x hx)
  simp only [leads, List.length_append]; omega
theorem leads_res {t : List Task} (h : OkT t) {x : Task} (hx : x ∈ t) (hn : 1000 < n) : restore_leads n x = some (leads x) := by
  have h1 := leads_len h hx
  have h2 := h.oneof x hx
  rw [restore_leads]
  have e : ([x.Needs] ++ x.OneOf : List (List Str)).flatten = leads x := by simp [leads]
  rw [chk_of (room_of (by simp; omega) (by simp; omega)), Concat_eq _ (by simp; omega) (by rw [e]; omega) hn, e]
  rfl
theorem Leads_ref {t : List Task} (h : OkT t) {x : Task} (hx : x ∈ t) (hn : 1000 < n) : agrafferef08_Leads n x = some (leads x) := by
  have h1 := leads_len h hx
  have h2 := h.oneof x hx
  have h3 := h.needs x hx
  have htk : ∀ v, v ≤ x.OneOf.length → (x.OneOf.take v).flatten.length ≤ x.OneOf.flatten.length := by
    intro v _
    have : x.OneOf.flatten = (x.OneOf.take v).flatten ++ (x.OneOf.drop v).flatten := by rw [← List.flatten_append, List.take_append_drop]
    rw [this, List.length_append]; omega
  rw [agrafferef08_Leads, agraffebase_CopyTexts_2, chk_of (room_of (by omega) (by omega))]
  simp only [Option.bind_some, withK_eq]
  refine loop_fold' (σ := List Str) (st := fun v => x.Needs ++ (x.OneOf.take v).flatten) (len := x.OneOf.length) (fun back v hv => ?_) (fun back => ?_) n (by omega) (by simp)
  · rw [agrafferef08_Leads_L1]
    have h4 := htk (v + 1) (by omega)
    rw [take_flatten hv, List.length_append] at h4
    simp only [leads, List.length_append] at h1
    simp only [hv, decide_true, cond_true, room_of (b := 16) (n := (x.Needs ++ (x.OneOf.take v).flatten ++ ix x.OneOf v).length) (by simp only [List.length_append]; omega) (by simp only [List.length_append]; omega), chk_t, nI_of (by omega : v + 1 ≤ 9223372036854775807)]
    rw [take_flatten hv, List.append_assoc]
  · rw [agrafferef08_Leads_L1]; simp [leads]
def Inv (t : List Task) (out : List Str) : Prop := out.Nodup ∧ ∀ s ∈ out, t.any (byName s) = true
theorem Inv.len {t : List Task} {out : List Str} (h : Inv t out) : out.length ≤ t.length := by
  have := nodup_len out (t.map Task.Name) h.1 fun s hs => by
    obtain ⟨x, hx, rfl⟩ := any_byName.1 (h.2 s hs)
    exact List.mem_map.2 ⟨x, hx, rfl⟩
  simpa using this
theorem Inv.nil (t : List Task) : Inv t [] := ⟨List.nodup_nil, by simp⟩
def rdy (inS : Str → Bool) (out : List Str) (x : Task) : Bool := (inS x.Name && !out.any (isS x.Name)) && !(leads x).any (fun s => inS s && !out.any (isS s))
theorem Inv.step {t : List Task} {out : List Str} (h : Inv t out) {inS : Str → Bool} {x : Task} (hx : x ∈ t) (hr : rdy inS out x = true) : Inv t (out ++ [x.Name]) := by
  unfold rdy at hr
  simp only [Bool.and_eq_true, Bool.not_eq_true'] at hr
  have hn : x.Name ∉ out := fun hm => by
    have := any_isS.2 hm
    rw [hr.1.2] at this; cases this
  refine ⟨List.nodup_append.2 ⟨h.1, by simp, fun a ha b hb => ?_⟩, fun s hs => ?_⟩
  · simp only [List.mem_singleton] at hb
    subst hb
    rintro rfl; exact hn ha
  · rw [List.mem_append, List.mem_singleton] at hs
    rcases hs with hs | rfl
    · exact h.2 s hs
    · exact any_byName.2 ⟨x, hx, rfl⟩
def ordF (t : List Task) (inS : Str → Bool) : Nat → List Str → List Str
  | 0, out => out
  | k + 1, out => bif decide (findI (rdy inS out) t < 0) then out else ordF t inS k (out ++ [(ix t (findI (rdy inS out) t).toNat).Name])
theorem order_loop {F : (List Str → Option (List Str)) → List Str → Option (List Str)} {t : List Task} {inS : Str → Bool}
    (hF : ∀ back out, Inv t out → F back out = bif decide (findI (rdy inS out) t < 0) then some out else back (out ++ [(ix t (findI (rdy inS out) t).toNat).Name])) :
    ∀ n out, Inv t out → t.length - out.length < n → loopN F n out = some (ordF t inS n out) := by
  intro n
  induction n with
  | zero => intro out _ h; omega
  | succ n ih =>
    intro out hi hn
    rw [loopN_s, hF _ out hi, ordF]
    by_cases h : findI (rdy inS out) t < 0
    · simp [h]
    · obtain ⟨f1, f2, f3, f4⟩ := findI_pos h
      have hs := hi.step (ix_mem f2) f3
      have hl := hs.len
      simp only [List.length_append, List.length_singleton] at hl
      simp only [h, decide_false, cond_false]
      exact ih _ hs (by simp only [List.length_append, List.length_singleton]; omega)
theorem ordF_congr {t : List Task} {i1 i2 : Str → Bool} (h : ∀ x ∈ t, i1 x.Name = i2 x.Name ∧ ∀ s ∈ leads x, i1 s = i2 s) : ∀ n out, ordF t i1 n out = ordF t i2 n out := by
  intro n
  induction n with
  | zero => exact fun _ => rfl
  | succ n ih =>
    intro out
    have e : findI (rdy i1 out) t = findI (rdy i2 out) t := findI_congr fun x hx => by
      have e2 : (leads x).any (fun s => i1 s && !out.any (isS s)) = (leads x).any (fun s => i2 s && !out.any (isS s)) := any_congr fun s hs => by rw [(h x hx).2 s hs]
      unfold rdy
      rw [(h x hx).1, e2]
    rw [ordF, ordF, e, ih]
theorem order_res {t : List Task} (h : OkT t) (hn : 1000 < n) : restore_list_order n t = some (ordF t (fun _ => true) n []) := by
  have hlen := h.len
  rw [restore_list_order]
  refine order_loop (fun back out hi => ?_) n [] (Inv.nil t) (by simp; omega)
  have hol := hi.len
  rw [restore_list_order_L1]
  have h1 : ∀ s, restore_list_order_f1_2 n s out = some (!out.any (isS s)) := by
    intro s
    rw [restore_list_order_f1_2, restore_CheckTasks_f1, Contains2_eq out s (by omega) (by omega)]
    simp
  have h3 : ∀ l : List Str, l.length ≤ 900 → slices_ContainsFunc_string_3 n l out = some (l.any fun s => !out.any (isS s)) := by
    intro l hl
    rw [slices_ContainsFunc_string_3, slices_IndexFunc_string_3, withK_eq, loop_findI (l := l) (p := fun s => !out.any (isS s)) (fun back v hv => ?_) (fun back => ?_) n (by omega)]
    · simp only [Option.bind_some, findI_any]
    · rw [slices_IndexFunc_string_3_L1]; simp only [hv, h1, Option.bind_some, decide_true, cond_true, nI_of (by omega : v + 1 ≤ 9223372036854775807), chk_t]
    · rw [slices_IndexFunc_string_3_L1]; simp
  have h2 : ∀ x ∈ t, restore_list_order_f2_2 n x out = some (rdy (fun _ => true) out x) := by
    intro x hx
    rw [restore_list_order_f2_2, h1, leads_res h hx hn]
    simp only [Option.bind_some, gcall_some_]
    unfold rdy
    cases hb : out.any (isS x.Name)
    · simp only [Bool.not_false, cond_true, h3 (leads x) (by have := leads_len h hx; omega), gcall_some_, Option.bind_some, Bool.true_and]
    · simp [gcall]
  have h4 : slices_IndexFunc_Task_3 n t out = some (findI (rdy (fun _ => true) out) t) := by
    rw [slices_IndexFunc_Task_3, withK_eq]
    refine loop_findI (fun back v hv => ?_) (fun back => ?_) n (by omega)
    · rw [slices_IndexFunc_Task_3_L1]; simp only [hv, h2 _ (ix_mem hv), Option.bind_some, decide_true, cond_true, nI_of (by omega : v + 1 ≤ 9223372036854775807), chk_t]
    · rw [slices_IndexFunc_Task_3_L1]; simp
  rw [h4]
  simp only [Option.bind_some]
  by_cases hf : findI (rdy (fun _ => true) out) t < 0
  · simp [hf]
  · obtain ⟨f1, f2, f3, f4⟩ := findI_pos hf
    simp only [hf, decide_false, cond_false, inB_of f1 f2, chk_t, f2, decide_true]
    rw [chk_of (room_of (by simp; omega) (by simp; omega))]
theorem loop_flag {α R : Type} [Inhabited α] {l : List α} {p : α → Bool} {F : (Int × Nat → Option R) → Int × Nat → Option R} {k : Int → Option R}
    (h1 : ∀ back v, v < l.length → F back (-1, v) = bif p (ix l v) then back (((v : Nat) : Int), v + 1) else back (-1, v + 1))
    (h2 : ∀ back (i : Int) v, 0 ≤ i → F back (i, v) = k i) (h3 : ∀ back, F back (-1, l.length) = k (-1)) (n : Nat) (hn : l.length + 1 < n) : loopN F n (-1, 0) = k (findI p l) := by
  have : ∀ n v, v ≤ l.length → l.length - v + 1 < n → loopN F n (-1, v) = match (l.drop v).findIdx? p with | some i => k (((v + i : Nat) : Int)) | none => k (-1) := by
    intro n
    induction n with
    | zero => intro v _ h; omega
    | succ n ih =>
      intro v hv hn
      rw [loopN_s]
      by_cases h : v < l.length
      · rw [h1 _ v h, drop_ix h, List.findIdx?_cons]
        cases hp : p (ix l v) with
        | true =>
          obtain ⟨n, rfl⟩ : ∃ m, n = m + 1 := ⟨n - 1, by omega⟩
          simp only [cond_true, if_true, Nat.add_zero]
          rw [loopN_s, h2 _ _ _ (by omega)]
        | false =>
          simp only [cond_false, Bool.false_eq_true, if_false]
          rw [ih (v + 1) (by omega) (by omega)]
          cases hh : (l.drop (v + 1)).findIdx? p with
          | none => simp
          | some i => simp [Nat.add_assoc, Nat.add_comm 1 i]
      · have : v = l.length := by omega
        subst this
        rw [h3, drop_nil h]
        simp
  rw [this n 0 (by omega) (by omega), List.drop_zero, findI]
  cases l.findIdx? p <;> simp
theorem all_take {α : Type} [Inhabited α] {l : List α} {p : α → Bool} {v : Nat} (hv : v < l.length) : (l.take (v + 1)).all p = ((l.take v).all p && p (ix l v)) := by
  rw [List.take_succ_eq_append_getElem hv, List.all_append, ix_eq hv]; simp
theorem Order_ref {t : List Task} (h : OkT t) {set : List Str} (hset : set.length ≤ 900) (hn : 1000 < n) : agrafferef08_Order n t set = some (ordF t (fun s => set.any (isS s)) n []) := by
  have hlen := h.len
  rw [agrafferef08_Order]
  refine order_loop (fun back out hi => ?_) n [] (Inv.nil t) (by simp; omega)
  have hol := hi.len
  rw [agrafferef08_Order_L3, withK_eq]
  rw [loop_flag (l := t) (p := rdy (fun s => set.any (isS s)) out) (k := fun v51 => bif decide (v51 < (0 : Int)) then some out else
        chk (inB v51 t.length) <|
        chk (decide (v51.toNat < t.length)) <|
        chk (room 16 (out ++ ([(ix t v51.toNat).Name] : List Str)).length) <|
        back (out ++ ([(ix t v51.toNat).Name] : List Str))) (fun back v hv => ?_) (fun back i v hi => ?_) (fun back => ?_) n (by omega)]
  · by_cases hf : findI (rdy (fun s => set.any (isS s)) out) t < 0
    · simp [hf]
    · obtain ⟨f1, f2, f3, f4⟩ := findI_pos hf
      simp only [hf, decide_false, cond_false, inB_of f1 f2, chk_t, f2, decide_true]
      rw [chk_of (room_of (by simp; omega) (by simp; omega))]
  · rw [agrafferef08_Order_L2]
    have hx := ix_mem hv
    have hll := leads_len h hx
    simp only [hv, decide_true, cond_true, show decide ((-1 : Int) < 0) = true from rfl, Bool.and_self, withK_eq, chk_t, HasText_eq set (ix t v).Name (by omega : set.length < n) (by omega), HasText2_eq out (ix t v).Name (by omega : out.length < n) (by omega), Option.bind_some, gcall_some_, Leads_ref h hx hn, nI_of (by omega : v + 1 ≤ 9223372036854775807)]
    rw [loop_fold (σ := Bool) (st := fun v' => ((leads (ix t v)).take v').all fun s => !set.any (isS s) || out.any (isS s)) (len := (leads (ix t v)).length)
      (k := bif (leads (ix t v)).all (fun s => !set.any (isS s) || out.any (isS s)) then back (((v : Nat) : Int), v + 1) else back (-1, v + 1)) (fun back' v' hv' => ?_) (fun back' => ?_) n (by omega) (by simp)]
    · have hb : rdy (fun s => set.any (isS s)) out (ix t v) = ((set.any (isS (ix t v).Name) && !out.any (isS (ix t v).Name)) && !(leads (ix t v)).any (fun s => set.any (isS s) && !out.any (isS s))) := rfl
      have e : (leads (ix t v)).all (fun s => !set.any (isS s) || out.any (isS s)) = !(leads (ix t v)).any (fun s => set.any (isS s) && !out.any (isS s)) := by
        rw [List.not_any_eq_all_not]
        congr 1
        funext s
        cases set.any (isS s) <;> cases out.any (isS s) <;> rfl
      rw [hb, e]
      cases set.any (isS (ix t v).Name) <;> cases out.any (isS (ix t v).Name) <;> simp
    · rw [agrafferef08_Order_L1]
      simp only [hv', decide_true, cond_true, HasText_eq set (ix (leads (ix t v)) v') (by omega : set.length < n) (by omega), HasText2_eq out (ix (leads (ix t v)) v') (by omega : out.length < n) (by omega), Option.bind_some, gcall_some_, nI_of (by omega : v' + 1 ≤ 9223372036854775807), chk_t]
      rw [all_take hv']
      cases ((leads (ix t v)).take v').all fun s => !set.any (isS s) || out.any (isS s)
      · simp
      · cases set.any (isS (ix (leads (ix t v)) v')) <;> simp
    · rw [agrafferef08_Order_L1]
      simp
  · rw [agrafferef08_Order_L2]
    have : ¬ i < 0 := by omega
    simp [this]
  · rw [agrafferef08_Order_L2]
    simp
def tasksE (n : Nat) (t : List Task) : Int :=
  bif decide (60 < t.length) then 8 else bif firstE (taskE t) 0 t.length != 0 then firstE (taskE t) 0 t.length
  else bif decide ((ordF t (fun _ => true) n []).length < t.length) then 21 else 0
theorem CheckTasks_res {t : List Task} (h : OkT t) (hn : 1000 < n) : restore_CheckTasks n t = some (tasksE n t) := by
  have hlen := h.len
  rw [restore_CheckTasks, tasksE]
  by_cases hl : 60 < t.length
  · simp [hl]
  simp only [hl, decide_false, cond_false, withK_eq, order_res h hn, Option.bind_some]
  rw [loop_errs (E := taskE t) (len := t.length) (k := bif decide ((ordF t (fun _ => true) n []).length < t.length) then 21 else 0) (fun back v hv => ?_) (fun back => ?_) (by omega)]
  · rw [restore_CheckTasks_L1]
    simp only [hv, decide_true, cond_true, task_res h hn hv, Option.bind_some, nI_of (by omega : v + 1 ≤ 9223372036854775807), chk_t]
  · rw [restore_CheckTasks_L1]
    simp only [Nat.lt_irrefl, decide_false, cond_false]
    cases decide ((ordF t (fun _ => true) n []).length < t.length) <;> rfl
theorem lead_known {t : List Task} {i : Nat} (hi : i < t.length) (h : taskE t i = 0) : ∀ s ∈ leads (ix t i), t.any (byName s) = true := by
  unfold taskE at h
  cases h1 : nameB (ix t i).Name
  · simp [h1] at h
  rw [h1] at h
  simp only [Bool.not_true, cond_false] at h
  cases h2 : decide (findI (byName (ix t i).Name) t < (i : Int))
  · rw [h2] at h
    simp only [cond_false] at h
    cases h3 : (!((decide (0 ≤ (ix t i).Cents)) && (decide ((ix t i).Cents ≤ 1000000000)))) || (!((decide (0 ≤ (ix t i).Hours)) && (decide ((ix t i).Hours ≤ 10000))))
    · rw [h3] at h
      simp only [cond_false] at h
      cases h4 : large (ix t i)
      · rw [h4] at h
        simp only [cond_false] at h
        by_cases h5 : known t (ix t i).Needs = 0
        · simp only [h5, bne_self_eq_false, cond_false] at h
          by_cases h6 : firstE (grpE t (ix t i).OneOf) 0 (ix t i).OneOf.length = 0
          · intro s hs
            rw [leads, List.mem_append] at hs
            rcases hs with hs | hs
            · exact known_zero h5 s hs
            · obtain ⟨g, hg, hsg⟩ := List.mem_flatten.1 hs
              obtain ⟨k, hk, rfl⟩ := List.mem_iff_getElem.1 hg
              have := firstE_zero h6 k (by omega) (by omega)
              unfold grpE at this
              rw [ix_eq hk] at this
              cases h7 : decide ((ix t i).OneOf[k].length = 0)
              · rw [h7] at this
                simp only [cond_false] at this
                exact known_zero this s hsg
              · rw [h7] at this; simp at this
          · rw [bne_t h6, cond_true] at h; exact absurd h h6
        · rw [bne_t h5, cond_true] at h; exact absurd h h5
      · rw [h4] at h; simp at h
    · rw [h3] at h; simp at h
  · rw [h2] at h; simp at h
theorem CheckTasks_ref {t : List Task} (h : OkT t) (hn : 1000 < n) : agrafferef08_CheckTasks n t = some (tasksE n t) := by
  have hlen := h.len
  rw [agrafferef08_CheckTasks, tasksE]
  by_cases hl : 60 < t.length
  · simp [hl]
  simp only [hl, decide_false, cond_false, withK_eq]
  by_cases h0 : firstE (taskE t) 0 t.length = 0
  · have hcong : ordF t (fun s => (t.map Task.Name).any (isS s)) n [] = ordF t (fun _ => true) n [] := by
      refine ordF_congr (fun x hx => ⟨any_isS.2 (List.mem_map.2 ⟨x, hx, rfl⟩), fun s hs => ?_⟩) n []
      obtain ⟨i, hi, rfl⟩ := List.mem_iff_getElem.1 hx
      have hz := firstE_zero h0 i (by omega) (by omega)
      rw [← ix_eq hi] at hs
      obtain ⟨y, hy, e⟩ := any_byName.1 (lead_known hi hz s hs)
      exact any_isS.2 (List.mem_map.2 ⟨y, hy, e⟩)
    rw [loop_errs (E := taskE t) (len := t.length) (k := bif decide ((ordF t (fun _ => true) n []).length < t.length) then 21 else 0) (fun back v hv => ?_) (fun back => ?_) (by omega)]
    · rw [agrafferef08_CheckTasks_L1]
      simp only [hv, decide_true, cond_true, task_ref h hn hv, Option.bind_some, nI_of (by omega : v + 1 ≤ 9223372036854775807), chk_t]
    · rw [agrafferef08_CheckTasks_L1]
      simp only [Nat.lt_irrefl, decide_false, cond_false]
      rw [loop_fold (σ := List Str) (st := fun v => (t.take v).map Task.Name) (len := t.length) (k := some (bif decide ((ordF t (fun _ => true) n []).length < t.length) then 21 else 0)) (fun back v hv => ?_) (fun back => ?_) n (by omega) (by simp)]
      · rw [agrafferef08_CheckTasks_L2]
        simp only [hv, decide_true, cond_true, nI_of (by omega : v + 1 ≤ 9223372036854775807), chk_t]
        rw [chk_of (room_of (by simp; omega) (by simp; omega)), List.take_succ_eq_append_getElem hv, List.map_append, ix_eq hv]
        rfl
      · rw [agrafferef08_CheckTasks_L2]
        simp only [Nat.lt_irrefl, decide_false, cond_false, List.take_length, Order_ref h (set := t.map Task.Name) (by simp; omega) hn, Option.bind_some, hcong]
        cases decide ((ordF t (fun _ => true) n []).length < t.length) <;> rfl
  · rw [loop_first (st := fun v => v) (E := taskE t) (err := some) (k := agrafferef08_CheckTasks_L1 n t (fun _ => loopN (agrafferef08_CheckTasks_L2 t fun v6 => (agrafferef08_Order n t v6).bind fun y7 => bif decide (y7.length < t.length) then some 21 else some 0) n ([], 0)) (fun _ => none) t.length) (len := t.length) (fun back v hv _ => ?_) (fun back _ => ?_) n 0 (by omega) (by omega) (fun j h => by omega), Nat.sub_zero, bne_t h0, cond_true, cond_true]
    · rw [agrafferef08_CheckTasks_L1]
      simp only [hv, decide_true, cond_true, task_ref h hn hv, Option.bind_some, nI_of (by omega : v + 1 ≤ 9223372036854775807), chk_t]
    · rw [agrafferef08_CheckTasks_L1, agrafferef08_CheckTasks_L1]
      simp
end
section
set_option maxRecDepth 4000
open Go
def byPart (s : Str) (x : Stocked) : Bool := x.Part == s
theorem FindStock_eq (n : Nat) (a0 : List Stocked) (s : Str) (hn : a0.length < n) (hl : a0.length < 9223372036854775807) : agrafferef08_FindStock n a0 s = some (findI (byPart s) a0) := by
  rw [agrafferef08_FindStock, withK_eq]
  rw [loop_find (l := a0) (p := byPart s) (yes := fun v => some ((v : Nat) : Int)) (no := some (-1)) (fun back v => by rw [agrafferef08_FindStock_L1]; rfl) n 0 (by omega) hl]
  simp only [List.drop_zero, findI]
  cases a0.findIdx? (byPart s) <;> simp
theorem stocked_eq (n : Nat) (a0 : List Stocked) (s : Str) (hn : a0.length < n) (hl : a0.length < 9223372036854775807) : restore_stocked n a0 s = some (findI (byPart s) a0) := by
  rw [restore_stocked, slices_IndexFunc_Stocked, withK_eq]
  rw [loop_find (l := a0) (p := byPart s) (yes := fun v => some ((v : Nat) : Int)) (no := some (-1)) (fun back v => by rw [slices_IndexFunc_Stocked_L1]; simp only [restore_stocked_f1, Option.bind_some]; rfl) n 0 (by omega) hl]
  simp only [List.drop_zero, findI]
  cases a0.findIdx? (byPart s) <;> simp
def stockE (a0 : List Stocked) (v : Nat) : Int :=
  bif !nameB (ix a0 v).Part then 4 else bif decide ((0 : Int) ≤ findI (byPart (ix a0 v).Part) (a0.take v)) then 5
  else bif (!((decide (0 ≤ (ix a0 v).Cents)) && (decide ((ix a0 v).Cents ≤ 1000000000)))) || (!((decide (0 ≤ (ix a0 v).Count)) && (decide ((ix a0 v).Count ≤ 10000)))) then 2 else 0
def stockC (a0 : List Stocked) : Int := bif decide (60 < a0.length) then 8 else firstE (stockE a0) 0 a0.length
theorem CheckStock_res (n : Nat) (a0 : List Stocked) (hs : ∀ x ∈ a0, x.Part.length ≤ 20) (hn : 100 < n) : restore_CheckStock n a0 = some (stockC a0) := by
  rw [restore_CheckStock, stockC]
  by_cases hlen : 60 < a0.length
  · simp [hlen]
  simp only [hlen, decide_false, cond_false, withK_eq]
  rw [loop_first (st := fun v => v) (E := stockE a0) (err := some) (k := some 0) (len := a0.length) ?_ ?_ n 0 (by omega) (by omega) (fun j h => by omega)]
  · rw [Nat.sub_zero]; exact bif_id
  · intro back v hv _
    rw [restore_CheckStock_L1]
    have h1 := hs _ (ix_mem hv)
    have hI := isName_eq (ix a0 v).Part n (by omega) (by omega)
    have hF := stocked_eq n (a0.take v) (ix a0 v).Part (by simp; omega) (by simp; omega)
    have hle : v ≤ a0.length := by omega
    simp only [hv, hle, decide_true, cond_true, hI, Option.bind_some, hF, restore_within, gcall_some_, nI_of (by omega : v + 1 ≤ 9223372036854775807), chk_t, stockE]
    cases nameB (ix a0 v).Part <;> cases decide ((0 : Int) ≤ findI (byPart (ix a0 v).Part) (a0.take v)) <;> simp only [Bool.not_true, Bool.not_false, cond_true, cond_false] <;> first | rfl | skip
    cases ((!((decide (0 ≤ (ix a0 v).Cents)) && (decide ((ix a0 v).Cents ≤ 1000000000)))) || (!((decide (0 ≤ (ix a0 v).Count)) && (decide ((ix a0 v).Count ≤ 10000))))) <;> rfl
  · intro back _
    rw [restore_CheckStock_L1]
    simp
end
section
set_option maxRecDepth 4000
open Go
variable {n : Nat}
@[simp] theorem gcall_t {α : Type} [Inhabited α] (x : Option α) : gcall true x = x := rfl
@[simp] theorem gcall_f {α : Type} [Inhabited α] (x : Option α) : gcall false x = some default := rfl
def textsB (l : List Str) (m : Int) : Bool := !decide (m < (l.length : Int)) && !l.any fun s => decide (20 < s.length)
theorem texts_eq (l : List Str) (m : Int) (hm : m ≤ 500) (hn : 1000 < n) : agraffelaw08_texts n l m = some (textsB l m) := by
  rw [agraffelaw08_texts, textsB]
  by_cases h : m < (l.length : Int)
  · simp [h]
  · simp only [h, decide_false, cond_false, withK_eq]
    rw [loop_any' (l := l) (p := fun s => decide (20 < s.length)) (bad := some false) (no := some true) (fun back v hv => ?_) (fun back => ?_) n (by omega)]
    · cases l.any fun s => decide (20 < s.length) <;> rfl
    · rw [agraffelaw08_texts_L1]; simp only [hv, decide_true, cond_true, nI_of (by omega : v + 1 ≤ 9223372036854775807), chk_t]
    · rw [agraffelaw08_texts_L1]; simp
theorem textsB_len {l : List Str} {m : Int} (h : textsB l m = true) : (l.length : Int) ≤ m := by
  unfold textsB at h
  simp only [Bool.and_eq_true, Bool.not_eq_true', decide_eq_false_iff_not] at h
  omega
def badT (x : Task) : Bool := ((((decide (20 < x.Name.length)) || !textsB x.Needs 13) || decide (9 < x.OneOf.length)) || decide (13 < x.Parts.length)) || (x.OneOf.any (fun g => !textsB g 9) || x.Parts.any (fun p => decide (20 < p.Part.length)))
def fewB (t : List Task) : Bool := !(((decide (9 < t.length)) && decide (t.length ≤ 60)) || decide (63 < t.length)) && !t.any badT
theorem Few_eq (t : List Task) (hn : 1000 < n) : agraffelaw08_Few n t = some (fewB t) := by
  rw [agraffelaw08_Few, fewB]
  cases hl : ((decide (9 < t.length)) && decide (t.length ≤ 60)) || decide (63 < t.length)
  · simp only [Bool.or_eq_false_iff, decide_eq_false_iff_not] at hl
    simp only [cond_false, withK_eq, Bool.not_false, Bool.true_and]
    rw [loop_any' (l := t) (p := badT) (bad := some false) (no := some true) (fun back v hv => ?_) (fun back => ?_) n (by omega)]
    · cases t.any badT <;> rfl
    · rw [agraffelaw08_Few_L3]
      simp only [hv, decide_true, cond_true, nI_of (by omega : v + 1 ≤ 9223372036854775807), chk_t, withK_eq, texts_eq (n := n) (ix t v).Needs 13 (by omega) hn, gcall_some_, Option.bind_some]
      have e : ((((decide (20 < (ix t v).Name.length)) || !(bif !decide (20 < (ix t v).Name.length) then textsB (ix t v).Needs 13 else default)) || decide (9 < (ix t v).OneOf.length)) || decide (13 < (ix t v).Parts.length)) = ((((decide (20 < (ix t v).Name.length)) || !textsB (ix t v).Needs 13) || decide (9 < (ix t v).OneOf.length)) || decide (13 < (ix t v).Parts.length)) := by
        cases decide (20 < (ix t v).Name.length) <;> simp
      rw [e]
      unfold badT
      cases hb : ((((decide (20 < (ix t v).Name.length)) || !textsB (ix t v).Needs 13) || decide (9 < (ix t v).OneOf.length)) || decide (13 < (ix t v).Parts.length))
      · simp only [Bool.or_eq_false_iff, decide_eq_false_iff_not] at hb
        simp only [cond_false, Bool.false_or]
        rw [loop_any' (l := (ix t v).OneOf) (p := fun g => !textsB g 9) (bad := some false) (no := bif (ix t v).Parts.any (fun p => decide (20 < p.Part.length)) then some false else back (v + 1)) (fun back' v' hv' => ?_) (fun back' => ?_) n (by omega)]
        · cases (ix t v).OneOf.any fun g => !textsB g 9 <;> rfl
        · rw [agraffelaw08_Few_L1]
          simp only [hv', decide_true, cond_true, chk_t, texts_eq (n := n) (ix (ix t v).OneOf v') 9 (by omega) hn, Option.bind_some, nI_of (by omega : v' + 1 ≤ 9223372036854775807)]
        · rw [agraffelaw08_Few_L1]
          simp only [Nat.lt_irrefl, decide_false, cond_false]
          rw [loop_any' (l := (ix t v).Parts) (p := fun p => decide (20 < p.Part.length)) (bad := some false) (no := back (v + 1)) (fun back' v' hv' => ?_) (fun back' => ?_) n (by omega)]
          · rw [agraffelaw08_Few_L2]
            simp only [hv', decide_true, cond_true, chk_t, nI_of (by omega : v' + 1 ≤ 9223372036854775807)]
          · rw [agraffelaw08_Few_L2]
            simp
      · simp
    · rw [agraffelaw08_Few_L3]; simp
  · simp
theorem few_ok {t : List Task} (h : fewB t = true) : OkT t := by
  unfold fewB at h
  simp only [Bool.and_eq_true, Bool.not_eq_true', Bool.or_eq_false_iff, decide_eq_false_iff_not] at h
  obtain ⟨⟨_, hl⟩, hb⟩ := h
  rw [List.any_eq_false] at hb
  have key : ∀ x ∈ t, x.Name.length ≤ 20 ∧ textsB x.Needs 13 = true ∧ x.OneOf.length ≤ 9 ∧ x.Parts.length ≤ 13 ∧ (∀ g ∈ x.OneOf, textsB g 9 = true) ∧ ∀ p ∈ x.Parts, p.Part.length ≤ 20 := by
    intro x hx
    have h1 := hb x hx
    unfold badT at h1
    simp only [Bool.not_eq_true, Bool.or_eq_false_iff, decide_eq_false_iff_not, Bool.not_eq_false', List.any_eq_false, decide_eq_true_eq, Bool.not_eq_true'] at h1
    obtain ⟨⟨⟨⟨a, b⟩, c⟩, d⟩, e, f⟩ := h1
    refine ⟨by omega, b, by omega, by omega, fun g hg => ?_, fun p hp => ?_⟩
    · have := e g hg
      simpa using this
    · have := f p hp
      omega
  refine ⟨by omega, fun x hx => (key x hx).1, fun x hx => ?_, fun x hx => (key x hx).2.2.1, fun x hx g hg => ?_, fun x hx => (key x hx).2.2.2.1, fun x hx => (key x hx).2.2.2.2.2⟩
  · have := textsB_len (key x hx).2.1; omega
  · have := textsB_len ((key x hx).2.2.2.2.1 g hg); omega
def OkF (f : List Finding) : Prop := f.length ≤ 900 ∧ ∀ x ∈ f, x.Name.length ≤ 20 ∧ x.Tasks.length ≤ 500
def findE (t : List Task) (f : List Finding) (v : Nat) : Int :=
  bif !nameB (ix f v).Name then 4 else bif (f.take v).any (fun y => y.Name == (ix f v).Name) then 5 else bif decide (20 < (ix f v).Tasks.length) then 8 else known t (ix f v).Tasks
def findsE (n : Nat) (t : List Task) (f : List Finding) : Int := bif tasksE n t != 0 then tasksE n t else bif decide (40 < f.length) then 8 else firstE (findE t f) 0 f.length
end
section
set_option maxRecDepth 4000
open Go
theorem loop_inv {σ R : Type} {F : (σ → Option R) → σ → Option R} {P : Nat → σ → Prop} {len : Nat} (h1 : ∀ back v s, v < len → P v s → ∃ s', P (v + 1) s' ∧ F back s = back s') : ∀ n v s, v ≤ len → len - v < n → P v s → ∃ s' back, P len s' ∧ loopN F n s = F back s' := by
  intro n
  induction n with
  | zero => intro v s _ h; omega
  | succ n ih =>
    intro v s hv hn hp
    rw [loopN_s]
    by_cases h : v < len
    · obtain ⟨s', p, e⟩ := h1 (loopN F n) v s h hp
      rw [e]
      exact ih (v + 1) s' (by omega) (by omega) p
    · have : v = len := by omega
      subst this
      exact ⟨s, loopN F n, hp, rfl⟩
end
section
set_option maxRecDepth 4000
open Go
def sm (f : Nat → Int) : Nat → Int
  | 0 => 0
  | k + 1 => sm f k + f k
theorem sm_le {f : Nat → Int} {c : Int} : ∀ n, (∀ i, i < n → f i ≤ c) → sm f n ≤ n * c
  | 0, _ => by simp [sm]
  | k + 1, h => by
    have h1 := sm_le k fun i hi => h i (by omega)
    have h2 := h k (by omega)
    have e : ((k + 1 : Nat) : Int) * c = k * c + c := by rw [Int.natCast_add, Int.add_mul]; simp
    rw [e, sm]; omega
theorem sm_nn {f : Nat → Int} : ∀ n, (∀ i, i < n → 0 ≤ f i) → 0 ≤ sm f n
  | 0, _ => by simp [sm]
  | k + 1, h => by
    have h1 := sm_nn k fun i hi => h i (by omega)
    have h2 := h k (by omega)
    rw [sm]; omega
theorem sm_congr {f g : Nat → Int} : ∀ n, (∀ i, i < n → f i = g i) → sm f n = sm g n
  | 0, _ => rfl
  | k + 1, h => by rw [sm, sm, sm_congr k fun i hi => h i (by omega), h k (by omega)]
end
section
set_option maxRecDepth 4000
open Go
variable {n : Nat}
theorem bLt_irr (a : Str) : bLt a a = false := by
  induction a with
  | nil => rfl
  | cons x a ih => simp [bLt, Op.bytesLess] at ih ⊢; exact ih
theorem bLt_tri : ∀ (a b : Str), bLt a b = true ∨ a = b ∨ bLt b a = true
  | [], [] => .inr (.inl rfl)
  | [], y :: b => .inl (by simp [bLt, Op.bytesLess])
  | x :: a, [] => .inr (.inr (by simp [bLt, Op.bytesLess]))
  | x :: a, y :: b => by
    have ih := bLt_tri a b
    simp only [bLt, Op.bytesLess] at ih ⊢
    by_cases h : x < y
    · simp [h]
    · by_cases g : y < x
      · simp [g]
      · have : x = y := UInt8.le_antisymm (UInt8.not_lt.1 g) (UInt8.not_lt.1 h)
        subst this
        simpa [h] using ih
theorem bLt_trans : ∀ (a b c : Str), bLt a b = true → bLt b c = true → bLt a c = true
  | [], [], c, h, _ => by simp [bLt, Op.bytesLess] at h
  | [], y :: b, [], _, g => by simp [bLt, Op.bytesLess] at g
  | [], y :: b, z :: c, _, _ => by simp [bLt, Op.bytesLess]
  | x :: a, [], c, h, _ => by simp [bLt, Op.bytesLess] at h
  | x :: a, y :: b, [], _, g => by simp [bLt, Op.bytesLess] at g
  | x :: a, y :: b, z :: c, h, g => by
    have ih := bLt_trans a b c
    simp only [bLt, Op.bytesLess, Bool.or_eq_true, Bool.and_eq_true, decide_eq_true_eq, beq_iff_eq] at ih h g ⊢
    rcases h with h | ⟨h1, h2⟩
    · rcases g with g | ⟨g1, g2⟩
      · exact .inl (UInt8.lt_trans h g)
      · subst g1; exact .inl h
    · subst h1
      rcases g with g | ⟨g1, g2⟩
      · exact .inl g
      · exact .inr ⟨g1, ih h2 g2⟩
theorem bLt_asym {a b : Str} (h : bLt a b = true) : bLt b a = false := by
  cases g : bLt b a with
  | false => rfl
  | true => have := bLt_trans _ _ _ h g; rw [bLt_irr] at this; cases this
theorem bLt_not (a b : Str) : (!bLt a b) = (bLt b a || (b == a)) := by
  rcases bLt_tri a b with h | h | h
  · have g := bLt_asym h
    have : (b == a) = false := by
      rw [beq_eq_false_iff_ne]; rintro rfl; rw [bLt_irr] at h; cases h
    simp [h, g, this]
  · subst h; simp [bLt_irr]
  · simp [h, bLt_asym h]
def Asc (l : List Str) : Prop := l.Pairwise fun a b => bLt a b = true
theorem Asc.ext : ∀ {l m : List Str}, Asc l → Asc m → (∀ s, s ∈ l ↔ s ∈ m) → l = m
  | [], [], _, _, _ => rfl
  | [], y :: m, _, _, h => by have := (h y).2 (by simp); simp at this
  | x :: l, [], _, _, h => by have := (h x).1 (by simp); simp at this
  | x :: l, y :: m, h1, h2, h => by
    have g1 := List.pairwise_cons.1 h1
    have g2 := List.pairwise_cons.1 h2
    have e : x = y := by
      have a1 := (h x).1 (by simp)
      have a2 := (h y).2 (by simp)
      rcases List.mem_cons.1 a1 with c | c
      · exact c
      · rcases List.mem_cons.1 a2 with d | d
        · exact d.symm
        · have u1 := g2.1 x c
          have u2 := g1.1 y d
          rw [bLt_asym u1] at u2; cases u2
    subst e
    congr 1
    refine Asc.ext g1.2 g2.2 fun s => ?_
    have hs := h s
    simp only [List.mem_cons] at hs
    constructor
    · intro hl
      rcases hs.1 (.inr hl) with c | c
      · subst c; have := g1.1 _ hl; rw [bLt_irr] at this; cases this
      · exact c
    · intro hl
      rcases hs.2 (.inr hl) with c | c
      · subst c; have := g2.1 _ hl; rw [bLt_irr] at this; cases this
      · exact c
theorem Asc.of_ix {l : List Str} (h : ∀ v, 1 ≤ v → v < l.length → bLt (ix l (v - 1)) (ix l v) = true) : Asc l := by
  have key : ∀ d i, i + d + 1 < l.length → bLt (ix l i) (ix l (i + d + 1)) = true := by
    intro d
    induction d with
    | zero => intro i hi; exact h (i + 1) (by omega) hi
    | succ d ih => intro i hi; exact bLt_trans _ _ _ (ih i (by omega)) (h (i + (d + 1) + 1) (by omega) hi)
  rw [Asc, List.pairwise_iff_getElem]
  intro i j hi hj hij
  have := key (j - i - 1) i (by omega)
  rw [show i + (j - i - 1) + 1 = j by omega, ix_eq hi, ix_eq hj] at this
  exact this
theorem Asc.nodup {l : List Str} (h : Asc l) : l.Nodup := by
  rw [List.nodup_iff_pairwise_ne]
  refine List.Pairwise.imp ?_ h
  rintro a b hab rfl
  rw [bLt_irr] at hab; cases hab
def setE1 (t : List Task) (l : List Str) (v : Nat) : Int := bif !t.any (byName (ix l v)) then 6 else 0
def setE2 (l : List Str) (v : Nat) : Int := bif !bLt (ix l (v - 1)) (ix l v) then 9 else 0
def setE (t : List Task) (l : List Str) : Int := bif firstE (setE1 t l) 0 l.length != 0 then firstE (setE1 t l) 0 l.length else firstE (setE2 l) 1 (l.length - 1)
theorem set_loop2 {F : (Nat → Option Int) → Nat → Option Int} {l : List Str} (h1 : ∀ back v, 1 ≤ v → v < l.length → F back v = bif !bLt (ix l (v - 1)) (ix l v) then some 9 else back (v + 1)) (h2 : ∀ back v, l.length ≤ v → F back v = some 0) (hl : l.length < n) : loopN F n 1 = some (firstE (setE2 l) 1 (l.length - 1)) := by
  have main : ∀ n v, 1 ≤ v → l.length - v < n → loopN F n v = some (firstE (setE2 l) v (l.length - v)) := by
    intro n
    induction n with
    | zero => intro v _ h; omega
    | succ n ih =>
      intro v hv hn
      rw [loopN_s]
      by_cases h : v < l.length
      · rw [h1 _ _ hv h, ih (v + 1) (by omega) (by omega), show l.length - v = (l.length - (v + 1)) + 1 by omega, firstE, setE2]
        cases !bLt (ix l (v - 1)) (ix l v) <;> simp
      · rw [h2 _ _ (by omega), show l.length - v = 0 by omega]; rfl
  exact main n 1 (by omega) (by omega)
theorem set_res {t : List Task} {l : List Str} (ht : t.length ≤ 900) (hl : l.length ≤ 900) (hn : 1000 < n) : restore_list_checkSet n t l = some (setE t l) := by
  rw [restore_list_checkSet]
  simp only [withK_eq]
  rw [set_loop2 (n := n) (l := l) (fun back v h1 h2 => ?_) (fun back v h => ?_) (by omega), setE]
  · rw [loop_errs (n := n) (E := setE1 t l) (len := l.length) (k := firstE (setE2 l) 1 (l.length - 1)) (fun back v hv => ?_) (fun back => ?_) (by omega)]
    · rw [restore_list_checkSet_L1]
      simp only [hv, decide_true, cond_true, find_eq t (ix l v) (by omega : t.length < n) (by omega), Option.bind_some, findI_none, nI_of (by omega : v + 1 ≤ 9223372036854775807), chk_t, setE1]
      cases !t.any (byName (ix l v)) <;> rfl
    · rw [restore_list_checkSet_L1]; simp
  · have e : (((v : Nat) : Int) - 1).toNat = v - 1 := by omega
    rw [restore_list_checkSet_L2]
    simp only [h2, decide_true, cond_true, e, show v - 1 < l.length by omega, chk_t]
    rw [chk_of (inI_of (by omega) (by omega)), chk_of (inB_of (by omega) (by omega)), ← bLt_not, chk_of (nI_of (by omega))]
  · rw [restore_list_checkSet_L2]
    simp [show ¬ v < l.length by omega]
theorem set_ref {t : List Task} {l : List Str} (ht : t.length ≤ 900) (hl : l.length ≤ 900) (hn : 1000 < n) : agrafferef08_CheckSet n t l = some (setE t l) := by
  rw [agrafferef08_CheckSet]
  simp only [withK_eq]
  rw [set_loop2 (n := n) (l := l) (fun back v h1 h2 => ?_) (fun back v h => ?_) (by omega), setE]
  · rw [loop_errs (n := n) (E := setE1 t l) (len := l.length) (k := firstE (setE2 l) 1 (l.length - 1)) (fun back v hv => ?_) (fun back => ?_) (by omega)]
    · rw [agrafferef08_CheckSet_L1]
      simp only [hv, decide_true, cond_true, Find_eq t (ix l v) (by omega : t.length < n) (by omega), Option.bind_some, findI_none, nI_of (by omega : v + 1 ≤ 9223372036854775807), chk_t, setE1]
      cases !t.any (byName (ix l v)) <;> rfl
    · rw [agrafferef08_CheckSet_L1]; simp
  · have e : (((v : Nat) : Int) - 1).toNat = v - 1 := by omega
    rw [agrafferef08_CheckSet_L2]
    simp only [h2, decide_true, cond_true, e, show v - 1 < l.length by omega, chk_t]
    rw [chk_of (inI_of (by omega) (by omega)), chk_of (inB_of (by omega) (by omega)), chk_of (nI_of (by omega))]
  · rw [agrafferef08_CheckSet_L2]
    simp [show ¬ v < l.length by omega]
theorem set_ok {t : List Task} {l : List Str} (h : setE t l = 0) : (∀ s ∈ l, t.any (byName s) = true) ∧ Asc l := by
  unfold setE at h
  by_cases h1 : firstE (setE1 t l) 0 l.length = 0
  · rw [h1] at h
    simp only [bne_self_eq_false, cond_false] at h
    refine ⟨fun s hs => ?_, Asc.of_ix fun v h2 h3 => ?_⟩
    · obtain ⟨i, hi, rfl⟩ := List.mem_iff_getElem.1 hs
      have := firstE_zero h1 i (by omega) (by omega)
      unfold setE1 at this
      rw [ix_eq hi] at this
      cases h4 : t.any (byName l[i])
      · rw [h4] at this; simp at this
      · rfl
    · have := firstE_zero h v (by omega) (by omega)
      unfold setE2 at this
      cases h4 : bLt (ix l (v - 1)) (ix l v)
      · rw [h4] at this; simp at this
      · rfl
  · rw [bne_t h1] at h
    exact absurd h h1
theorem set_zero {t : List Task} {l : List Str} (h1 : ∀ s ∈ l, t.any (byName s) = true) (h2 : Asc l) : setE t l = 0 := by
  have e1 : ∀ m v, v + m ≤ l.length → firstE (setE1 t l) v m = 0 := by
    intro m
    induction m with
    | zero => intro v _; rfl
    | succ m ih =>
      intro v hv
      have : setE1 t l v = 0 := by
        unfold setE1
        rw [h1 _ (ix_mem (by omega : v < l.length))]; rfl
      rw [firstE, this, ih (v + 1) (by omega)]; rfl
  have e2 : ∀ m v, 1 ≤ v → v + m ≤ l.length → firstE (setE2 l) v m = 0 := by
    intro m
    induction m with
    | zero => intro v _ _; rfl
    | succ m ih =>
      intro v h0 hv
      have : setE2 l v = 0 := by
        unfold setE2
        have := List.pairwise_iff_getElem.1 h2 (v - 1) v (by omega) (by omega) (by omega)
        rw [ix_eq (by omega : v - 1 < l.length), ix_eq (by omega : v < l.length), this]; rfl
      rw [firstE, this, ih (v + 1) (by omega) (by omega)]; rfl
  unfold setE
  rw [e1 l.length 0 (by omega)]
  simp only [bne_self_eq_false, cond_false]
  cases hl : l.length with
  | zero => rfl
  | succ k => exact e2 k 1 (by omega) (by omega)
def taskOf (t : List Task) (s : Str) : Task := ix t (findI (byName s) t).toNat
theorem known_ix {t : List Task} {s : Str} (h : t.any (byName s) = true) : inB (findI (byName s) t) t.length = true ∧ (findI (byName s) t).toNat < t.length ∧ taskOf t s ∈ t ∧ (taskOf t s).Name = s := by
  have h0 : ¬ findI (byName s) t < 0 := by
    intro c
    have := findI_none (byName s) t
    rw [h] at this
    simp [c] at this
  obtain ⟨a, b, c, _⟩ := findI_pos h0
  exact ⟨inB_of a b, b, ix_mem b, eq_of_beq c⟩
def has (set : List Str) (s : Str) : Bool := set.any (isS s)
theorem has_iff {set : List Str} {s : Str} : has set s = true ↔ s ∈ set := any_isS
def closE (t : List Task) (want set : List Str) : Int :=
  bif want.any (fun s => !has set s) then 14 else bif set.any (fun s => (taskOf t s).Needs.any fun x => !has set x) then 14 else bif set.any (fun s => (taskOf t s).OneOf.any fun g => !g.any (has set)) then 12 else 0
theorem sets_res {t : List Task} (h : OkT t) {ls : List (List Str)} (h1 : ls.length ≤ 900) (hl : ∀ l ∈ ls, l.length ≤ 900) (hn : 1000 < n) : restore_checkSets n t ls = some (bif tasksE n t != 0 then tasksE n t else firstE (fun v => setE t (ix ls v)) 0 ls.length) := by
  have hlen := h.len
  rw [restore_checkSets, CheckTasks_res h hn]
  simp only [Option.bind_some, withK_eq]
  rw [loop_errs (n := n) (E := fun v => setE t (ix ls v)) (len := ls.length) (k := 0) (fun back v hv => ?_) (fun back => ?_) (by omega), bif_int]
  · cases tasksE n t != 0 <;> rfl
  · rw [restore_checkSets_L1]
    simp only [hv, decide_true, cond_true, set_res (n := n) (by omega : t.length ≤ 900) (hl _ (ix_mem hv)) hn, Option.bind_some, nI_of (by omega : v + 1 ≤ 9223372036854775807), chk_t]
  · rw [restore_checkSets_L1]; simp
end
section
set_option maxRecDepth 4000
open Go
variable {n : Nat}
theorem mem_ix {α : Type} [Inhabited α] {l : List α} {s : α} : s ∈ l ↔ ∃ k, k < l.length ∧ ix l k = s := by
  rw [List.mem_iff_getElem]
  constructor
  · rintro ⟨i, hi, e⟩; exact ⟨i, hi, by rw [ix_eq hi, e]⟩
  · rintro ⟨i, hi, e⟩; exact ⟨i, hi, by rw [← ix_eq hi, e]⟩
theorem ix_set' {α : Type} [Inhabited α] {d : List α} {p j : Nat} {x : α} (hp : p < d.length) : ix (d.set p x) j = if p = j then x else ix d j := by
  unfold ix
  by_cases h : p = j
  · subst h; simp [hp]
  · simp [h]
def Nd (d : List Str) : Prop := ∀ p q, p < d.length → q < d.length → ix d p = ix d q → p = q
theorem Nd.of {d : List Str} (h : d.Nodup) : Nd d := by
  intro p q hp hq e
  rw [ix_eq hp, ix_eq hq] at e
  exact (List.getElem_inj h).1 e
theorem bits_all : ∀ k : Fin 13, (math_bits_Len 0 (IntKind.u64.wrap ((k.val : Nat) : Int))).isSome = true := by decide +kernel
theorem bits_n (n : Nat) (x : Int) : math_bits_Len n x = math_bits_Len 0 x := by delta math_bits_Len math_bits_Len64; rfl
theorem bits_ok {k : Nat} (hk : k ≤ 12) : ∃ y, math_bits_Len n (IntKind.u64.wrap ((k : Nat) : Int)) = some y := by
  have := bits_all ⟨k, by omega⟩
  rw [bits_n]
  exact Option.isSome_iff_exists.1 this
theorem bLt_lt : ∀ x y : Str, bLt x y = decide (x < y)
  | [], [] => by simp [bLt, Op.bytesLess]
  | _ :: _, [] => by simp [bLt, Op.bytesLess]
  | [], _ :: _ => by simp [bLt, Op.bytesLess]
  | a :: x, b :: y => by
    have ih := bLt_lt x y
    show (decide (a < b) || (a == b && bLt x y)) = decide (a :: x < b :: y)
    rw [ih]
    by_cases h1 : a < b
    · simp [h1, List.cons_lt_cons_iff]
    · by_cases h2 : a = b
      · subst h2; simp [List.cons_lt_cons_iff, h1]
      · simp [h1, h2, List.cons_lt_cons_iff]
theorem str_le (x y : Str) : decide (x ≤ y) = !bLt y x := by
  rw [bLt_lt, ← decide_not]
  exact decide_eq_decide.2 List.not_lt.symm
theorem nb_f {b : Bool} (h : (!b) = true) : b = false := by cases b with | true => cases h | false => rfl
theorem sortL_srt (l : List Str) : (sortL l).Pairwise fun x y => bLt y x = false := by
  have h := List.pairwise_mergeSort (le := fun x y : Str => decide (x ≤ y)) (fun a b c h1 h2 => by
    simp only [decide_eq_true_eq] at *; exact List.le_trans h1 h2) (fun a b => by
    simp only [Bool.or_eq_true, decide_eq_true_eq]; exact List.le_total a b) l
  refine List.Pairwise.imp (fun {x y} h => ?_) h
  rw [str_le] at h
  exact nb_f h
theorem sortS_eq {l : List Str} (hl : l.length ≤ 900) : slices_Sort_string n l = some (sortL l) := by
  rw [slices_Sort_string, chk_of (decide_eq_true (by omega))]
theorem sort_eq {l : List Str} (hl : l.length ≤ 900) (hnd : l.Nodup) (hn : 100 < n) : ∃ d, slices_Sort_string n l = some d ∧ d.length = l.length ∧ (∀ s, s ∈ d ↔ s ∈ l) ∧ Asc d := by
  have hp := sortL_perm l
  refine ⟨sortL l, sortS_eq hl, hp.length_eq, fun s => hp.mem_iff, ?_⟩
  have hd := hp.nodup_iff.2 hnd
  refine List.Pairwise.imp₂ (fun {x y} h1 h2 => ?_) (sortL_srt l) hd
  rcases bLt_tri x y with c | c | c
  · exact c
  · exact absurd c h2
  · rw [h1] at c; cases c
end
section
set_option maxRecDepth 4000
open Go
variable {n : Nat}
def firstOf (x : Task) : List Str := x.Needs ++ x.OneOf.map fun g => ix g 0
def nx (t : List Task) (s : Str) : List Str := firstOf (taskOf t s)
structure Right (t : List Task) : Prop where
  ok : OkT t
  known : ∀ x ∈ t, ∀ s ∈ firstOf x, t.any (byName s) = true
  group : ∀ x ∈ t, ∀ g ∈ x.OneOf, 0 < g.length
def Kn (t : List Task) (l : List Str) : Prop := ∀ s ∈ l, t.any (byName s) = true
def mk (ks : List Str) : List (Str × Bool) := ks.map fun s => (s, true)
structure Tk (t : List Task) (A ks ks' : List Str) : Prop where
  nd : ks'.Nodup
  kn : Kn t ks'
  sub : ∀ x ∈ ks, x ∈ ks'
  seed : ∀ a ∈ A, a ∈ ks'
  cl : ∀ x ∈ ks', x ∈ ks ∨ ∀ y ∈ nx t x, y ∈ ks'
  least : ∀ C : Str → Prop, (∀ x, C x → ∀ y ∈ nx t x, C y) → (∀ a ∈ A, C a) → ∀ x ∈ ks', x ∈ ks ∨ C x
theorem Tk.refl {t : List Task} {ks : List Str} (h1 : ks.Nodup) (h2 : Kn t ks) : Tk t [] ks ks := ⟨h1, h2, fun _ h => h, by simp, fun _ h => .inl h, fun _ _ _ _ h => .inl h⟩
theorem Tk.trans {t : List Task} {A B ks k1 k2 : List Str} (h : Tk t A ks k1) (g : Tk t B k1 k2) : Tk t (A ++ B) ks k2 where
  nd := g.nd
  kn := g.kn
  sub := fun x hx => g.sub x (h.sub x hx)
  seed := fun a ha => by
    rcases List.mem_append.1 ha with c | c
    · exact g.sub a (h.seed a c)
    · exact g.seed a c
  cl := fun x hx => by
    rcases g.cl x hx with c | c
    · rcases h.cl x c with d | d
      · exact .inl d
      · exact .inr fun y hy => g.sub y (d y hy)
    · exact .inr c
  least := fun C hC hA x hx => by
    rcases g.least C hC (fun a ha => hA a (by simp [ha])) x hx with c | c
    · exact h.least C hC (fun a ha => hA a (by simp [ha])) x c
    · exact .inr c
theorem Tk.len {t : List Task} {A ks ks' : List Str} (h : Tk t A ks ks') : ks'.length ≤ t.length := Inv.len ⟨h.nd, h.kn⟩
theorem Tk.grow {t : List Task} {A ks ks' : List Str} (h : Tk t A ks ks') (hn : ks.Nodup) : ks.length ≤ ks'.length := nodup_len ks ks' hn h.sub
end
section
set_option maxRecDepth 4000
open Go
variable {n : Nat}
theorem erase_perm {α : Type} : ∀ (l : List α) (j : Nat) (x : α), l[j]? = some x → (x :: l.eraseIdx j).Perm l
  | [], j, x, h => by simp at h
  | y :: l, 0, x, h => by
    simp only [List.getElem?_cons_zero, Option.some.injEq] at h
    subst h; exact List.Perm.refl _
  | y :: l, j + 1, x, h => by
    simp only [List.getElem?_cons_succ] at h
    rw [List.eraseIdx_cons_succ]
    exact (List.Perm.swap y x _).trans ((erase_perm l j x h).cons y)
theorem Asc.snoc {l : List Str} {y : Str} (h : Asc l) (hy : ∀ x ∈ l, bLt x y = true) : Asc (l ++ [y]) := by
  rw [Asc, List.pairwise_append]
  exact ⟨h, by simp, fun a ha b hb => by rw [List.mem_singleton] at hb; subst hb; exact hy a ha⟩
theorem Asc.take_lt {l : List Str} (h : Asc l) {v : Nat} (hv : v < l.length) : ∀ x ∈ l.take v, bLt x (ix l v) = true := by
  intro x hx
  obtain ⟨i, hi, rfl⟩ := List.mem_iff_getElem.1 hx
  have hi2 : i < v ∧ i < l.length := by
    have := hi
    simp only [List.length_take] at this; omega
  rw [List.getElem_take, ix_eq hv]
  exact List.pairwise_iff_getElem.1 h i v hi2.2 hv hi2.1
theorem mem_take_succ {l : List Str} {v : Nat} (hv : v < l.length) {x : Str} : x ∈ l.take (v + 1) ↔ x ∈ l.take v ∨ x = ix l v := by
  rw [List.take_succ_eq_append_getElem hv, List.mem_append, List.mem_singleton, ix_eq hv]
theorem put_spec {l : List Str} {s : Str} (ha : Asc l) (hs : s ∉ l) (hl : l.length ≤ 900) (hn : 1000 < n) : ∃ d, agrafferef08_Put n l s = some d ∧ Asc d ∧ (∀ x, x ∈ d ↔ x ∈ l ∨ x = s) ∧ d.length = l.length + 1 := by
  rw [agrafferef08_Put]
  simp only [withK_eq]
  obtain ⟨s2, back2, ⟨out, dn, e3, p1, p2, p3, p4, p5⟩, r2⟩ := loop_inv (F := agrafferef08_Put_L1 l s fun t => match t with
      | (v8, v9) => bif !v8 then chk (room 16 (v9 ++ ([s] : List Str)).length) (some (v9 ++ ([s] : List Str))) else some v9) (len := l.length) (P := fun v st => ∃ out dn, st = (out, dn, v) ∧ Asc out ∧ (∀ x, x ∈ out ↔ x ∈ l.take v ∨ (dn = true ∧ x = s)) ∧ (dn = false → ∀ x ∈ l.take v, bLt x s = true) ∧ (dn = true → ∀ u, v ≤ u → u < l.length → bLt s (ix l u) = true) ∧ out.length = v + (bif dn then 1 else 0)) (fun back v st hv hP => by
    obtain ⟨out, dn, e, p1, p2, p3, p4, p5⟩ := hP
    subst e
    have hne : ix l v ≠ s := fun c => hs (c ▸ ix_mem hv)
    have hlt := ha.take_lt hv
    have hol : out.length ≤ v + 1 := by rw [p5]; cases dn <;> simp
    cases dn with
    | true =>
      refine ⟨(out ++ [ix l v], true, v + 1), ⟨_, _, rfl, p1.snoc fun x hx => ?_, fun x => ?_, fun c => (by cases c), fun _ u h1 h2 => p4 rfl u (by omega) h2, ?_⟩, ?_⟩
      · rcases (p2 x).1 hx with c | ⟨_, c⟩
        · exact hlt x c
        · subst c; exact p4 rfl v (Nat.le_refl _) hv
      · rw [List.mem_append, List.mem_singleton, p2, mem_take_succ hv]
        constructor
        · rintro ((c | c) | c)
          · exact .inl (.inl c)
          · exact .inr c
          · exact .inl (.inr c)
        · rintro ((c | c) | c)
          · exact .inl (.inl c)
          · exact .inr c
          · exact .inl (.inr c)
      · simp only [cond_true] at p5 ⊢
        simp only [List.length_append, List.length_singleton]; omega
      · simp only [agrafferef08_Put_L1, hv, decide_true, cond_true, withK_eq, Bool.not_true, Bool.false_and, cond_false]
        rw [chk_of (room_of (by simp; omega) (by simp; omega)), chk_of (nI_of (by omega))]
    | false =>
      have hb : ((ix l v) == s) = false := by rw [beq_eq_false_iff_ne]; exact hne
      cases hc : bLt (ix l v) s with
      | true =>
        refine ⟨(out ++ [ix l v], false, v + 1), ⟨_, _, rfl, p1.snoc fun x hx => ?_, fun x => ?_, fun _ x hx => ?_, fun c => (by cases c), ?_⟩, ?_⟩
        · rcases (p2 x).1 hx with c | ⟨c, _⟩
          · exact hlt x c
          · cases c
        · rw [List.mem_append, List.mem_singleton, p2, mem_take_succ hv]
          simp
        · rcases (mem_take_succ hv).1 hx with c | c
          · exact p3 rfl x c
          · subst c; exact hc
        · simp only [cond_false] at p5 ⊢
          simp only [List.length_append, List.length_singleton]; omega
        · simp only [agrafferef08_Put_L1, hv, decide_true, cond_true, withK_eq, hc, Bool.not_true, Bool.and_false, cond_false]
          rw [chk_of (room_of (by simp; omega) (by simp; omega)), chk_of (nI_of (by omega))]
      | false =>
        have hsy : bLt s (ix l v) = true := by
          rcases bLt_tri s (ix l v) with c | c | c
          · exact c
          · exact absurd c.symm hne
          · rw [hc] at c; cases c
        have q1 : Asc (out ++ [s]) := p1.snoc fun x hx => by
          rcases (p2 x).1 hx with c | ⟨c, _⟩
          · exact p3 rfl x c
          · cases c
        refine ⟨((out ++ [s]) ++ [ix l v], true, v + 1), ⟨_, _, rfl, q1.snoc fun x hx => ?_, fun x => ?_, fun c => (by cases c), fun _ u h1 h2 => ?_, ?_⟩, ?_⟩
        · rcases List.mem_append.1 hx with c | c
          · rcases (p2 x).1 c with d | ⟨d, _⟩
            · exact hlt x d
            · cases d
          · rw [List.mem_singleton] at c; subst c; exact hsy
        · rw [List.mem_append, List.mem_append, List.mem_singleton, List.mem_singleton, p2, mem_take_succ hv]
          simp only [Bool.false_eq_true, false_and, or_false, true_and]
          constructor
          · rintro ((c | c) | c)
            · exact .inl (.inl c)
            · exact .inr c
            · exact .inl (.inr c)
          · rintro ((c | c) | c)
            · exact .inl (.inl c)
            · exact .inr c
            · exact .inl (.inr c)
        · have : bLt (ix l v) (ix l u) = true := by
            rw [ix_eq hv, ix_eq h2]
            exact List.pairwise_iff_getElem.1 ha v u hv h2 (by omega)
          exact bLt_trans _ _ _ hsy this
        · simp only [cond_false] at p5
          simp only [cond_true, List.length_append, List.length_singleton]; omega
        · simp only [agrafferef08_Put_L1, hv, decide_true, cond_true, withK_eq, hc, hb, Bool.not_false, Bool.and_self]
          rw [chk_of (room_of (by simp; omega) (by simp; omega)), chk_of (room_of (by simp; omega) (by simp; omega)), chk_of (nI_of (by omega))]) n 0 ([], false, 0) (by omega) (by omega) ⟨[], false, rfl, List.Pairwise.nil, by simp, by simp, by simp, rfl⟩
  subst e3
  rw [r2]
  rw [List.take_length] at p2 p3
  simp only [agrafferef08_Put_L1, Nat.lt_irrefl, decide_false, cond_false]
  cases dn with
  | true =>
    refine ⟨out, rfl, p1, fun x => ?_, by rw [p5]; rfl⟩
    rw [p2]; simp
  | false =>
    simp only [Bool.not_false, cond_true]
    have : out.length = l.length := by rw [p5]; rfl
    rw [chk_of (room_of (by simp; omega) (by simp; omega))]
    refine ⟨out ++ [s], rfl, p1.snoc fun x hx => ?_, fun x => ?_, by simp [this]⟩
    · rcases (p2 x).1 hx with c | ⟨c, _⟩
      · exact p3 rfl x c
      · cases c
    · rw [List.mem_append, List.mem_singleton, p2]; simp
end
section
set_option maxRecDepth 4000
open Go
variable {n : Nat}
theorem task_facts {t : List Task} {i : Nat} (h : taskE t i = 0) : ¬ findI (byName (ix t i).Name) t < (i : Int) ∧ firstE (grpE t (ix t i).OneOf) 0 (ix t i).OneOf.length = 0 := by
  unfold taskE at h
  cases h1 : nameB (ix t i).Name
  · simp [h1] at h
  rw [h1] at h
  simp only [Bool.not_true, cond_false] at h
  cases h2 : decide (findI (byName (ix t i).Name) t < (i : Int))
  · rw [h2] at h
    simp only [cond_false] at h
    refine ⟨of_decide_eq_false h2, ?_⟩
    cases h3 : (!((decide (0 ≤ (ix t i).Cents)) && (decide ((ix t i).Cents ≤ 1000000000)))) || (!((decide (0 ≤ (ix t i).Hours)) && (decide ((ix t i).Hours ≤ 10000))))
    · rw [h3] at h
      simp only [cond_false] at h
      cases h4 : large (ix t i)
      · rw [h4] at h
        simp only [cond_false] at h
        by_cases h5 : known t (ix t i).Needs = 0
        · simp only [h5, bne_self_eq_false, cond_false] at h
          by_cases h6 : firstE (grpE t (ix t i).OneOf) 0 (ix t i).OneOf.length = 0
          · exact h6
          · rw [bne_t h6, cond_true] at h; exact absurd h h6
        · rw [bne_t h5, cond_true] at h; exact absurd h h5
      · rw [h4] at h; simp at h
    · rw [h3] at h; simp at h
  · rw [h2] at h; simp at h
theorem tasks_zero {t : List Task} (h : tasksE n t = 0) : t.length ≤ 60 ∧ ∀ i, i < t.length → taskE t i = 0 := by
  unfold tasksE at h
  by_cases h1 : 60 < t.length
  · simp [h1] at h
  · simp only [h1, decide_false, cond_false] at h
    by_cases h2 : firstE (taskE t) 0 t.length = 0
    · exact ⟨by omega, fun i hi => firstE_zero h2 i (by omega) (by omega)⟩
    · rw [bne_t h2, cond_true] at h; exact absurd h h2
theorem right_of {t : List Task} (ok : OkT t) (h : tasksE n t = 0) : Right t := by
  obtain ⟨_, h1⟩ := tasks_zero h
  have hg : ∀ i, i < t.length → ∀ g ∈ (ix t i).OneOf, 0 < g.length := by
    intro i hi g hg
    obtain ⟨k, hk, rfl⟩ := List.mem_iff_getElem.1 hg
    have := firstE_zero (task_facts (h1 i hi)).2 k (by omega) (by omega)
    unfold grpE at this
    rw [ix_eq hk] at this
    by_cases c : (ix t i).OneOf[k].length = 0
    · rw [c] at this; simp at this
    · omega
  refine ⟨ok, fun x hx s hs => ?_, fun x hx g hgx => ?_⟩
  · obtain ⟨i, hi, rfl⟩ := mem_ix.1 hx
    refine lead_known hi (h1 i hi) s ?_
    rw [firstOf, List.mem_append] at hs
    rw [leads, List.mem_append]
    rcases hs with c | c
    · exact .inl c
    · rw [List.mem_map] at c
      obtain ⟨g, hgm, rfl⟩ := c
      exact .inr (List.mem_flatten.2 ⟨g, hgm, ix_mem (hg i hi g hgm)⟩)
  · obtain ⟨i, hi, rfl⟩ := mem_ix.1 hx
    exact hg i hi g hgx
theorem uniq_of {t : List Task} (h : tasksE n t = 0) {i : Nat} (hi : i < t.length) : taskOf t (ix t i).Name = ix t i := by
  obtain ⟨_, h1⟩ := tasks_zero h
  have h2 := (task_facts (h1 i hi)).1
  have h3 : ¬ findI (byName (ix t i).Name) t < 0 := by omega
  obtain ⟨a, b, c, d⟩ := findI_pos h3
  by_cases e : (findI (byName (ix t i).Name) t).toNat = i
  · unfold taskOf; rw [e]
  · have := d i (by omega)
    simp [byName] at this
structure Rs (t : List Task) (out0 out : List Str) : Prop where
  asc : Asc out
  kn : Kn t out
  sub : ∀ x ∈ out0, x ∈ out
  least : ∀ C : Str → Prop, (∀ x, C x → ∀ y ∈ nx t x, C y) → (∀ x ∈ out0, C x) → ∀ x ∈ out, C x
theorem Rs.refl {t : List Task} {out : List Str} (h1 : Asc out) (h2 : Kn t out) : Rs t out out := ⟨h1, h2, fun _ h => h, fun _ _ h => h⟩
theorem Rs.trans {t : List Task} {a b c : List Str} (h : Rs t a b) (g : Rs t b c) : Rs t a c := ⟨g.asc, g.kn, fun x hx => g.sub x (h.sub x hx), fun C hC hA => g.least C hC (h.least C hC hA)⟩
theorem Rs.len {t : List Task} {a b : List Str} (h : Rs t a b) : b.length ≤ t.length := Inv.len ⟨h.asc.nodup, h.kn⟩
end
section
set_option maxRecDepth 4000
open Go
variable {n : Nat}
end
section
set_option maxRecDepth 4000
open Go
variable {n : Nat}
theorem task_nums {t : List Task} {i : Nat} (h : taskE t i = 0) : (0 ≤ (ix t i).Cents ∧ (ix t i).Cents ≤ 1000000000) ∧ (ix t i).Parts.length ≤ 10 ∧ cnts (ix t i).Parts 1000 = 0 := by
  unfold taskE at h
  cases h1 : nameB (ix t i).Name
  · simp [h1] at h
  rw [h1] at h
  simp only [Bool.not_true, cond_false] at h
  cases h2 : decide (findI (byName (ix t i).Name) t < (i : Int))
  · rw [h2] at h
    simp only [cond_false] at h
    cases h3 : (!((decide (0 ≤ (ix t i).Cents)) && (decide ((ix t i).Cents ≤ 1000000000)))) || (!((decide (0 ≤ (ix t i).Hours)) && (decide ((ix t i).Hours ≤ 10000))))
    · rw [h3] at h
      simp only [cond_false] at h
      cases h4 : large (ix t i)
      · rw [h4] at h
        simp only [cond_false] at h
        have hc : 0 ≤ (ix t i).Cents ∧ (ix t i).Cents ≤ 1000000000 := by
          simp only [Bool.or_eq_false_iff, Bool.not_eq_false', Bool.and_eq_true, decide_eq_true_eq] at h3
          exact h3.1
        have hp : (ix t i).Parts.length ≤ 10 := by
          simp only [large, Bool.or_eq_false_iff, decide_eq_false_iff_not] at h4
          omega
        by_cases h5 : known t (ix t i).Needs = 0
        · simp only [h5, bne_self_eq_false, cond_false] at h
          by_cases h6 : firstE (grpE t (ix t i).OneOf) 0 (ix t i).OneOf.length = 0
          · simp only [h6, bne_self_eq_false, cond_false] at h
            exact ⟨hc, hp, h⟩
          · rw [bne_t h6, cond_true] at h; exact absurd h h6
        · rw [bne_t h5, cond_true] at h; exact absurd h h5
      · rw [h4] at h; simp at h
    · rw [h3] at h; simp at h
  · rw [h2] at h; simp at h
theorem cnts_ok {l : List PartCount} (h : cnts l 1000 = 0) : ∀ i, i < l.length → 1 ≤ (ix l i).Count ∧ (ix l i).Count ≤ 1000 := by
  intro i hi
  have := firstE_zero h i (by omega) (by omega)
  unfold cntE at this
  cases h1 : nameB (ix l i).Part
  · rw [h1] at this; simp at this
  · rw [h1] at this
    cases h2 : (l.take i).any (byPartC (ix l i).Part)
    · rw [h2] at this
      cases h3 : ((decide (1 ≤ (ix l i).Count)) && (decide ((ix l i).Count ≤ 1000)))
      · rw [h3] at this; simp at this
      · simpa using h3
    · rw [h2] at this; simp at this
theorem stock_ok {s : List Stocked} (h : stockC s = 0) : s.length ≤ 60 ∧ ∀ i, i < s.length → (0 ≤ (ix s i).Cents ∧ (ix s i).Cents ≤ 1000000000) := by
  unfold stockC at h
  by_cases h1 : 60 < s.length
  · simp [h1] at h
  · simp only [h1, decide_false, cond_false] at h
    refine ⟨by omega, fun i hi => ?_⟩
    have := firstE_zero h i (by omega) (by omega)
    unfold stockE at this
    cases h2 : nameB (ix s i).Part
    · rw [h2] at this; simp at this
    · rw [h2] at this
      cases h3 : decide ((0 : Int) ≤ findI (byPart (ix s i).Part) (s.take i))
      · rw [h3] at this
        cases h4 : (!((decide (0 ≤ (ix s i).Cents)) && (decide ((ix s i).Cents ≤ 1000000000)))) || (!((decide (0 ≤ (ix s i).Count)) && (decide ((ix s i).Count ≤ 10000))))
        · simp only [Bool.or_eq_false_iff, Bool.not_eq_false', Bool.and_eq_true, decide_eq_true_eq] at h4
          exact h4.1
        · rw [h4] at this; simp at this
      · rw [h3] at this; simp at this
def priceOf (s : List Stocked) (p : Str) : Int := (ix s (findI (byPart p) s).toNat).Cents
def pf (s : List Stocked) (l : List PartCount) (i : Nat) : Int := (ix l i).Count * priceOf s (ix l i).Part
def lackE (s : List Stocked) (l : List PartCount) (i : Nat) : Int := bif decide (findI (byPart (ix l i).Part) s < 0) then 1 else 0
def lacks (s : List Stocked) (l : List PartCount) : Bool := firstE (lackE s l) 0 l.length != 0
theorem pf_bounds {s : List Stocked} {l : List PartCount} (hs : stockC s = 0) (hl : cnts l 1000 = 0) {i : Nat} (hi : i < l.length) (hk : lackE s l i = 0) : 0 ≤ pf s l i ∧ pf s l i ≤ 1000000000000 := by
  have h1 := cnts_ok hl i hi
  have h0 : ¬ findI (byPart (ix l i).Part) s < 0 := by
    intro c
    unfold lackE at hk
    simp [c] at hk
  obtain ⟨_, b, _, _⟩ := findI_pos h0
  have h2 := (stock_ok hs).2 _ b
  unfold pf priceOf
  refine ⟨Int.mul_nonneg (by omega) h2.1, ?_⟩
  have := Int.mul_le_mul h1.2 h2.2 h2.1 (by decide)
  exact this
theorem parts_loop {R : Type} {s : List Stocked} {l : List PartCount} (hs : stockC s = 0) (hl : cnts l 1000 = 0) (hlen : l.length ≤ 10) {c : Int} (h0 : 0 ≤ c) (h1 : c ≤ 1000000000000000) {F : (Int × Nat → Option R) → Int × Nat → Option R} {bad : Option R} {k : Int → Option R} (hn : 1000 < n)
    (hF : ∀ back a v, v < l.length → F back (a, v) = bif decide (findI (byPart (ix l v).Part) s < 0) then bad else
      chk (inB (findI (byPart (ix l v).Part) s) s.length) (chk (decide ((findI (byPart (ix l v).Part) s).toNat < s.length)) (chk (inI (pf s l v)) (chk (inI (a + pf s l v)) (chk (nI (v + 1)) (back (a + pf s l v, v + 1)))))))
    (hE : ∀ back a, F back (a, l.length) = k a) : loopN F n (c, 0) = bif lacks s l then bad else k (c + sm (pf s l) l.length) := by
  have e0 : (c, 0) = (fun v => (c + sm (pf s l) v, v)) 0 := by simp [sm]
  rw [e0, loop_first (st := fun v => (c + sm (pf s l) v, v)) (E := lackE s l) (err := fun _ => bad) (k := k (c + sm (pf s l) l.length)) (len := l.length) (fun back v hv hz => ?_) (fun back hz => hE back _) n 0 (by omega) (by omega) (fun j h => by omega), Nat.sub_zero]
  · rfl
  · rw [hF _ _ _ hv]
    cases hd : decide (findI (byPart (ix l v).Part) s < 0) with
    | true => simp [lackE, hd]
    | false =>
      have hk : lackE s l v = 0 := by simp [lackE, hd]
      have hb : ∀ i, i < v + 1 → 0 ≤ pf s l i ∧ pf s l i ≤ 1000000000000 := fun i hi => by
        refine pf_bounds hs hl (by omega) ?_
        by_cases c : i = v
        · subst c; exact hk
        · exact hz i (by omega)
      have a1 := sm_nn (f := pf s l) v fun i hi => (hb i (by omega)).1
      have a2 := sm_le (f := pf s l) (c := 1000000000000) v fun i hi => (hb i (by omega)).2
      have a3 := hb v (by omega)
      obtain ⟨p1, p2, _, _⟩ := findI_pos (of_decide_eq_false hd)
      simp only [cond_false, hk, bne_self_eq_false]
      rw [chk_of (inB_of p1 p2), chk_of (by simp; exact p2), chk_of (inI_of (by omega) (by omega)), chk_of (inI_of (by omega) (by omega)), chk_of (nI_of (by omega))]
      simp only [sm]
      rw [Int.add_assoc]
end
section
set_option maxRecDepth 4000
open Go
variable {n : Nat}
theorem cost_res {x : Task} {s : List Stocked} (hs : stockC s = 0) (hl : cnts x.Parts 1000 = 0) (hlen : x.Parts.length ≤ 10) (h0 : 0 ≤ x.Cents) (h1 : x.Cents ≤ 1000000000) (hn : 1000 < n) : restore_costOf n x s = some (bif lacks s x.Parts then (0, false) else (x.Cents + sm (pf s x.Parts) x.Parts.length, true)) := by
  have hsl := (stock_ok hs).1
  rw [restore_costOf, withK_eq, parts_loop (n := n) hs hl hlen h0 (by omega) (bad := some (0, false)) (k := fun v5 => some (v5, true)) hn (fun back a v hv => ?_) (fun back a => ?_)]
  · cases lacks s x.Parts <;> rfl
  · simp only [restore_costOf_L1, hv, decide_true, cond_true, stocked_eq n s _ (by omega : s.length < n) (by omega), Option.bind_some]
    rfl
  · simp [restore_costOf_L1]
def taskC (s : List Stocked) (x : Task) : Int := x.Cents + sm (pf s x.Parts) x.Parts.length
def setF (t : List Task) (s : List Stocked) (l : List Str) (v : Nat) : Int := taskC s (taskOf t (ix l v))
def setL (t : List Task) (s : List Stocked) (l : List Str) (v : Nat) : Int := bif lacks s (taskOf t (ix l v)).Parts then 1 else 0
theorem nums_of {t : List Task} (h0 : tasksE n t = 0) {x : Str} (hk : t.any (byName x) = true) : (0 ≤ (taskOf t x).Cents ∧ (taskOf t x).Cents ≤ 1000000000) ∧ (taskOf t x).Parts.length ≤ 10 ∧ cnts (taskOf t x).Parts 1000 = 0 := by
  obtain ⟨_, k2, _, _⟩ := known_ix hk
  exact task_nums ((tasks_zero h0).2 _ k2)
theorem lacks_zero {s : List Stocked} {l : List PartCount} (h : lacks s l = false) : ∀ i, i < l.length → lackE s l i = 0 := by
  have : firstE (lackE s l) 0 l.length = 0 := by
    unfold lacks at h
    by_cases c : firstE (lackE s l) 0 l.length = 0
    · exact c
    · rw [bne_t c] at h; cases h
  exact fun i hi => firstE_zero this i (by omega) (by omega)
theorem taskC_bounds {s : List Stocked} {x : Task} (hs : stockC s = 0) (hl : cnts x.Parts 1000 = 0) (hlen : x.Parts.length ≤ 10) (h0 : 0 ≤ x.Cents) (h1 : x.Cents ≤ 1000000000) (hk : lacks s x.Parts = false) : (0 ≤ sm (pf s x.Parts) x.Parts.length ∧ sm (pf s x.Parts) x.Parts.length ≤ 10000000000000) ∧ 0 ≤ taskC s x ∧ taskC s x ≤ 11000000000000 := by
  have a1 := sm_nn (f := pf s x.Parts) x.Parts.length fun i hi => (pf_bounds hs hl hi (lacks_zero hk i hi)).1
  have a2 := sm_le (f := pf s x.Parts) (c := 1000000000000) x.Parts.length fun i hi => (pf_bounds hs hl hi (lacks_zero hk i hi)).2
  unfold taskC
  omega
end
section
set_option maxRecDepth 4000
open Go
variable {n : Nat}
theorem sw_perm : ∀ (l : List PartCount) (j : Nat), 0 < j → j < l.length → (List.set (List.set l j (ix l (j - 1))) (j - 1) (ix l j)).Perm l
  | [], j, _, h => by simp at h
  | [x], j, h0, h => by simp at h; omega
  | x :: y :: b, 1, _, _ => by
    show (y :: x :: b).Perm (x :: y :: b)
    exact List.Perm.swap x y b
  | x :: y :: b, j + 2, _, h => by
    have ih := sw_perm (y :: b) (j + 1) (by omega) (by simpa using h)
    exact ih.cons x
def valM (s : List Stocked) (m : List (Str × Int)) : Int := (m.map fun x => x.2 * priceOf s x.1).sum
theorem val_put (s : List Stocked) (p : Str) (c : Int) : ∀ m : List (Str × Int), valM s (mPut p (Option.getD (List.lookup p m) 0 + c) m) = valM s m + c * priceOf s p
  | [] => by simp [valM, mPut]
  | (k, u) :: m => by
    have ih := val_put s p c m
    simp only [mPut, List.lookup_cons]
    cases h : (p == k) with
    | true =>
      have : p = k := eq_of_beq h
      subst this
      simp only [valM, List.map_cons, List.sum_cons, Option.getD_some, Int.add_mul]
      omega
    | false =>
      simp only [valM, List.map_cons, List.sum_cons] at ih ⊢
      rw [ih]; omega
theorem keys_put (p : Str) (v : Int) : ∀ m : List (Str × Int), (mPut p v m).map Prod.fst = if p ∈ m.map Prod.fst then m.map Prod.fst else m.map Prod.fst ++ [p]
  | [] => by simp [mPut]
  | (k, u) :: m => by
    have ih := keys_put p v m
    simp only [mPut]
    cases h : (p == k) with
    | true =>
      have : p = k := eq_of_beq h
      subst this
      simp
    | false =>
      have hne : p ≠ k := by rintro rfl; simp at h
      simp only [List.map_cons, ih, List.mem_cons, hne, false_or]
      by_cases c : p ∈ m.map Prod.fst <;> simp [c]
theorem mem_put {p : Str} {v : Int} : ∀ {m : List (Str × Int)} {x : Str × Int}, x ∈ mPut p v m → x ∈ m ∨ x = (p, v)
  | [], x, h => by simpa [mPut] using h
  | (k, u) :: m, x, h => by
    simp only [mPut] at h
    cases c : (p == k) with
    | true =>
      rw [c] at h
      rcases List.mem_cons.1 h with e | e
      · exact .inr e
      · exact .inl (by simp [e])
    | false =>
      rw [c] at h
      rcases List.mem_cons.1 h with e | e
      · exact .inl (by simp [e])
      · rcases mem_put e with e | e
        · exact .inl (by simp [e])
        · exact .inr e
theorem lookup_mem {p : Str} : ∀ {m : List (Str × Int)} {u : Int}, List.lookup p m = some u → (p, u) ∈ m
  | (k, w) :: m, u, h => by
    rw [List.lookup_cons] at h
    cases c : (p == k) with
    | true => rw [c] at h; have := eq_of_beq c; subst this; cases h; simp
    | false => rw [c] at h; simp [lookup_mem h]
structure Mp (s : List Stocked) (m : List (Str × Int)) (K : Int) : Prop where
  nd : (m.map Prod.fst).Nodup
  kn : ∀ k ∈ m.map Prod.fst, ¬ findI (byPart k) s < 0
  vl : ∀ x ∈ m, 0 ≤ x.2 ∧ x.2 ≤ K
theorem Mp.put {s : List Stocked} {m : List (Str × Int)} {K c : Int} {p : Str} (h : Mp s m K) (hK : 0 ≤ K) (hp : ¬ findI (byPart p) s < 0) (h0 : 0 ≤ c) (h1 : c ≤ 1000) : (0 ≤ Option.getD (List.lookup p m) 0 ∧ Option.getD (List.lookup p m) 0 ≤ K) ∧ Mp s (mPut p (Option.getD (List.lookup p m) 0 + c) m) (K + 1000) := by
  have hv : 0 ≤ Option.getD (List.lookup p m) 0 ∧ Option.getD (List.lookup p m) 0 ≤ K := by
    cases e : List.lookup p m with
    | none => exact ⟨Int.le_refl _, hK⟩
    | some u => exact h.vl _ (lookup_mem e)
  refine ⟨hv, ?_, fun k hk => ?_, fun x hx => ?_⟩
  · rw [keys_put]
    by_cases c : p ∈ m.map Prod.fst
    · rw [if_pos c]; exact h.nd
    · rw [if_neg c, List.nodup_append]
      exact ⟨h.nd, by simp, fun a ha b hb => by rw [List.mem_singleton] at hb; subst hb; rintro rfl; exact c ha⟩
  · rw [keys_put] at hk
    by_cases c : p ∈ m.map Prod.fst
    · rw [if_pos c] at hk; exact h.kn k hk
    · rw [if_neg c, List.mem_append, List.mem_singleton] at hk
      rcases hk with e | e
      · exact h.kn k e
      · subst e; exact hp
  · rcases mem_put hx with e | e
    · have := h.vl x e; omega
    · subst e; simp only; omega
end
section
set_option maxRecDepth 4000
open Go
variable {n : Nat}
theorem Mp.len {s : List Stocked} {m : List (Str × Int)} {K : Int} (h : Mp s m K) : m.length ≤ s.length := by
  have := nodup_len _ (s.map fun x => x.Part) h.nd fun k hk => by
    obtain ⟨_, b, c, _⟩ := findI_pos (h.kn k hk)
    rw [List.mem_map]
    exact ⟨_, ix_mem b, eq_of_beq c⟩
  simpa using this
theorem counts_task {t : List Task} {s : List Stocked} {x : Str} (ht : OkT t) (h0 : tasksE n t = 0) (hs : stockC s = 0) (hk : t.any (byName x) = true) (hb : lacks s (taskOf t x).Parts = false) (hn : 1000 < n) {m : List (Str × Int)} {K : Int} (hK : 0 ≤ K) (hK1 : K ≤ 1000000000) (hm : Mp s m K) (kk : List (Str × Int) → Option (Int × List PartCount)) :
    ∃ m', Mp s m' (K + 10000) ∧ valM s m' = valM s m + sm (pf s (taskOf t x).Parts) (taskOf t x).Parts.length ∧ loopN (restore_PartsOf_L1 t (findI (byName x) t) kk) n (0, m) = kk m' := by
  have nv := nums_of h0 hk
  obtain ⟨s2, back2, ⟨m', e3, p1, p2⟩, r2⟩ := loop_inv (F := restore_PartsOf_L1 t (findI (byName x) t) kk) (len := (taskOf t x).Parts.length) (P := fun v st => ∃ m', st = (v, m') ∧ Mp s m' (K + 1000 * (v : Int)) ∧ valM s m' = valM s m + sm (pf s (taskOf t x).Parts) v) (fun back v st hv hP => by
    obtain ⟨m', e, p1, p2⟩ := hP
    subst e
    have hc := cnts_ok nv.2.2 v hv
    have hl := lacks_zero hb v hv
    have hf : ¬ findI (byPart (ix (taskOf t x).Parts v).Part) s < 0 := by
      intro c; unfold lackE at hl; simp [c] at hl
    obtain ⟨q1, q2⟩ := p1.put (c := (ix (taskOf t x).Parts v).Count) (by omega) hf (by omega) hc.2
    refine ⟨(v + 1, _), ⟨_, rfl, by rw [show K + 1000 * ((v + 1 : Nat) : Int) = K + 1000 * (v : Int) + 1000 by omega]; exact q2, ?_⟩, ?_⟩
    · rw [val_put, p2, sm, pf]; omega
    · have hv' : v < (ix t (findI (byName x) t).toNat).Parts.length := hv
      simp only [restore_PartsOf_L1, hv', decide_true, cond_true, chk_t]
      rw [show ix t (findI (byName x) t).toNat = taskOf t x from rfl, chk_of (inI_of (by omega) (by omega)), chk_of (nI_of (by omega))]) n 0 (0, m) (by omega) (by omega) ⟨m, rfl, by simpa using hm, by simp [sm]⟩
  subst e3
  refine ⟨m', ⟨p1.nd, p1.kn, fun y hy => by have := p1.vl y hy; omega⟩, p2, ?_⟩
  rw [r2]
  have : ¬ (taskOf t x).Parts.length < (ix t (findI (byName x) t).toNat).Parts.length := Nat.lt_irrefl _
  simp [restore_PartsOf_L1, this]
def partF (t : List Task) (s : List Stocked) (l : List Str) (v : Nat) : Int := sm (pf s (taskOf t (ix l v)).Parts) (taskOf t (ix l v)).Parts.length
theorem rngP_loop {ks : List PartCount} (hl : ks.length ≤ 900) {k2 : List PartCount → Option (Int × List PartCount)} {r : Int × List PartCount} (hk : ∀ out, out.Perm ks → k2 out = some r) : ∀ m out cur left, left.length < m → (out ++ left.map fun x : Str × Int => PartCount.mk x.1 x.2).Perm ks → loopN (restore_PartsOf_L3 k2) m (out, cur, left) = some r := by
  intro m
  induction m with
  | zero => intro out cur left h; omega
  | succ m ih =>
    intro out cur left hm hp
    rw [loopN_s]
    simp only [restore_PartsOf_L3]
    cases left with
    | nil =>
      simp only [List.length_nil, decide_true, cond_true]
      exact hk out (by simpa using hp)
    | cons x0 rest =>
      simp only [List.length_cons, show ¬ rest.length + 1 = 0 by omega, decide_false, cond_false]
      refine pickK_of (by simp) fun j x hj => ?_
      have hpl := hp.length_eq
      simp only [List.length_append, List.length_map, List.length_cons] at hpl
      rw [chk_of (room_of (by simp; omega) (by simp; omega))]
      have hjl : j < (x0 :: rest).length := (List.getElem?_eq_some_iff.1 hj).1
      refine ih _ _ _ (by rw [List.length_eraseIdx_of_lt hjl]; simp only [List.length_cons] at hm ⊢; omega) (List.Perm.trans ?_ hp)
      rw [List.append_assoc]
      refine List.Perm.append_left out ?_
      have := (erase_perm _ _ _ hj).map fun x : Str × Int => PartCount.mk x.1 x.2
      simpa using this
end
section
set_option maxRecDepth 4000
open Go
variable {n : Nat}
theorem cmpS (a b : PartCount) : ∃ y, restore_PartsOf_f1 n a b = some y ∧ decide (y < 0) = bLt a.Part b.Part := by
  simp only [restore_PartsOf_f1, cmp_Compare_string, cmp_isNaN_string, Option.bind_some, BEq.rfl, Bool.not_true, cond_false]
  cases bLt a.Part b.Part
  · cases !(false || (a.Part == b.Part)) <;> exact ⟨_, rfl, rfl⟩
  · exact ⟨_, rfl, rfl⟩
def swP (d : List PartCount) (j : Nat) : List PartCount := List.set (List.set d j (ix d (j - 1))) (j - 1) (ix d j)
theorem swP_ix {d : List PartCount} {j : Nat} (h0 : 0 < j) (hj : j < d.length) (k : Nat) : ix (swP d j) k = if k = j - 1 then ix d j else if k = j then ix d (j - 1) else ix d k := by
  unfold swP
  rw [ix_set' (by simp; omega), ix_set' hj]
  by_cases h1 : j - 1 = k
  · simp [h1]
  · have e1 : ¬ k = j - 1 := fun c => h1 c.symm
    by_cases h2 : j = k
    · subst h2; simp [h1, e1]
    · have e2 : ¬ k = j := fun c => h2 c.symm
      simp [h1, h2, e1, e2]
def NmP (d : List PartCount) : Prop := (d.map fun x => x.Part).Nodup
theorem NmP.inj {d : List PartCount} (h : NmP d) {p q : Nat} (hp : p < d.length) (hq : q < d.length) (e : (ix d p).Part = (ix d q).Part) : p = q := by
  rw [ix_eq hp, ix_eq hq] at e
  have := (List.getElem_inj h (h₀ := by simpa using hp) (h₁ := by simpa using hq)).1 (by simpa using e)
  exact this
def UpP (d : List PartCount) (i j : Nat) : Prop := ∀ p q, p < q → q ≤ i → q ≠ j → bLt (ix d p).Part (ix d q).Part = true
theorem insS_inner {k1 : List PartCount → Option (List PartCount)} {i : Nat} : ∀ m j d, j < m → j ≤ i → i < d.length → d.length ≤ 12 → NmP d → UpP d i j → ∃ d', loopN (slices_insertionSortCmpFunc_PartCount_L1 n 0 k1) m (((j : Nat) : Int), d) = k1 d' ∧ d'.Perm d ∧ UpP d' i (i + 1) := by
  intro m
  induction m with
  | zero => intro j d h; omega
  | succ m ih =>
    intro j d hm hji hi hl hnm hup
    rw [loopN_s]
    have e1 : (((j : Nat) : Int) - 1).toNat = j - 1 := by omega
    have e2 : (((j : Nat) : Int)).toNat = j := by omega
    obtain ⟨y, hy, hyb⟩ := cmpS (n := n) (ix d j) (ix d (j - 1))
    simp only [slices_insertionSortCmpFunc_PartCount_L1, e1, e2, hy, Option.bind_some, gcall_some_]
    by_cases h0 : 0 < j
    · have hd : ((0 : Int) < ((j : Nat) : Int)) := by omega
      simp only [hd, decide_true, Bool.not_true, Bool.false_or, Bool.true_and, cond_true, hyb]
      rw [chk_of (inB_of (by omega) (by omega)), chk_of (by simp; omega), chk_of (inI_of (by omega) (by omega)), chk_of (inB_of (by omega) (by omega)), chk_of (by simp; omega)]
      cases hb : bLt (ix d j).Part (ix d (j - 1)).Part with
      | true =>
        simp only [cond_true]
        rw [chk_of (inI_of (by omega) (by omega)), chk_of (inB_of (by omega) (by omega)), chk_of (by simp; omega), chk_of (inB_of (by omega) (by omega)), chk_of (by simp; omega), chk_of (by simp; omega)]
        have e3 : ((j : Nat) : Int) - 1 = ((j - 1 : Nat) : Int) := by omega
        rw [e3]
        have hpm : (swP d j).Perm d := sw_perm d j h0 (by omega)
        have hsl : (swP d j).length = d.length := hpm.length_eq
        obtain ⟨d', g1, g2, g3⟩ := ih (j - 1) (swP d j) (by omega) (by omega) (by rw [hsl]; exact hi) (by rw [hsl]; exact hl) ((hpm.map _).nodup_iff.2 hnm) (fun p q hp hq hne => by
          rw [swP_ix h0 (by omega), swP_ix h0 (by omega), if_neg hne]
          by_cases q2 : q = j
          · rw [if_pos q2]
            by_cases p1 : p = j - 1
            · rw [if_pos p1]; exact hb
            · rw [if_neg p1, if_neg (by omega)]
              exact hup p (j - 1) (by omega) (by omega) (by omega)
          · rw [if_neg q2]
            by_cases p1 : p = j - 1
            · rw [if_pos p1]; exact hup j q (by omega) hq q2
            · rw [if_neg p1]
              by_cases p2 : p = j
              · rw [if_pos p2]; exact hup (j - 1) q (by omega) hq q2
              · rw [if_neg p2]; exact hup p q hp hq q2)
        exact ⟨d', g1, g2.trans hpm, g3⟩
      | false =>
        simp only [cond_false]
        refine ⟨d, rfl, List.Perm.refl _, fun p q hp hq _ => ?_⟩
        by_cases hqj : q = j
        · have hlt : bLt (ix d (j - 1)).Part (ix d j).Part = true := by
            rcases bLt_tri (ix d j).Part (ix d (j - 1)).Part with c | c | c
            · rw [hb] at c; cases c
            · have := hnm.inj (by omega : j < d.length) (by omega : j - 1 < d.length) c; omega
            · exact c
          subst hqj
          by_cases hp1 : p = q - 1
          · rw [hp1]; exact hlt
          · exact bLt_trans _ _ _ (hup p (q - 1) (by omega) (by omega) (by omega)) hlt
        · exact hup p q hp hq hqj
    · have : j = 0 := by omega
      subst this
      simp only [show ¬ ((0 : Int) < ((0 : Nat) : Int)) by omega, decide_false, Bool.not_false, Bool.true_or, chk_t, Bool.false_and, cond_false]
      exact ⟨d, rfl, List.Perm.refl _, fun p q hp hq _ => hup p q hp hq (by omega)⟩
theorem insS_sort {l : List PartCount} (hl : l.length ≤ 12) (hnm : NmP l) (hn : 100 < n) : ∃ d, slices_insertionSortCmpFunc_PartCount n l 0 ((l.length : Nat) : Int) = some d ∧ d.Perm l ∧ Asc (d.map fun x => x.Part) := by
  rw [slices_insertionSortCmpFunc_PartCount, chk_of (by decide)]
  have main : ∀ m i d, 1 ≤ i → l.length - i < m → d.Perm l → (∀ p q, p < q → q < i → q < l.length → bLt (ix d p).Part (ix d q).Part = true) → ∃ d', loopN (slices_insertionSortCmpFunc_PartCount_L2 n 0 ((l.length : Nat) : Int)) m (((i : Nat) : Int), d) = some d' ∧ d'.Perm l ∧ ∀ p q, p < q → q < l.length → bLt (ix d' p).Part (ix d' q).Part = true := by
    intro m
    induction m with
    | zero => intro i d _ h; omega
    | succ m ih =>
      intro i d hi hm hp hup
      have hd := hp.length_eq
      rw [loopN_s]
      by_cases h : i < l.length
      · have hlt : ((i : Nat) : Int) < ((l.length : Nat) : Int) := by omega
        simp only [slices_insertionSortCmpFunc_PartCount_L2, hlt, decide_true, cond_true, withK_eq]
        obtain ⟨d', g1, g2, g3⟩ := insS_inner (n := n) (i := i) (k1 := fun v12 => chk (inI (((i : Nat) : Int) + 1)) (loopN (slices_insertionSortCmpFunc_PartCount_L2 n 0 ((l.length : Nat) : Int)) m (((i : Nat) : Int) + 1, v12))) n i d (by omega) (Nat.le_refl _) (by omega) (by omega) ((hp.map _).nodup_iff.2 hnm) (fun p q h1 h2 h3 => hup p q h1 (by omega) (by omega))
        rw [g1, chk_of (inI_of (by omega) (by omega)), show ((i : Nat) : Int) + 1 = ((i + 1 : Nat) : Int) by omega]
        exact ih (i + 1) d' (by omega) (by omega) (g2.trans hp) fun p q h1 h2 h3 => g3 p q h1 (by omega) (by omega)
      · have hlt : ¬ ((i : Nat) : Int) < ((l.length : Nat) : Int) := by omega
        simp only [slices_insertionSortCmpFunc_PartCount_L2, hlt, decide_false, cond_false]
        exact ⟨d, rfl, hp, fun p q h1 h2 => hup p q h1 (by omega) h2⟩
  obtain ⟨d, g1, g2, g3⟩ := main n 1 l (by omega) (by omega) (List.Perm.refl _) (fun p q h1 h2 _ => by omega)
  have hd := g2.length_eq
  refine ⟨d, g1, g2, ?_⟩
  rw [Asc, List.pairwise_map, List.pairwise_iff_getElem]
  intro i j hi hj hij
  have := g3 i j hij (by omega)
  rw [ix_eq hi, ix_eq hj] at this
  exact this
theorem sorted_one {d d' : List PartCount} (h1 : Asc (d.map fun x => x.Part)) (h2 : Asc (d'.map fun x => x.Part)) (hp : d.Perm d') : d = d' := by
  have hm : d.map (fun x => x.Part) = d'.map fun x => x.Part := h1.ext h2 fun s => (hp.map _).mem_iff
  have hl := hp.length_eq
  refine List.ext_getElem hl fun i hi hi' => ?_
  obtain ⟨j, hj, e⟩ := List.getElem_of_mem (hp.mem_iff.1 (List.getElem_mem hi))
  have e1 : (d.map fun x => x.Part)[i]'(by simpa using hi) = (d'.map fun x => x.Part)[i]'(by simpa using hi') := by simp only [hm]
  simp only [List.getElem_map] at e1
  have : j = i := by
    have := (List.getElem_inj h2.nodup (i := j) (j := i) (h₀ := by simpa using hj) (h₁ := by simpa using hi')).1 (by simp only [List.getElem_map]; rw [e, e1])
    exact this
  subst this
  exact e.symm
end
section
set_option maxRecDepth 4000
open Go
variable {n : Nat}
theorem sortS {l : List PartCount} (hl : l.length ≤ 12) (hnm : NmP l) (hn : 100 < n) : ∃ d, slices_SortFunc_PartCount n l = some d ∧ d.Perm l ∧ Asc (d.map fun x => x.Part) := by
  obtain ⟨y, hy⟩ := bits_ok (n := n) hl
  obtain ⟨d, g1, g2, g3⟩ := insS_sort (n := n) hl hnm hn
  rw [slices_SortFunc_PartCount, hy]
  simp only [Option.bind_some]
  refine ⟨d, ?_, g2, g3⟩
  have hle : ((l.length : Nat) : Int) - 0 ≤ 12 := by omega
  have : slices_pdqsortCmpFunc_PartCount n l 0 ((l.length : Nat) : Int) y = some d := by
    rw [slices_pdqsortCmpFunc_PartCount, show n = (n - 1) + 1 by omega, loopN_s, slices_pdqsortCmpFunc_PartCount_L1, show n - 1 + 1 = n by omega, chk_of (inI_of (by omega) (by omega))]
    simp only [hle, decide_true, cond_true, g1, Option.bind_some, g2.length_eq, chk_t]
  rw [this]
  simp [g2.length_eq]
theorem parts_res {t : List Task} {s : List Stocked} {l : List Str} (ht : OkT t) (h0 : tasksE n t = 0) (hs : stockC s = 0) (h12 : s.length ≤ 12) (hl : setE t l = 0) (hll : l.length ≤ 63) (hb : ∀ i, i < l.length → setL t s l i = 0) (hn : 1000 < n) :
    ∃ d m K, restore_PartsOf n t l = some (0, d) ∧ d.Perm (m.map fun x : Str × Int => PartCount.mk x.1 x.2) ∧ Mp s m K ∧ K ≤ 1000000 ∧ valM s m = sm (partF t s l) l.length := by
  have hlen := ht.len
  have hk := (set_ok hl).1
  rw [restore_PartsOf, sets_res ht (by simp) (by simp only [List.mem_cons, List.mem_nil_iff, or_false]; rintro x rfl; omega) hn, h0]
  have e : firstE (fun v => setE t (ix [l] v)) 0 [l].length = 0 := by
    show (bif setE t l != 0 then setE t l else 0) = 0
    rw [hl]; rfl
  simp only [bne_self_eq_false, cond_false, e, Option.bind_some, withK_eq]
  obtain ⟨s2, back2, ⟨m, e3, p1, p2⟩, r2⟩ := loop_inv (F := restore_PartsOf_L2 n t l fun v12 => loopN (restore_PartsOf_L3 fun v20 => (slices_SortFunc_PartCount n v20).bind fun y21 => chk (decide (v20.length = y21.length)) <| some (0, y21)) n ([], none, v12)) (len := l.length) (P := fun v st => ∃ m, st = (v, m) ∧ Mp s m (10000 * (v : Int)) ∧ valM s m = sm (partF t s l) v) (fun back v st hv hP => by
    obtain ⟨m, e, p1, p2⟩ := hP
    subst e
    have hkv := hk _ (ix_mem hv)
    obtain ⟨k1, k2, k3, k4⟩ := known_ix hkv
    have hlk : lacks s (taskOf t (ix l v)).Parts = false := by
      have := hb v hv
      unfold setL at this
      cases c2 : lacks s (taskOf t (ix l v)).Parts with
      | false => rfl
      | true => rw [c2] at this; simp at this
    obtain ⟨m', q1, q2, q3⟩ := counts_task (n := n) ht h0 hs hkv hlk hn (by omega) (by omega) p1 fun v11 => chk (nI (v + 1)) (back (v + 1, v11))
    refine ⟨(v + 1, m'), ⟨m', rfl, by rw [show 10000 * ((v + 1 : Nat) : Int) = 10000 * (v : Int) + 10000 by omega]; exact q1, ?_⟩, ?_⟩
    · rw [q2, p2, sm, partF]
    · simp only [restore_PartsOf_L2, hv, decide_true, cond_true, withK_eq, find_eq t (ix l v) (by omega : t.length < n) (by omega), Option.bind_some, k1, k2, chk_t]
      rw [q3, chk_of (nI_of (by omega))]) n 0 (0, []) (by omega) (by omega) ⟨[], rfl, ⟨List.nodup_nil, by simp, by simp⟩, rfl⟩
  subst e3
  rw [r2]
  have hml := p1.len
  have hks : NmP (m.map fun x : Str × Int => PartCount.mk x.1 x.2) := by
    unfold NmP
    rw [List.map_map]
    exact p1.nd
  obtain ⟨d, g1, g2, g3⟩ := sortS (n := n) (l := m.map fun x : Str × Int => PartCount.mk x.1 x.2) (by simp; omega) hks (by omega)
  refine ⟨d, m, 10000 * (l.length : Int), ?_, g2, p1, by omega, p2⟩
  simp only [restore_PartsOf_L2, Nat.lt_irrefl, decide_false, cond_false]
  refine rngP_loop (ks := m.map fun x : Str × Int => PartCount.mk x.1 x.2) (by simp; omega) (fun out hp => ?_) n _ _ _ (by omega) (by simp)
  have hol : out.length ≤ 12 := by rw [hp.length_eq]; simp; omega
  obtain ⟨d', q1, q2, q3⟩ := sortS (n := n) (l := out) hol ((hp.map _).nodup_iff.2 hks) (by omega)
  have : d' = d := sorted_one q3 g3 (q2.trans (hp.trans g2.symm))
  subst this
  simp [q1, q2.length_eq]
end
section
set_option maxRecDepth 4000
open Go
variable {n : Nat}
theorem sm_add {f g : Nat → Int} : ∀ k, sm (fun i => f i + g i) k = sm f k + sm g k
  | 0 => rfl
  | k + 1 => by rw [sm, sm, sm, sm_add k]; omega
theorem perm_sum {l m : List Int} (h : l.Perm m) : l.sum = m.sum := by
  induction h with
  | nil => rfl
  | cons x _ ih => simp [ih]
  | swap x y l => simp only [List.sum_cons]; omega
  | trans _ _ ih1 ih2 => exact ih1.trans ih2
theorem sm_list {α : Type} [Inhabited α] (f : α → Int) : ∀ l : List α, sm (fun i => f (ix l i)) l.length = (l.map f).sum := by
  intro l
  have key : ∀ k, k ≤ l.length → sm (fun i => f (ix l i)) k = ((l.take k).map f).sum := by
    intro k
    induction k with
    | zero => intro _; rfl
    | succ k ih =>
      intro hk
      rw [sm, ih (by omega), List.take_succ_eq_append_getElem (by omega), ix_eq (by omega)]
      simp only [List.map_append, List.sum_append, List.map_cons, List.map_nil, List.sum_cons, List.sum_nil, Int.add_zero]
  rw [key l.length (Nat.le_refl _), List.take_length]
end
section
set_option maxRecDepth 4000
open Go
theorem u64n (m : Nat) (h : m < 2 ^ 64) : IntKind.u64.wrap ((m : Nat) : Int) = ((m : Nat) : Int) := by
  have : (2 : Nat) ^ 64 = 18446744073709551616 := by decide
  exact IntWalk.u64_in _ ⟨by omega, by omega⟩
theorem ofInt64 (a : Nat) (h : a < 2 ^ 64) : (BitVec.ofInt IntKind.u64.bits ((a : Nat) : Int)).toNat = a := by
  show (BitVec.ofInt 64 ((a : Nat) : Int)).toNat = a
  rw [BitVec.toNat_ofInt]
  have : (2 : Nat) ^ 64 = 18446744073709551616 := by decide
  omega
theorem iAnd_n (a b : Nat) (ha : a < 2 ^ 64) (hb : b < 2 ^ 64) : iAnd .u64 ((a : Nat) : Int) ((b : Nat) : Int) = ((a &&& b : Nat) : Int) := by
  unfold iAnd
  rw [BitVec.toNat_and, ofInt64 a ha, ofInt64 b hb]
  exact u64n _ (Nat.lt_of_le_of_lt Nat.and_le_left ha)
theorem iOr_n (a b : Nat) (ha : a < 2 ^ 64) (hb : b < 2 ^ 64) : iOr .u64 ((a : Nat) : Int) ((b : Nat) : Int) = ((a ||| b : Nat) : Int) := by
  unfold iOr
  rw [BitVec.toNat_or, ofInt64 a ha, ofInt64 b hb]
  exact u64n _ (Nat.or_lt_two_pow ha hb)
theorem iAndNot_n (a b : Nat) (ha : a < 2 ^ 64) (hb : b < 2 ^ 64) : iAndNot .u64 ((a : Nat) : Int) ((b : Nat) : Int) = ((a &&& (2 ^ 64 - 1 - b) : Nat) : Int) := by
  unfold iAndNot
  rw [BitVec.toNat_and, BitVec.toNat_not, ofInt64 a ha, ofInt64 b hb]
  exact u64n _ (Nat.lt_of_le_of_lt Nat.and_le_left ha)
theorem andNot_zero (a b : Nat) (ha : a < 2 ^ 64) (hb : b < 2 ^ 64) : (iAndNot .u64 ((a : Nat) : Int) ((b : Nat) : Int) != (0 : Int)) = false ↔ ∀ i, a.testBit i = true → b.testBit i = true := by
  rw [iAndNot_n a b ha hb, bne_eq_false_iff_eq]
  constructor
  · intro h i hi
    have h0 : a &&& (2 ^ 64 - 1 - b) = 0 := by omega
    have h1 := congrArg (fun x => x.testBit i) h0
    simp only [Nat.testBit_and, hi, Bool.true_and, Nat.zero_testBit] at h1
    have hlt : i < 64 := by
      by_cases c : i < 64
      · exact c
      · have := Nat.testBit_lt_two_pow (x := a) (i := i) (Nat.lt_of_lt_of_le ha (Nat.pow_le_pow_right (by omega) (by omega)))
        rw [this] at hi; cases hi
    rw [show 2 ^ 64 - 1 - b = 2 ^ 64 - (b + 1) by omega, Nat.testBit_two_pow_sub_succ hb] at h1
    simpa [hlt] using h1
  · intro h
    have h0 : a &&& (2 ^ 64 - 1 - b) = 0 := by
      refine Nat.eq_of_testBit_eq fun i => ?_
      rw [Nat.testBit_and, Nat.zero_testBit, show 2 ^ 64 - 1 - b = 2 ^ 64 - (b + 1) by omega, Nat.testBit_two_pow_sub_succ hb]
      cases e : a.testBit i with
      | false => rfl
      | true => rw [h i e]; simp
    rw [h0]; rfl
theorem bit_n (b i : Nat) (hb : b < 2 ^ 64) (hi : i ≤ 63) : iAnd .u64 (Int.fdiv ((b : Nat) : Int) (2 ^ (min ((i : Nat) : Int).toNat 64))) 1 = (((b.testBit i).toNat : Nat) : Int) := by
  have e1 : min ((i : Nat) : Int).toNat 64 = i := by omega
  rw [e1]
  have e2 : Int.fdiv ((b : Nat) : Int) (2 ^ i) = ((b / 2 ^ i : Nat) : Int) := by
    rw [show (2 : Int) ^ i = ((2 ^ i : Nat) : Int) by simp, Int.fdiv_eq_ediv_of_nonneg _ (Int.natCast_nonneg _)]
    rfl
  rw [e2]
  have h1 : b / 2 ^ i < 2 ^ 64 := Nat.lt_of_le_of_lt (Nat.div_le_self _ _) hb
  have := iAnd_n (b / 2 ^ i) 1 h1 (by decide)
  rw [show ((1 : Nat) : Int) = 1 from rfl] at this
  rw [this]
  congr 1
  rw [Nat.and_one_is_mod, Nat.toNat_testBit]
theorem bit_ne (b i : Nat) (hb : b < 2 ^ 64) (hi : i ≤ 63) : (iAnd .u64 (Int.fdiv ((b : Nat) : Int) (2 ^ (min ((i : Nat) : Int).toNat 64))) 1 != (0 : Int)) = b.testBit i := by
  rw [bit_n b i hb hi]
  cases b.testBit i <;> rfl
theorem bit_eq (b i : Nat) (hb : b < 2 ^ 64) (hi : i ≤ 63) : (iAnd .u64 (Int.fdiv ((b : Nat) : Int) (2 ^ (min ((i : Nat) : Int).toNat 64))) 1 == (0 : Int)) = !b.testBit i := by
  rw [bit_n b i hb hi]
  cases b.testBit i <;> rfl
theorem and_zero (a b : Nat) (ha : a < 2 ^ 64) (hb : b < 2 ^ 64) : (iAnd .u64 ((a : Nat) : Int) ((b : Nat) : Int) == (0 : Int)) = true ↔ ∀ i, ¬ (a.testBit i = true ∧ b.testBit i = true) := by
  rw [iAnd_n a b ha hb, beq_iff_eq]
  constructor
  · intro h i ⟨h1, h2⟩
    have h0 : a &&& b = 0 := by omega
    have := congrArg (fun x => x.testBit i) h0
    simp [h1, h2] at this
  · intro h
    have : a &&& b = 0 := by
      refine Nat.eq_of_testBit_eq fun i => ?_
      rw [Nat.testBit_and, Nat.zero_testBit]
      have := h i
      cases e1 : a.testBit i <;> cases e2 : b.testBit i <;> simp [e1, e2] at this ⊢
    rw [this]; rfl
theorem shl_n (i : Nat) (hi : i ≤ 63) : IntKind.u64.wrap (1 * 2 ^ (min i 64)) = ((2 ^ i : Nat) : Int) := by
  rw [show min i 64 = i by omega, Int.one_mul, show (2 : Int) ^ i = ((2 ^ i : Nat) : Int) by simp]
  exact u64n _ (Nat.pow_lt_pow_right (by omega) (by omega))
theorem code_ex (p : Nat → Bool) : ∀ N, ∃ b, b < 2 ^ N ∧ ∀ i, b.testBit i = (decide (i < N) && p i)
  | 0 => ⟨0, by decide, fun i => by simp⟩
  | N + 1 => by
    obtain ⟨b, h1, h2⟩ := code_ex p N
    cases hp : p N with
    | false =>
      refine ⟨b, by rw [Nat.pow_succ]; omega, fun i => ?_⟩
      rw [h2 i]
      by_cases c : i = N
      · subst c; simp [hp]
      · have : decide (i < N) = decide (i < N + 1) := by
          by_cases d : i < N
          · simp [d, show i < N + 1 by omega]
          · simp [d, show ¬ i < N + 1 by omega]
        rw [this]
    | true =>
      refine ⟨b ||| 2 ^ N, Nat.or_lt_two_pow (by rw [Nat.pow_succ]; omega) (by rw [Nat.pow_succ]; have := Nat.two_pow_pos N; omega), fun i => ?_⟩
      rw [Nat.testBit_or, h2 i, Nat.testBit_two_pow]
      by_cases c : i = N
      · subst c; simp [hp]
      · have : decide (i < N) = decide (i < N + 1) := by
          by_cases d : i < N
          · simp [d, show i < N + 1 by omega]
          · simp [d, show ¬ i < N + 1 by omega]
        rw [this]
        simp [Ne.symm c]
end
section
set_option maxRecDepth 4000
open Go
def lexB : List Str → List Str → Bool
  | [], [] => false
  | [], _ :: _ => true
  | _ :: _, [] => false
  | x :: l, y :: m => bif x == y then lexB l m else bLt x y
theorem lexB_irr : ∀ l, lexB l l = false
  | [] => rfl
  | x :: l => by simp [lexB, lexB_irr l]
theorem lexB_trans : ∀ a b c, lexB a b = true → lexB b c = true → lexB a c = true
  | [], b, [], h, g => by cases b <;> simp [lexB] at h g
  | [], _, _ :: _, _, _ => rfl
  | _ :: _, [], _, h, _ => by simp [lexB] at h
  | _ :: _, _ :: _, [], _, g => by simp [lexB] at g
  | x :: a, y :: b, z :: c, h, g => by
    simp only [lexB] at h g ⊢
    by_cases h1 : x = y
    · subst h1
      simp only [BEq.rfl, cond_true] at h
      by_cases h2 : x = z
      · subst h2
        simp only [BEq.rfl, cond_true] at g ⊢
        exact lexB_trans a b c h g
      · have e : (x == z) = false := by rw [beq_eq_false_iff_ne]; exact h2
        simp only [e, cond_false] at g ⊢
        exact g
    · have e1 : (x == y) = false := by rw [beq_eq_false_iff_ne]; exact h1
      simp only [e1, cond_false] at h
      by_cases h2 : y = z
      · subst h2
        simp only [e1, cond_false]; exact h
      · have e2 : (y == z) = false := by rw [beq_eq_false_iff_ne]; exact h2
        simp only [e2, cond_false] at g
        have := bLt_trans _ _ _ h g
        have e3 : (x == z) = false := by
          rw [beq_eq_false_iff_ne]
          rintro rfl
          rw [bLt_irr] at this; cases this
        simp only [e3, cond_false]
        exact this
def ltK (c : List Str → Int) (a b : List Str) : Bool := decide (c a < c b) || (c a == c b) && (decide (a.length < b.length) || decide (a.length = b.length) && lexB a b)
theorem ltK_iff {c : List Str → Int} {a b : List Str} : ltK c a b = true ↔ c a < c b ∨ c a = c b ∧ (a.length < b.length ∨ a.length = b.length ∧ lexB a b = true) := by
  simp [ltK]
theorem ltK_trans {c : List Str → Int} {x y z : List Str} (h : ltK c x y = true) (g : ltK c y z = true) : ltK c x z = true := by
  rw [ltK_iff] at h g ⊢
  rcases h with h | ⟨h1, h2⟩
  · rcases g with g | ⟨g1, g2⟩
    · exact .inl (by omega)
    · exact .inl (by omega)
  · rcases g with g | ⟨g1, g2⟩
    · exact .inl (by omega)
    · refine .inr ⟨by omega, ?_⟩
      rcases h2 with h2 | ⟨h3, h4⟩
      · rcases g2 with g2 | ⟨g3, g4⟩
        · exact .inl (by omega)
        · exact .inl (by omega)
      · rcases g2 with g2 | ⟨g3, g4⟩
        · exact .inl (by omega)
        · exact .inr ⟨by omega, lexB_trans _ _ _ h4 g4⟩
def bestOf (c : List Str → Int) (p : Nat → Bool) (f : Nat → List Str) : Nat → Option (List Str)
  | 0 => none
  | b + 1 => match p b, bestOf c p f b with
    | false, r => r
    | true, none => some (f b)
    | true, some a => bif ltK c (f b) a then some (f b) else some a
theorem bestOf_some {c : List Str → Int} {p : Nat → Bool} {f : Nat → List Str} : ∀ {M a}, bestOf c p f M = some a → (∃ b, b < M ∧ p b = true ∧ f b = a) ∧ ∀ b, b < M → p b = true → ltK c (f b) a = false := by
  intro M
  induction M with
  | zero => intro a h; cases h
  | succ M ih =>
    intro a h
    simp only [bestOf] at h
    cases hp : p M with
    | false =>
      rw [hp] at h
      obtain ⟨⟨b, h1, h2, h3⟩, h4⟩ := ih h
      refine ⟨⟨b, by omega, h2, h3⟩, fun b' hb hpb => ?_⟩
      by_cases e : b' = M
      · subst e; rw [hp] at hpb; cases hpb
      · exact h4 b' (by omega) hpb
    | true =>
      rw [hp] at h
      cases hb : bestOf c p f M with
      | none =>
        rw [hb] at h; cases h
        refine ⟨⟨M, by omega, hp, rfl⟩, fun b' hb' hpb => ?_⟩
        by_cases e : b' = M
        · subst e
          cases hh : ltK c (f b') (f b') with
          | false => rfl
          | true => rw [ltK_iff, lexB_irr] at hh; rcases hh with h | ⟨_, h | ⟨_, h⟩⟩ <;> first | omega | cases h
        · exfalso
          have key : ∀ K, b' < K → bestOf c p f K ≠ none := by
            intro K
            induction K with
            | zero => intro h; omega
            | succ K ihK =>
              intro hK
              simp only [bestOf]
              by_cases e2 : b' = K
              · subst e2
                rw [hpb]
                cases bestOf c p f b' with
                | none => simp
                | some x => cases hh : ltK c (f b') x <;> simp [hh]
              · have := ihK (by omega)
                cases hq : bestOf c p f K with
                | none => exact absurd hq this
                | some x =>
                  cases p K with
                  | false => simp
                  | true => cases hh : ltK c (f K) x <;> simp [hh]
          exact key M (by omega) hb
      | some x =>
        rw [hb] at h
        obtain ⟨⟨b, h1, h2, h3⟩, h4⟩ := ih hb
        simp only at h
        cases hl : ltK c (f M) x with
        | true =>
          rw [hl] at h; cases h
          refine ⟨⟨M, by omega, hp, rfl⟩, fun b' hb' hpb => ?_⟩
          cases hh : ltK c (f b') (f M) with
          | false => rfl
          | true =>
            by_cases e : b' = M
            · subst e
              rw [ltK_iff, lexB_irr] at hh; rcases hh with h | ⟨_, h | ⟨_, h⟩⟩ <;> first | omega | cases h
            · have := h4 b' (by omega) hpb
              rw [ltK_trans hh hl] at this; cases this
        | false =>
          rw [hl] at h; cases h
          refine ⟨⟨b, by omega, h2, h3⟩, fun b' hb' hpb => ?_⟩
          by_cases e : b' = M
          · subst e; exact hl
          · exact h4 b' (by omega) hpb
theorem bestOf_none {c : List Str → Int} {p : Nat → Bool} {f : Nat → List Str} {M : Nat} (h : bestOf c p f M = none) : ∀ b, b < M → p b = false := by
  induction M with
  | zero => intro b hb; omega
  | succ M ih =>
    intro b hb
    simp only [bestOf] at h
    cases hp : p M with
    | false =>
      rw [hp] at h
      by_cases e : b = M
      · subst e; exact hp
      · exact ih h b (by omega)
    | true =>
      rw [hp] at h
      cases hb2 : bestOf c p f M with
      | none => rw [hb2] at h; cases h
      | some x =>
        rw [hb2] at h
        cases hl : ltK c (f M) x <;> simp [hl] at h
theorem firstE_all {E : Nat → Int} : ∀ {m v : Nat}, (∀ j, v ≤ j → j < v + m → E j = 0) → firstE E v m = 0
  | 0, _, _ => rfl
  | m + 1, v, h => by
    unfold firstE
    rw [h v (by omega) (by omega)]
    exact firstE_all fun j h1 h2 => h j (by omega) (by omega)
theorem nodMap {α β : Type} {f : α → β} : ∀ {l : List α}, l.Nodup → (∀ x ∈ l, ∀ y ∈ l, f x = f y → x = y) → (l.map f).Nodup
  | [], _, _ => List.nodup_nil
  | a :: l, h, hf => by
    have h2 := List.nodup_cons.1 h
    rw [List.map_cons, List.nodup_cons]
    refine ⟨fun hm => ?_, nodMap h2.2 fun x hx y hy => hf x (by simp [hx]) y (by simp [hy])⟩
    obtain ⟨x, hx, e⟩ := List.mem_map.1 hm
    have := hf x (by simp [hx]) a (by simp) e
    subst this
    exact h2.1 hx
theorem perm_nd {α : Type} [DecidableEq α] : ∀ {l m : List α}, l.Nodup → m.Nodup → (∀ x, x ∈ l ↔ x ∈ m) → l.Perm m
  | [], m, _, _, h => by
    cases m with
    | nil => exact .refl _
    | cons y m => have := (h y).2 (by simp); cases this
  | x :: l, m, h1, h2, h => by
    have hx : x ∈ m := (h x).1 (by simp)
    have g := List.nodup_cons.1 h1
    refine (List.Perm.cons x (perm_nd g.2 (h2.erase x) fun y => ?_)).trans (List.perm_cons_erase hx).symm
    by_cases e : y = x
    · subst e
      constructor
      · intro c; exact absurd c g.1
      · intro c; exact absurd c (List.Nodup.not_mem_erase h2)
    · rw [List.mem_erase_of_ne e, ← h y, List.mem_cons]
      simp [e]
def sm' (f : Nat → Int) (p : Nat → Bool) : Nat → Int
  | 0 => 0
  | k + 1 => sm' f p k + bif p k then f k else 0
theorem filter_sum (f : Nat → Int) (p : Nat → Bool) : ∀ N, (((List.range N).filter p).map f).sum = sm' f p N := by
  intro N
  induction N with
  | zero => rfl
  | succ N ih =>
    rw [List.range_succ, List.filter_append, List.map_append, List.sum_append, ih]
    simp only [sm', List.filter_cons, List.filter_nil]
    cases p N <;> simp
end
section
set_option maxRecDepth 4000
open Go
variable {n : Nat}
def idx (t : List Task) (s : Str) : Nat := (findI (byName s) t).toNat
theorem idx_facts {t : List Task} {s : Str} (h : t.any (byName s) = true) : 0 ≤ findI (byName s) t ∧ idx t s < t.length ∧ (ix t (idx t s)).Name = s := by
  obtain ⟨k1, k2, k3, k4⟩ := known_ix h
  refine ⟨?_, k2, k4⟩
  simp only [inB, Bool.and_eq_true, decide_eq_true_eq] at k1
  exact k1.1
theorem idx_ix {t : List Task} (h0 : tasksE n t = 0) {i : Nat} (hi : i < t.length) : idx t (ix t i).Name = i := by
  obtain ⟨_, h1⟩ := tasks_zero h0
  have h2 := (task_facts (h1 i hi)).1
  have h3 : ¬ findI (byName (ix t i).Name) t < 0 := by omega
  obtain ⟨a, b, c, d⟩ := findI_pos h3
  by_cases e : (findI (byName (ix t i).Name) t).toNat = i
  · exact e
  · have := d i (by omega)
    simp [byName] at this
theorem known_at {t : List Task} {i : Nat} (hi : i < t.length) : t.any (byName (ix t i).Name) = true := any_byName.2 ⟨_, ix_mem hi, rfl⟩
def bitsN (t : List Task) : List Str → Nat
  | [] => 0
  | s :: l => 2 ^ idx t s ||| bitsN t l
theorem bitsN_app (t : List Task) : ∀ l m, bitsN t (l ++ m) = bitsN t l ||| bitsN t m
  | [], m => by simp [bitsN]
  | s :: l, m => by simp only [List.cons_append, bitsN, bitsN_app t l m, Nat.or_assoc]
theorem bitsN_lt {t : List Task} : ∀ {l : List Str}, (∀ s ∈ l, t.any (byName s) = true) → bitsN t l < 2 ^ t.length
  | [], _ => Nat.two_pow_pos _
  | s :: l, h => by
    obtain ⟨_, h1, _⟩ := idx_facts (h s (by simp))
    exact Nat.or_lt_two_pow (Nat.pow_lt_pow_right (by omega) h1) (bitsN_lt fun x hx => h x (by simp [hx]))
theorem bitsN_bit {t : List Task} {j : Nat} : ∀ {l : List Str}, (bitsN t l).testBit j = true ↔ ∃ s ∈ l, idx t s = j
  | [] => by simp [bitsN]
  | s :: l => by
    simp only [bitsN, Nat.testBit_or, Nat.testBit_two_pow, Bool.or_eq_true, decide_eq_true_eq, bitsN_bit (l := l), List.mem_cons]
    constructor
    · rintro (h | ⟨x, h1, h2⟩)
      · exact ⟨s, .inl rfl, h⟩
      · exact ⟨x, .inr h1, h2⟩
    · rintro ⟨x, rfl | h1, h2⟩
      · exact .inl h2
      · exact .inr ⟨x, h1, h2⟩
theorem pow64 {N : Nat} (h : N ≤ 63) : 2 ^ N < 2 ^ 64 := Nat.pow_lt_pow_right (by omega) (by omega)
theorem bits_res {t : List Task} {l : List Str} (hk : ∀ s ∈ l, t.any (byName s) = true) (ht : t.length ≤ 63) (hl : l.length ≤ 900) (hn : 1000 < n) : restore_list_bits n t l = some ((bitsN t l : Nat) : Int) := by
  rw [restore_list_bits, withK_eq]
  refine loop_fold (st := fun v => ((bitsN t (l.take v) : Nat) : Int)) (len := l.length) (fun back v hv => ?_) (fun back => ?_) n (by omega) rfl
  · obtain ⟨h1, h2, _⟩ := idx_facts (hk _ (ix_mem hv))
    simp only [restore_list_bits_L1, hv, decide_true, cond_true, find_eq t (ix l v) (by omega : t.length < n) (by omega), Option.bind_some, h1, chk_t, nI_of (by omega : v + 1 ≤ 9223372036854775807)]
    rw [show (findI (byName (ix l v)) t).toNat = idx t (ix l v) from rfl, shl_n _ (by omega)]
    have hb : bitsN t (l.take v) < 2 ^ 64 := Nat.lt_trans (bitsN_lt fun s hs => hk s (List.mem_of_mem_take hs)) (pow64 ht)
    rw [iOr_n _ _ hb (Nat.lt_trans (Nat.pow_lt_pow_right (by omega) h2) (pow64 ht))]
    rw [List.take_succ_eq_append_getElem hv, bitsN_app]
    simp only [bitsN, Nat.or_zero, ix_eq hv]
  · simp [restore_list_bits_L1]
def ClosB (t : List Task) (b : Nat) : Prop := ∀ i, i < t.length → b.testBit i = true → (∀ s ∈ (ix t i).Needs, b.testBit (idx t s) = true) ∧ ∀ g ∈ (ix t i).OneOf, ∃ s ∈ g, b.testBit (idx t s) = true
theorem names_known {t : List Task} (h0 : tasksE n t = 0) {i : Nat} (hi : i < t.length) : (∀ s ∈ (ix t i).Needs, t.any (byName s) = true) ∧ ∀ g ∈ (ix t i).OneOf, ∀ s ∈ g, t.any (byName s) = true := by
  have h := lead_known hi ((tasks_zero h0).2 i hi)
  refine ⟨fun s hs => h s (by unfold leads; exact List.mem_append_left _ hs), fun g hg s hs => h s (by unfold leads; exact List.mem_append_right _ (List.mem_flatten.2 ⟨g, hg, hs⟩))⟩
theorem disj_res {gs : List Int} {b : Nat} (hl : gs.length ≤ 900) (hn : 1000 < n) : slices_ContainsFunc_bitset n gs ((b : Nat) : Int) = some (gs.any fun g => iAnd .u64 g ((b : Nat) : Int) == (0 : Int)) := by
  rw [slices_ContainsFunc_bitset, slices_IndexFunc_bitset, withK_eq, loop_findI (l := gs) (p := fun g => iAnd .u64 g ((b : Nat) : Int) == (0 : Int)) (fun back v hv => ?_) (fun back => ?_) n (by omega)]
  · simp only [Option.bind_some, findI_any]
  · rw [slices_IndexFunc_bitset_L1]
    simp only [hv, decide_true, cond_true, restore_choice_closed_f1, Option.bind_some, nI_of (by omega : v + 1 ≤ 9223372036854775807), chk_t]
  · rw [slices_IndexFunc_bitset_L1]; simp
def needB (t : List Task) : List Int := t.map fun x => ((bitsN t x.Needs : Nat) : Int)
def grpB (t : List Task) : List (List Int) := t.map fun x => x.OneOf.map fun g => ((bitsN t g : Nat) : Int)
theorem ix_map {α β : Type} [Inhabited α] [Inhabited β] (f : α → β) {l : List α} {i : Nat} (h : i < l.length) : ix (l.map f) i = f (ix l i) := by
  rw [ix_eq (by simpa using h), ix_eq h]; simp
def openB (t : List Task) (b : Nat) (i : Nat) : Bool := b.testBit i && ((iAndNot .u64 ((bitsN t (ix t i).Needs : Nat) : Int) ((b : Nat) : Int) != (0 : Int)) || ((ix t i).OneOf.map fun g => ((bitsN t g : Nat) : Int)).any fun g => iAnd .u64 g ((b : Nat) : Int) == (0 : Int))
def openE (t : List Task) (b : Nat) (i : Nat) : Int := bif openB t b i then 1 else 0
theorem closed_res {t : List Task} (ok : OkT t) (h0 : tasksE n t = 0) {b : Nat} (hb : b < 2 ^ t.length) (c : List Int) (hn : 1000 < n) : restore_choice_closed n (needB t) (grpB t) c ((b : Nat) : Int) = some (firstE (openE t b) 0 t.length == 0) := by
  have hlen := ok.len
  have hb64 : b < 2 ^ 64 := Nat.lt_trans hb (pow64 hlen)
  rw [restore_choice_closed, withK_eq]
  rw [loop_first (st := fun v => v) (E := openE t b) (err := fun _ => some false) (k := some true) (len := t.length) (fun back v hv hz => ?_) (fun back hz => ?_) n 0 (by omega) (by omega) (fun j h => by omega), Nat.sub_zero]
  · by_cases h : firstE (openE t b) 0 t.length = 0
    · simp [h]
    · have h1 : (firstE (openE t b) 0 t.length != 0) = true := bne_t h
      have h2 : (firstE (openE t b) 0 t.length == 0) = false := by rw [beq_eq_false_iff_ne]; exact h
      rw [h1, h2]; rfl
  · have hv1 : v < (needB t).length := by simpa [needB] using hv
    have hv2 : v < (grpB t).length := by simpa [grpB] using hv
    have e1 : ix (needB t) v = ((bitsN t (ix t v).Needs : Nat) : Int) := ix_map _ hv
    have e2 : ix (grpB t) v = (ix t v).OneOf.map fun g => ((bitsN t g : Nat) : Int) := ix_map _ hv
    have ho := ok.oneof _ (ix_mem hv)
    simp only [restore_choice_closed_L1, hv1, decide_true, cond_true, withK_eq, chk_t, Int.natCast_nonneg, bit_eq b v hb64 (by omega), e1, e2, hv2, Bool.or_true, disj_res (n := n) (b := b) (gs := (ix t v).OneOf.map fun g => ((bitsN t g : Nat) : Int)) (by simp; omega) hn, gcall_some_, Option.bind_some, nI_of (by omega : v + 1 ≤ 9223372036854775807)]
    unfold openE openB
    cases b.testBit v
    · simp
    · cases (iAndNot .u64 ((bitsN t (ix t v).Needs : Nat) : Int) ((b : Nat) : Int) != (0 : Int))
      · simp only [Bool.not_true, Bool.not_false, cond_false, cond_true, Bool.false_or, Bool.true_and]
        cases (((ix t v).OneOf.map fun g => ((bitsN t g : Nat) : Int)).any fun g => iAnd .u64 g ((b : Nat) : Int) == (0 : Int)) <;> simp
      · simp
  · have : ¬ t.length < (needB t).length := by simp [needB]
    simp [restore_choice_closed_L1, this]
theorem closed_iff {t : List Task} (ok : OkT t) (h0 : tasksE n t = 0) {b : Nat} (hb : b < 2 ^ t.length) : (firstE (openE t b) 0 t.length == 0) = true ↔ ClosB t b := by
  have hlen := ok.len
  have hb64 : b < 2 ^ 64 := Nat.lt_trans hb (pow64 hlen)
  have key : ∀ i, i < t.length → (openB t b i = false ↔ (b.testBit i = true → (∀ s ∈ (ix t i).Needs, b.testBit (idx t s) = true) ∧ ∀ g ∈ (ix t i).OneOf, ∃ s ∈ g, b.testBit (idx t s) = true)) := by
    intro i hi
    obtain ⟨k1, k2⟩ := names_known h0 hi
    unfold openB
    cases hbi : b.testBit i with
    | false => simp
    | true =>
      simp only [Bool.true_and, Bool.or_eq_false_iff, forall_const]
      refine and_congr ?_ ?_
      · rw [andNot_zero _ _ (Nat.lt_trans (bitsN_lt k1) (pow64 hlen)) hb64]
        constructor
        · intro h s hs; exact h _ (bitsN_bit.2 ⟨s, hs, rfl⟩)
        · rintro h j hj
          obtain ⟨s, hs, rfl⟩ := bitsN_bit.1 hj
          exact h s hs
      · rw [List.any_eq_false]
        constructor
        · intro h g hg
          have h1 := h _ (List.mem_map_of_mem hg)
          rw [and_zero _ _ (Nat.lt_trans (bitsN_lt (k2 g hg)) (pow64 hlen)) hb64] at h1
          refine Classical.byContradiction fun c => h1 fun j ⟨hj1, hj2⟩ => c ?_
          obtain ⟨s, hs, rfl⟩ := bitsN_bit.1 hj1
          exact ⟨s, hs, hj2⟩
        · intro h x hx
          obtain ⟨g, hg, rfl⟩ := List.mem_map.1 hx
          rw [and_zero _ _ (Nat.lt_trans (bitsN_lt (k2 g hg)) (pow64 hlen)) hb64]
          intro c
          obtain ⟨s, hs, h1⟩ := h g hg
          exact c _ ⟨bitsN_bit.2 ⟨s, hs, rfl⟩, h1⟩
  rw [beq_iff_eq]
  constructor
  · intro h i hi
    have := firstE_zero h i (by omega) (by omega)
    refine (key i hi).1 ?_
    unfold openE at this
    cases c : openB t b i with
    | false => rfl
    | true => rw [c] at this; simp at this
  · intro h
    refine firstE_all fun i h1 h2 => ?_
    unfold openE
    rw [(key i (by omega)).2 (h i (by omega))]; rfl
end
section
set_option maxRecDepth 4000
open Go
variable {n : Nat}
def rawN (t : List Task) (b v : Nat) : List Str := ((List.range v).filter fun i => b.testBit i).map fun i => (ix t i).Name
theorem rawN_succ (t : List Task) (b v : Nat) : rawN t b (v + 1) = bif b.testBit v then rawN t b v ++ [(ix t v).Name] else rawN t b v := by
  unfold rawN
  rw [List.range_succ, List.filter_append, List.map_append]
  cases h : b.testBit v <;> simp [h]
theorem rawN_len (t : List Task) (b v : Nat) : (rawN t b v).length ≤ v := by
  have := List.length_filter_le (fun i => b.testBit i) (List.range v)
  simpa [rawN] using this
theorem rawN_mem {t : List Task} {b v : Nat} {s : Str} : s ∈ rawN t b v ↔ ∃ i, i < v ∧ b.testBit i = true ∧ (ix t i).Name = s := by
  simp only [rawN, List.mem_map, List.mem_filter, List.mem_range]
  constructor
  · rintro ⟨i, ⟨h1, h2⟩, h3⟩; exact ⟨i, h1, h2, h3⟩
  · rintro ⟨i, h1, h2, h3⟩; exact ⟨i, ⟨h1, h2⟩, h3⟩
theorem rawN_nd {t : List Task} (h0 : tasksE n t = 0) (b : Nat) : (rawN t b t.length).Nodup := by
  refine nodMap (List.Nodup.sublist List.filter_sublist List.nodup_range) fun x hx y hy e => ?_
  have h1 := List.mem_range.1 (List.mem_filter.1 hx).1
  have h2 := List.mem_range.1 (List.mem_filter.1 hy).1
  rw [← idx_ix h0 h1, ← idx_ix h0 h2, e]
def setP (n : Nat) (t : List Task) (b : Nat) : List Str := (slices_Sort_string n (rawN t b t.length)).getD []
theorem setP_spec {t : List Task} (h0 : tasksE n t = 0) (hN : t.length ≤ 12) (hn : 1000 < n) (b : Nat) : slices_Sort_string n (rawN t b t.length) = some (setP n t b) ∧ (setP n t b).length = (rawN t b t.length).length ∧ Asc (setP n t b) ∧ ∀ s, s ∈ setP n t b ↔ ∃ i, i < t.length ∧ b.testBit i = true ∧ (ix t i).Name = s := by
  have hl := rawN_len t b t.length
  obtain ⟨d, h1, h2, h3, h4⟩ := sort_eq (n := n) (l := rawN t b t.length) (by omega) (rawN_nd h0 b) (by omega)
  have e : setP n t b = d := by unfold setP; rw [h1]; rfl
  rw [e]
  exact ⟨h1, h2, h4, fun s => (h3 s).trans rawN_mem⟩
theorem names_res {t : List Task} (h0 : tasksE n t = 0) (hN : t.length ≤ 12) (hn : 1000 < n) {b : Nat} (hb : b < 2 ^ t.length) : restore_list_names n t ((b : Nat) : Int) = some (setP n t b) := by
  obtain ⟨h1, h2, _, _⟩ := setP_spec h0 hN hn b
  have hb64 : b < 2 ^ 64 := Nat.lt_trans hb (pow64 (by omega))
  rw [restore_list_names, withK_eq]
  refine loop_fold (st := fun v => rawN t b v) (len := t.length) (fun back v hv => ?_) (fun back => ?_) n (by omega) rfl
  · have hr := rawN_len t b v
    simp only [restore_list_names_L1, hv, decide_true, cond_true, withK_eq, Int.natCast_nonneg, chk_t, bit_ne b v hb64 (by omega), nI_of (by omega : v + 1 ≤ 9223372036854775807), rawN_succ]
    cases b.testBit v
    · rfl
    · rw [cond_true, cond_true, chk_of (room_of (by simp; omega) (by simp; omega))]
  · simp [restore_list_names_L1, h1, h2]
theorem setP_mem {t : List Task} (h0 : tasksE n t = 0) (hN : t.length ≤ 12) (hn : 1000 < n) {b : Nat} {s : Str} (hk : t.any (byName s) = true) : s ∈ setP n t b ↔ b.testBit (idx t s) = true := by
  obtain ⟨_, _, _, h⟩ := setP_spec h0 hN hn b
  obtain ⟨_, k2, k3⟩ := idx_facts hk
  rw [h]
  constructor
  · rintro ⟨i, h1, h2, rfl⟩
    rw [idx_ix h0 h1]; exact h2
  · intro h; exact ⟨_, k2, h, k3⟩
theorem setP_kn {t : List Task} (h0 : tasksE n t = 0) (hN : t.length ≤ 12) (hn : 1000 < n) (b : Nat) : Kn t (setP n t b) := fun s hs => by
  obtain ⟨_, _, _, h⟩ := setP_spec h0 hN hn b
  obtain ⟨i, h1, _, rfl⟩ := (h s).1 hs
  exact known_at h1
def costA (t : List Task) (s : List Stocked) (l : List Str) : Int := (l.map fun x => taskC s (taskOf t x)).sum
theorem cost_bits {t : List Task} (h0 : tasksE n t = 0) (hN : t.length ≤ 12) (hn : 1000 < n) (s : List Stocked) (b : Nat) : sm' (fun i => taskC s (ix t i)) (fun i => b.testBit i) t.length = costA t s (setP n t b) := by
  obtain ⟨_, _, h3, h⟩ := setP_spec h0 hN hn b
  have hp : (rawN t b t.length).Perm (setP n t b) := perm_nd (rawN_nd h0 b) h3.nodup fun x => rawN_mem.trans (h x).symm
  rw [costA, ← perm_sum (hp.map _), rawN, List.map_map, ← filter_sum]
  congr 1
  refine List.map_congr_left fun i hi => ?_
  have h1 := List.mem_range.1 (List.mem_filter.1 hi).1
  simp only [Function.comp_def, uniq_of h0 h1]
theorem task_ok {t : List Task} (h0 : tasksE n t = 0) {s : List Stocked} (hs : stockC s = 0) {i : Nat} (hi : i < t.length) (hk : lacks s (ix t i).Parts = false) : 0 ≤ taskC s (ix t i) ∧ taskC s (ix t i) ≤ 11000000000000 := by
  have h := task_nums ((tasks_zero h0).2 i hi)
  exact (taskC_bounds hs h.2.2 h.2.1 h.1.1 h.1.2 hk).2
theorem sm'_bounds {f : Nat → Int} {p : Nat → Bool} {c : Int} (hc : 0 ≤ c) : ∀ N, (∀ i, i < N → 0 ≤ f i ∧ f i ≤ c) → 0 ≤ sm' f p N ∧ sm' f p N ≤ N * c
  | 0, _ => by simp [sm']
  | k + 1, h => by
    have h1 := sm'_bounds (p := p) hc k fun i hi => h i (by omega)
    have h2 := h k (by omega)
    simp only [sm']
    have e : ((k + 1 : Nat) : Int) * c = k * c + c := by rw [Int.natCast_add, Int.add_mul]; omega
    rw [e]
    cases p k <;> simp only [cond_true, cond_false] <;> omega
theorem cost_loop {t : List Task} (h0 : tasksE n t = 0) {s : List Stocked} (hs : stockC s = 0) (hN : t.length ≤ 12) (hk : ∀ i, i < t.length → lacks s (ix t i).Parts = false) (hn : 1000 < n) {b : Nat} (hb : b < 2 ^ t.length) (k5 : Int → Option (Int × List Str × Int)) :
    loopN (restore_Cheapest_L4 (t.map (taskC s)) ((b : Nat) : Int) k5) n (0, 0) = k5 (sm' (fun i => taskC s (ix t i)) (fun i => b.testBit i) t.length) := by
  have hb64 : b < 2 ^ 64 := Nat.lt_trans hb (pow64 (by omega))
  refine loop_fold (st := fun v => sm' (fun i => taskC s (ix t i)) (fun i => b.testBit i) v) (len := t.length) (fun back v hv => ?_) (fun back => ?_) n (by omega) rfl
  · have a := sm'_bounds (f := fun i => taskC s (ix t i)) (p := fun i => b.testBit i) (c := 11000000000000) (by decide) v fun i hi => task_ok h0 hs (by omega) (hk i (by omega))
    have a2 := task_ok h0 hs hv (hk v hv)
    have hv1 : v < (t.map (taskC s)).length := by simpa using hv
    have e1 : ix (t.map (taskC s)) v = taskC s (ix t v) := ix_map _ hv
    have e2 : sm' (fun i => taskC s (ix t i)) (fun i => b.testBit i) (v + 1) = sm' (fun i => taskC s (ix t i)) (fun i => b.testBit i) v + bif b.testBit v then taskC s (ix t v) else 0 := rfl
    simp only [restore_Cheapest_L4, hv1, decide_true, cond_true, withK_eq, Int.natCast_nonneg, chk_t, bit_ne b v hb64 (by omega), nI_of (by omega : v + 1 ≤ 9223372036854775807), e1, e2]
    cases b.testBit v
    · simp
    · simp only [cond_true]
      rw [chk_of (inI_of (by omega) (by omega))]
  · have : ¬ t.length < (t.map (taskC s)).length := by simp
    simp only [restore_Cheapest_L4, this, decide_false, cond_false]
theorem cmpI (a b : Int) : cmp_Compare_int n a b = some (bif decide (a < b) then -1 else bif decide (b < a) then 1 else 0) := by
  rw [cmp_Compare_int]
  simp only [cmp_isNaN_int, Option.bind_some, bne_self_eq_false, cond_false]
  cases decide (a < b) <;> cases decide (b < a) <;> rfl
theorem cmpStr (a b : Str) : cmp_Compare_string n a b = some (bif bLt a b then -1 else bif !(bLt a b || (a == b)) then 1 else 0) := by
  rw [cmp_Compare_string]
  simp only [cmp_isNaN_string, Option.bind_some, BEq.rfl, Bool.not_true, cond_false]
  cases bLt a b <;> cases (a == b) <;> rfl
def lexI (l m : List Str) : Int := bif lexB l m then -1 else bif decide (l = m) then 0 else 1
theorem lexI_cons (x y : Str) (l m : List Str) : lexI (x :: l) (y :: m) = bif x == y then lexI l m else bif bLt x y then -1 else 1 := by
  unfold lexI
  simp only [lexB]
  by_cases h : x = y
  · subst h
    simp only [BEq.rfl, cond_true, List.cons.injEq, true_and]
  · have e : (x == y) = false := by rw [beq_eq_false_iff_ne]; exact h
    have e2 : decide (x :: l = y :: m) = false := by simp [h]
    simp only [e, cond_false, e2]
theorem cmpL {l m : List Str} (hl : l.length ≤ 900) (hm : m.length ≤ 900) (hn : 1000 < n) : slices_Compare_string n l m = some (lexI l m) := by
  rw [slices_Compare_string, withK_eq]
  have key : ∀ k v, v ≤ l.length → v ≤ m.length → l.length - v < k → loopN (slices_Compare_string_L1 n l m fun (_ : Unit) => bif decide (l.length < m.length) then some (-1) else some 0) k v = some (lexI (l.drop v) (m.drop v)) := by
    intro k
    induction k with
    | zero => intro v h; omega
    | succ k ih =>
      intro v h1 h2 h3
      rw [loopN_s]
      by_cases hv : v < l.length
      · by_cases hw : v < m.length
        · simp only [slices_Compare_string_L1, hv, decide_true, cond_true, show ¬ m.length ≤ v by omega, decide_false, cond_false, hw, chk_t, cmpStr, Option.bind_some]
          rw [drop_ix hv, drop_ix hw, lexI_cons]
          by_cases e : ix l v = ix m v
          · rw [e, bLt_irr]
            simp only [BEq.rfl, Bool.or_true, Bool.not_true, cond_false, bne_self_eq_false, nI_of (by omega : v + 1 ≤ 9223372036854775807), chk_t, cond_true]
            exact ih (v + 1) (by omega) (by omega) (by omega)
          · have e1 : (ix l v == ix m v) = false := by rw [beq_eq_false_iff_ne]; exact e
            rw [e1]
            cases bLt (ix l v) (ix m v) <;> simp
        · have hm' : m.drop v = [] := List.drop_eq_nil_of_le (by omega)
          simp only [slices_Compare_string_L1, hv, decide_true, cond_true, show m.length ≤ v by omega]
          rw [drop_ix hv, hm']
          rfl
      · have hl' : l.drop v = [] := List.drop_eq_nil_of_le (by omega)
        simp only [slices_Compare_string_L1, hv, decide_false, cond_false]
        rw [hl']
        by_cases hw : v < m.length
        · rw [drop_ix hw]
          simp only [show l.length < m.length by omega, decide_true, cond_true]
          rfl
        · have hm' : m.drop v = [] := List.drop_eq_nil_of_le (by omega)
          simp only [show ¬ l.length < m.length by omega, decide_false, cond_false]
          rw [hm']
          rfl
  have := key n 0 (by omega) (by omega) (by omega)
  simpa using this
theorem cmpOr (x y z : Int) (hn : 1000 < n) : cmp_Or_int n [x, y, z] = some (bif x != 0 then x else bif y != 0 then y else z) := by
  obtain ⟨n', rfl⟩ : ∃ n', n = n' + 4 := ⟨n - 4, by omega⟩
  rw [cmp_Or_int, withK_eq]
  have e0 : ix [x, y, z] 0 = x := rfl
  have e1 : ix [x, y, z] 1 = y := rfl
  have e2 : ix [x, y, z] 2 = z := rfl
  simp only [loopN_s, cmp_Or_int_L1, List.length_cons, List.length_nil, e0, e1, e2]
  by_cases hx : x = 0
  · subst hx
    by_cases hy : y = 0
    · subst hy
      by_cases hz : z = 0
      · subst hz; simp [nI]
      · simp [bne_t hz, nI]
    · simp [bne_t hy, nI]
  · simp [bne_t hx, nI]
theorem ltK_cmp (c : List Str → Int) (a b : List Str) : decide ((bif (bif decide (c a < c b) then (-1 : Int) else bif decide (c b < c a) then 1 else 0) != 0 then (bif decide (c a < c b) then (-1 : Int) else bif decide (c b < c a) then 1 else 0) else bif (bif decide (((a.length : Nat) : Int) < ((b.length : Nat) : Int)) then (-1 : Int) else bif decide (((b.length : Nat) : Int) < ((a.length : Nat) : Int)) then 1 else 0) != 0 then (bif decide (((a.length : Nat) : Int) < ((b.length : Nat) : Int)) then (-1 : Int) else bif decide (((b.length : Nat) : Int) < ((a.length : Nat) : Int)) then 1 else 0) else lexI a b) < 0) = ltK c a b := by
  unfold ltK lexI
  rcases Int.lt_trichotomy (c a) (c b) with h | h | h
  · simp [h]
  · rw [h]
    simp only [Int.lt_irrefl, decide_false, cond_false, bne_self_eq_false, Bool.false_or, BEq.rfl, Bool.true_and, Int.ofNat_lt]
    rcases Nat.lt_trichotomy a.length b.length with k | k | k
    · simp [k]
    · rw [k]
      simp only [Nat.lt_irrefl, decide_false, cond_false, bne_self_eq_false, Bool.false_or, decide_true, Bool.true_and]
      cases lexB a b
      · by_cases e : a = b <;> simp [e]
      · simp
    · have h1 : ¬ a.length < b.length := by omega
      have h2 : ¬ a.length = b.length := by omega
      simp [k, h1, h2]
  · have h1 : ¬ c a < c b := by omega
    have h2 : (c a == c b) = false := by rw [beq_eq_false_iff_ne]; omega
    simp [h, h1, h2]
end
section
set_option maxRecDepth 4000
open Go
variable {n : Nat}
theorem closE_iff {t : List Task} {want set : List Str} : (closE t want set == 0) = true ↔ (∀ x ∈ want, x ∈ set) ∧ ∀ x ∈ set, (∀ y ∈ (taskOf t x).Needs, y ∈ set) ∧ ∀ g ∈ (taskOf t x).OneOf, ∃ y ∈ g, y ∈ set := by
  have e1 : ∀ l : List Str, (l.any fun x => !has set x) = false ↔ ∀ x ∈ l, x ∈ set := by
    intro l
    rw [List.any_eq_false]
    refine forall_congr' fun x => forall_congr' fun _ => ?_
    rw [← has_iff]
    cases has set x <;> simp
  have e2 : ∀ g : List Str, (!g.any (has set)) = false ↔ ∃ y ∈ g, y ∈ set := by
    intro g
    rw [Bool.not_eq_false', List.any_eq_true]
    refine exists_congr fun y => and_congr Iff.rfl has_iff
  have e3 : (set.any fun s => (taskOf t s).Needs.any fun x => !has set x) = false ↔ ∀ x ∈ set, ∀ y ∈ (taskOf t x).Needs, y ∈ set := by
    rw [List.any_eq_false]
    refine forall_congr' fun x => forall_congr' fun _ => ?_
    rw [← e1]
    simp
  have e4 : (set.any fun s => (taskOf t s).OneOf.any fun g => !g.any (has set)) = false ↔ ∀ x ∈ set, ∀ g ∈ (taskOf t x).OneOf, ∃ y ∈ g, y ∈ set := by
    rw [List.any_eq_false]
    refine forall_congr' fun x => forall_congr' fun _ => ?_
    rw [Bool.not_eq_true, List.any_eq_false]
    refine forall_congr' fun g => forall_congr' fun _ => ?_
    rw [Bool.not_eq_true]
    exact e2 g
  unfold closE
  cases h1 : want.any fun s => !has set s with
  | true =>
    have : ¬ ∀ x ∈ want, x ∈ set := fun c => by rw [(e1 want).2 c] at h1; cases h1
    simp [this]
  | false =>
    have k1 := (e1 want).1 h1
    cases h2 : set.any fun s => (taskOf t s).Needs.any fun x => !has set x with
    | true =>
      have : ¬ ∀ x ∈ set, ∀ y ∈ (taskOf t x).Needs, y ∈ set := fun c => by rw [e3.2 c] at h2; cases h2
      simp only [cond_false, cond_true]
      constructor
      · intro c; cases c
      · intro c; exact absurd (fun x hx => (c.2 x hx).1) this
    | false =>
      have k2 := e3.1 h2
      cases h3 : set.any fun s => (taskOf t s).OneOf.any fun g => !g.any (has set) with
      | true =>
        have : ¬ ∀ x ∈ set, ∀ g ∈ (taskOf t x).OneOf, ∃ y ∈ g, y ∈ set := fun c => by rw [e4.2 c] at h3; cases h3
        simp only [cond_false, cond_true]
        constructor
        · intro c; cases c
        · intro c; exact absurd (fun x hx => (c.2 x hx).2) this
      | false =>
        have k3 := e4.1 h3
        simp only [cond_false]
        exact ⟨fun _ => ⟨k1, fun x hx => ⟨k2 x hx, k3 x hx⟩⟩, fun _ => rfl⟩
def goodP (n : Nat) (t : List Task) (want : List Str) (b : Nat) : Bool := closE t want (setP n t b) == 0
theorem good_iff {t : List Task} (h0 : tasksE n t = 0) (hN : t.length ≤ 12) (hn : 1000 < n) {want : List Str} (hw : Kn t want) {b : Nat} : goodP n t want b = true ↔ (∀ i, (bitsN t want).testBit i = true → b.testBit i = true) ∧ ClosB t b := by
  unfold goodP
  rw [closE_iff]
  have m := fun {s : Str} (hk : t.any (byName s) = true) => setP_mem (n := n) h0 hN hn (b := b) hk
  refine and_congr ?_ ?_
  · constructor
    · intro h i hi
      obtain ⟨s, hs, rfl⟩ := bitsN_bit.1 hi
      exact (m (hw s hs)).1 (h s hs)
    · intro h x hx
      exact (m (hw x hx)).2 (h _ (bitsN_bit.2 ⟨x, hx, rfl⟩))
  · constructor
    · intro h i hi hb
      obtain ⟨k1, k2⟩ := names_known h0 hi
      have hx : (ix t i).Name ∈ setP n t b := (m (known_at hi)).2 (by rw [idx_ix h0 hi]; exact hb)
      have := h _ hx
      rw [uniq_of h0 hi] at this
      refine ⟨fun s hs => (m (k1 s hs)).1 (this.1 s hs), fun g hg => ?_⟩
      obtain ⟨y, hy, hys⟩ := this.2 g hg
      exact ⟨y, hy, (m (k2 g hg y hy)).1 hys⟩
    · intro h x hx
      have hk := setP_kn h0 hN hn b x hx
      obtain ⟨_, q1, q2⟩ := idx_facts hk
      obtain ⟨k1, k2⟩ := names_known h0 q1
      have := h _ q1 ((m hk).1 hx)
      rw [show taskOf t x = ix t (idx t x) from rfl]
      refine ⟨fun y hy => (m (k1 y hy)).2 (this.1 y hy), fun g hg => ?_⟩
      obtain ⟨y, hy, hys⟩ := this.2 g hg
      exact ⟨y, hy, (m (k2 g hg y hy)).2 hys⟩
theorem cond5 {t : List Task} (ok : OkT t) (h0 : tasksE n t = 0) (hN : t.length ≤ 12) (hn : 1000 < n) {want : List Str} (hw : Kn t want) {b : Nat} (hb : b < 2 ^ t.length) :
    ((iAndNot .u64 ((bitsN t want : Nat) : Int) ((b : Nat) : Int) != (0 : Int)) || !(bif !(iAndNot .u64 ((bitsN t want : Nat) : Int) ((b : Nat) : Int) != (0 : Int)) then (firstE (openE t b) 0 t.length == 0) else (default : Bool))) = !goodP n t want b := by
  have hlen := ok.len
  have h1 := good_iff (n := n) h0 hN hn hw (b := b)
  rw [← andNot_zero _ _ (Nat.lt_trans (bitsN_lt hw) (pow64 hlen)) (Nat.lt_trans hb (pow64 hlen)), ← closed_iff ok h0 hb] at h1
  cases h2 : (iAndNot .u64 ((bitsN t want : Nat) : Int) ((b : Nat) : Int) != (0 : Int)) with
  | true =>
    have : goodP n t want b = false := by
      cases c : goodP n t want b with
      | false => rfl
      | true => have := (h1.1 c).1; rw [h2] at this; cases this
    simp [this]
  | false =>
    cases h3 : (firstE (openE t b) 0 t.length == 0) with
    | true =>
      have : goodP n t want b = true := h1.2 ⟨h2, h3⟩
      simp [this]
    | false =>
      have : goodP n t want b = false := by
        cases c : goodP n t want b with
        | false => rfl
        | true => have := (h1.1 c).2; rw [h3] at this; cases this
      simp [this]
theorem tms {α β : Type} [Inhabited α] (f : α → β) {l : List α} {v : Nat} (h : v < l.length) : (l.take (v + 1)).map f = (l.take v).map f ++ [f (ix l v)] := by
  rw [List.take_succ_eq_append_getElem h, List.map_append, ix_eq h]; rfl
def lackT (t : List Task) (s : List Stocked) (i : Nat) : Int := bif lacks s (ix t i).Parts then 1 else 0
theorem costs_loop {t : List Task} (ok : OkT t) (h0 : tasksE n t = 0) {s : List Stocked} (hs : stockC s = 0) (hn : 1000 < n) (k1 : List Int → Option (Int × List Str × Int)) :
    loopN (restore_Cheapest_L1 n t s k1) n (0, []) = bif firstE (lackT t s) 0 t.length != 0 then some (6, [], 0) else k1 (t.map (taskC s)) := by
  have hlen := ok.len
  have e0 : ((0 : Nat), ([] : List Int)) = (fun v => (v, (t.take v).map (taskC s))) 0 := rfl
  rw [e0, loop_first (st := fun v => (v, (t.take v).map (taskC s))) (E := lackT t s) (err := fun _ => some (6, [], 0)) (k := k1 (t.map (taskC s))) (len := t.length) (fun back v hv hz => ?_) (fun back hz => ?_) n 0 (by omega) (by omega) (fun j h => by omega), Nat.sub_zero]
  · have h := task_nums ((tasks_zero h0).2 v hv)
    have hl : ((t.take v).map (taskC s)).length ≤ v := by simp; omega
    simp only [restore_Cheapest_L1, hv, decide_true, cond_true, cost_res hs h.2.2 h.2.1 h.1.1 h.1.2 hn, Option.bind_some]
    unfold lackT
    cases lacks s (ix t v).Parts
    · simp only [cond_false, Bool.not_true, bne_self_eq_false]
      rw [chk_of (room_of (by simp; omega) (by simp; omega)), chk_of (nI_of (by omega)), tms _ hv]
      rfl
    · simp
  · simp [restore_Cheapest_L1]
theorem grp_loop {t : List Task} (ok : OkT t) (h0 : tasksE n t = 0) {i : Nat} (hi : i < t.length) (hn : 1000 < n) (k2 : List Int → Option (Int × List Str × Int)) :
    loopN (restore_Cheapest_L2 n t i k2) n ([], 0) = k2 ((ix t i).OneOf.map fun g => ((bitsN t g : Nat) : Int)) := by
  have ho := ok.oneof _ (ix_mem hi)
  obtain ⟨_, kn⟩ := names_known h0 hi
  refine loop_fold (st := fun v => ((ix t i).OneOf.take v).map fun g => ((bitsN t g : Nat) : Int)) (len := (ix t i).OneOf.length) (fun back v hv => ?_) (fun back => ?_) n (by omega) rfl
  · have hg := ok.group _ (ix_mem hi) _ (ix_mem hv)
    have hl : (((ix t i).OneOf.take v).map fun g => ((bitsN t g : Nat) : Int)).length ≤ v := by simp; omega
    simp only [restore_Cheapest_L2, hv, decide_true, cond_true, chk_t, bits_res (kn _ (ix_mem hv)) ok.len (by omega) hn, Option.bind_some]
    rw [chk_of (room_of (by simp; omega) (by simp; omega)), chk_of (nI_of (by omega)), tms _ hv]
  · simp [restore_Cheapest_L2]
theorem need_loop {t : List Task} (ok : OkT t) (h0 : tasksE n t = 0) (hn : 1000 < n) (k3 : List (List Int) × List Int → Option (Int × List Str × Int)) :
    loopN (restore_Cheapest_L3 n t k3) n (0, [], []) = k3 (grpB t, needB t) := by
  have hlen := ok.len
  refine loop_fold' (st := fun v => ((t.take v).map fun x => ((bitsN t x.Needs : Nat) : Int), (t.take v).map fun x => x.OneOf.map fun g => ((bitsN t g : Nat) : Int))) (len := t.length) (fun back v hv => ?_) (fun back => ?_) n (by omega) rfl
  · have hnd := ok.needs _ (ix_mem hv)
    obtain ⟨kn, _⟩ := names_known h0 hv
    have hl : (t.take v).length ≤ v := by simp; omega
    simp only [restore_Cheapest_L3, hv, decide_true, cond_true, withK_eq, grp_loop ok h0 hv hn, bits_res kn ok.len (by omega) hn, Option.bind_some]
    rw [chk_of (room_of (by simp; omega) (by simp; omega)), chk_of (room_of (by simp; omega) (by simp; omega)), chk_of (nI_of (by omega)), tms _ hv, tms _ hv]
  · simp [restore_Cheapest_L3, needB, grpB]
def encB (t : List Task) (s : List Stocked) : Option (List Str) → List Str × Int
  | none => ([], -1)
  | some a => (a, costA t s a)
theorem cost_nn {t : List Task} (h0 : tasksE n t = 0) {s : List Stocked} (hs : stockC s = 0) (hN : t.length ≤ 12) (hk : ∀ i, i < t.length → lacks s (ix t i).Parts = false) (hn : 1000 < n) (b : Nat) : 0 ≤ costA t s (setP n t b) := by
  rw [← cost_bits h0 hN hn]
  exact (sm'_bounds (c := 11000000000000) (by decide) _ fun i hi => task_ok h0 hs hi (hk i hi)).1
theorem step5 {t : List Task} (ok : OkT t) (h0 : tasksE n t = 0) {s : List Stocked} (hs : stockC s = 0) (hN : t.length ≤ 12) (hk : ∀ i, i < t.length → lacks s (ix t i).Parts = false) (hn : 1000 < n) {want : List Str} (hw : Kn t want) (k8 : List Str × Int → Option (Int × List Str × Int))
    (back : List Str × Int × Int → Option (Int × List Str × Int)) {b : Nat} (hb : b < 2 ^ t.length) :
    restore_Cheapest_L5 n t (t.map (taskC s)) (grpB t) (needB t) ((bitsN t want : Nat) : Int) k8 back ((encB t s (bestOf (costA t s) (goodP n t want) (setP n t) b)).1, (encB t s (bestOf (costA t s) (goodP n t want) (setP n t) b)).2, ((b : Nat) : Int)) =
      back ((encB t s (bestOf (costA t s) (goodP n t want) (setP n t) (b + 1))).1, (encB t s (bestOf (costA t s) (goodP n t want) (setP n t) (b + 1))).2, ((b + 1 : Nat) : Int)) := by
  have hlen := ok.len
  have h2N : 2 ^ t.length < 2 ^ 64 := pow64 hlen
  have e1 : IntKind.u64.wrap (1 * 2 ^ (min ((t.length : Nat) : Int).toNat 64)) = ((2 ^ t.length : Nat) : Int) := by
    rw [show ((t.length : Nat) : Int).toNat = t.length by omega]; exact shl_n _ (by omega)
  have e2 : ((b : Nat) : Int) < ((2 ^ t.length : Nat) : Int) := by omega
  have e3 : IntKind.u64.wrap (((b : Nat) : Int) + 1) = ((b + 1 : Nat) : Int) := u64n (b + 1) (by omega)
  have hset : ∀ b', (setP n t b').length ≤ 12 := fun b' => by
    obtain ⟨_, h2, _, _⟩ := setP_spec h0 hN hn b'
    have := rawN_len t b' t.length
    omega
  simp only [restore_Cheapest_L5, e1, e2, decide_true, cond_true, withK_eq, closed_res ok h0 hb _ hn, gcall_some_, Option.bind_some, e3, cond5 ok h0 hN hn hw hb, names_res h0 hN hn hb, cost_loop h0 hs hN hk hn hb, cost_bits h0 hN hn, bestOf]
  cases hg : goodP n t want b with
  | false => rfl
  | true =>
    simp only [Bool.not_true, cond_false]
    cases hB : bestOf (costA t s) (goodP n t want) (setP n t) b with
    | none =>
      simp only [encB, show ((-1 : Int) < 0) by decide, decide_true, Bool.not_true, gcall_f, Option.bind_some, cond_false, Bool.true_or, cond_true]
    | some a =>
      obtain ⟨⟨b', h1, h2, rfl⟩, _⟩ := bestOf_some hB
      have hc := cost_nn h0 hs hN hk hn b'
      have hnl : ¬ costA t s (setP n t b') < 0 := by omega
      have l1 := hset b
      have l2 := hset b'
      simp only [encB, hnl, decide_false, Bool.not_false, gcall_t, cmpI, Option.bind_some, cmpL (n := n) (l := setP n t b) (m := setP n t b') (by omega) (by omega) hn, cond_true, cmpOr _ _ _ hn, Bool.false_or, ltK_cmp (costA t s) (setP n t b) (setP n t b')]
      cases ltK (costA t s) (setP n t b) (setP n t b') <;> rfl
theorem cheapest_res {t : List Task} (ok : OkT t) (h0 : tasksE n t = 0) {s : List Stocked} (hs : stockC s = 0) (hs2 : ∀ x ∈ s, x.Part.length ≤ 20) (hN : t.length ≤ 9) {want : List Str} (hwl : want.length ≤ 900) (hw : setE t want = 0) (hn : 1000 < n) :
    restore_Cheapest n t s want = bif firstE (lackT t s) 0 t.length != 0 then some (6, [], 0) else some (0, (encB t s (bestOf (costA t s) (goodP n t want) (setP n t) (2 ^ t.length))).1, (encB t s (bestOf (costA t s) (goodP n t want) (setP n t) (2 ^ t.length))).2) := by
  have hlen := ok.len
  have hkn : Kn t want := (set_ok hw).1
  rw [restore_Cheapest, CheckTasks_res ok hn]
  simp only [Option.bind_some, h0, bne_self_eq_false, cond_false, CheckStock_res n s hs2 (by omega), hs, set_res (n := n) (t := t) (l := want) (by omega) hwl hn, hw, withK_eq]
  rw [costs_loop ok h0 hs hn]
  by_cases hz : firstE (lackT t s) 0 t.length = 0
  · have hk : ∀ i, i < t.length → lacks s (ix t i).Parts = false := fun i hi => by
      have := firstE_zero hz i (by omega) (by omega)
      unfold lackT at this
      cases c : lacks s (ix t i).Parts with
      | false => rfl
      | true => rw [c] at this; simp at this
    simp only [hz, bne_self_eq_false, cond_false, show ¬ 14 < t.length by omega, decide_false, need_loop ok h0 hn, bits_res hkn hlen hwl hn, Option.bind_some, Int.natCast_nonneg, decide_true, chk_t]
    have hp : 2 ^ t.length ≤ 2 ^ 9 := Nat.pow_le_pow_right (by omega) hN
    have h9 : (2 : Nat) ^ 9 = 512 := by decide
    have := loop_through (F := restore_Cheapest_L5 n t (t.map (taskC s)) (grpB t) (needB t) ((bitsN t want : Nat) : Int) fun (v64, v65) => some (0, v64, v65)) (st := fun b => ((encB t s (bestOf (costA t s) (goodP n t want) (setP n t) b)).1, (encB t s (bestOf (costA t s) (goodP n t want) (setP n t) b)).2, ((b : Nat) : Int))) (len := 2 ^ t.length)
      (k := some (0, (encB t s (bestOf (costA t s) (goodP n t want) (setP n t) (2 ^ t.length))).1, (encB t s (bestOf (costA t s) (goodP n t want) (setP n t) (2 ^ t.length))).2)) (fun back b hb => step5 ok h0 hs (by omega) hk hn hkn _ back hb) (fun back => ?_) n (by omega)
    · exact this
    · have e1 : IntKind.u64.wrap (1 * 2 ^ (min ((t.length : Nat) : Int).toNat 64)) = ((2 ^ t.length : Nat) : Int) := by
        rw [show ((t.length : Nat) : Int).toNat = t.length by omega]; exact shl_n _ (by omega)
      simp only [restore_Cheapest_L5, e1, Int.lt_irrefl, decide_false, cond_false]
  · simp [bne_t hz]
end
section
set_option maxRecDepth 4000
open Go
variable {n : Nat}
theorem setF_sum (t : List Task) (s : List Stocked) (l : List Str) : sm (setF t s l) l.length = costA t s l := sm_list (fun x => taskC s (taskOf t x)) l
end
section
set_option maxRecDepth 4000
open Go
variable {n : Nat}
theorem best_some {t : List Task} (ok : OkT t) (h0 : tasksE n t = 0) {s : List Stocked} (hN : t.length ≤ 12) (hn : 1000 < n) {want : List Str} (hw : Kn t want) : ∃ b, b < 2 ^ t.length ∧ goodP n t want b = true ∧ bestOf (costA t s) (goodP n t want) (setP n t) (2 ^ t.length) = some (setP n t b) ∧ ∀ b', b' < 2 ^ t.length → goodP n t want b' = true → ltK (costA t s) (setP n t b') (setP n t b) = false := by
  cases hB : bestOf (costA t s) (goodP n t want) (setP n t) (2 ^ t.length) with
  | some a =>
    obtain ⟨⟨b, h1, h2, rfl⟩, h4⟩ := bestOf_some hB
    exact ⟨b, h1, h2, rfl, h4⟩
  | none =>
    exfalso
    obtain ⟨b, h1, h2⟩ := code_ex (fun _ => true) t.length
    have hall : ∀ x, t.any (byName x) = true → x ∈ setP n t b := fun x hx => by
      rw [setP_mem h0 hN hn hx, h2]
      simp [(idx_facts hx).2.1]
    have hg := bestOf_none hB b h1
    have : goodP n t want b = true := by
      unfold goodP
      rw [closE_iff]
      refine ⟨fun x hx => hall x (hw x hx), fun x hx => ?_⟩
      obtain ⟨_, q1, _⟩ := idx_facts (setP_kn h0 hN hn b x hx)
      obtain ⟨k1, k2⟩ := names_known h0 q1
      rw [show taskOf t x = ix t (idx t x) from rfl]
      refine ⟨fun y hy => hall y (k1 y hy), fun g hg => ?_⟩
      have hgl := (right_of (n := n) (t := t) ?_ h0).group _ (ix_mem q1) g hg
      · exact ⟨ix g 0, ix_mem hgl, hall _ (k2 g hg _ (ix_mem hgl))⟩
      · exact ok
    rw [this] at hg; cases hg
theorem cheapest_err {t : List Task} (ok : OkT t) {s : List Stocked} (hs2 : ∀ x ∈ s, x.Part.length ≤ 20) {want : List Str} (hwl : want.length ≤ 900) (hn : 1000 < n) {e : Int} (he : e ≠ 0) (h : (bif tasksE n t != 0 then tasksE n t else bif stockC s != 0 then stockC s else setE t want) = e) : restore_Cheapest n t s want = some (e, [], 0) := by
  have hlen := ok.len
  subst h
  rw [restore_Cheapest, CheckTasks_res ok hn]
  simp only [Option.bind_some, CheckStock_res n s hs2 (by omega), set_res (n := n) (t := t) (l := want) (by omega) hwl hn]
  by_cases h0 : tasksE n t = 0
  · by_cases h1 : stockC s = 0
    · by_cases h2 : setE t want = 0
      · simp [h0, h1, h2] at he
      · simp [h0, h1, bne_t h2]
    · simp [h0, bne_t h1]
  · simp [bne_t h0]
end
section
set_option maxRecDepth 4000
open Go
variable {n : Nat}
theorem put_same {l : List Str} {s : Str} (ha : Asc l) (hs : s ∈ l) (hl : l.length ≤ 900) (hn : 1000 < n) : agrafferef08_Put n l s = some l := by
  obtain ⟨p, hp, hps⟩ := mem_ix.1 hs
  rw [agrafferef08_Put]
  simp only [withK_eq]
  have hlt : ∀ v w, v < w → w < l.length → bLt (ix l v) (ix l w) = true := fun v w h1 h2 => by
    have := List.pairwise_iff_getElem.1 ha v w (by omega) h2 h1
    rw [ix_eq (by omega), ix_eq h2]; exact this
  refine (loop_through (st := fun v => (l.take v, decide (p < v), v)) (len := l.length) (k := some l) (fun back v hv => ?_) (fun back => ?_) n (by omega) : loopN _ n (l.take 0, decide (p < 0), 0) = some l)
  · simp only [agrafferef08_Put_L1, hv, decide_true, cond_true, withK_eq]
    have ht : l.take (v + 1) = l.take v ++ [ix l v] := by rw [List.take_succ_eq_append_getElem hv, ix_eq hv]
    have hr : chk (room 16 (l.take v ++ ([ix l v] : List Str)).length) (chk (nI (v + 1)) (back (l.take v ++ ([ix l v] : List Str), decide (p < v + 1), v + 1))) = back (l.take (v + 1), decide (p < v + 1), v + 1) := by
      rw [chk_of (room_of (by simp; omega) (by simp; omega)), chk_of (nI_of (by omega)), ht]
    by_cases c1 : p < v
    · have c2 : p < v + 1 := by omega
      simp only [c1, decide_true, Bool.not_true, Bool.false_and, cond_false]
      rw [show decide (p < v + 1) = true from decide_eq_true c2] at hr ⊢
      exact hr
    · simp only [c1, decide_false, Bool.not_false, Bool.true_and]
      by_cases c2 : p = v
      · subst c2
        rw [hps, bLt_irr, BEq.rfl]
        simp only [Bool.not_false, cond_true, Bool.not_true, cond_false]
        rw [hps] at hr
        rw [show decide (p < p + 1) = true from decide_eq_true (by omega)] at hr ⊢
        exact hr
      · have := hlt v p (by omega) hp
        rw [hps] at this
        rw [this]
        simp only [Bool.not_true, cond_false]
        rw [show decide (p < v + 1) = false from decide_eq_false (by omega)] at hr ⊢
        exact hr
  · simp only [agrafferef08_Put_L1, Nat.lt_irrefl, decide_false, cond_false, List.take_length, hp, decide_true, Bool.not_true]
theorem put_any {l : List Str} {s : Str} (ha : Asc l) (hl : l.length ≤ 900) (hn : 1000 < n) : ∃ d, agrafferef08_Put n l s = some d ∧ Asc d ∧ (∀ x, x ∈ d ↔ x ∈ l ∨ x = s) ∧ d.length ≤ l.length + 1 := by
  by_cases hs : s ∈ l
  · exact ⟨l, put_same ha hs hl hn, ha, fun x => ⟨.inl, fun h => by rcases h with h | h; exact h; exact h ▸ hs⟩, by omega⟩
  · obtain ⟨d, h1, h2, h3, h4⟩ := put_spec (n := n) ha hs hl hn
    exact ⟨d, h1, h2, h3, by omega⟩
theorem wanted1 {f : List Finding} {v : Nat} (hT : (ix f v).Tasks.length ≤ 23) (hn : 1000 < n) (k1 : List Str → Option (List Str)) : ∀ m j (l : List Str), j ≤ (ix f v).Tasks.length → (ix f v).Tasks.length - j < m → Asc l → l.length + ((ix f v).Tasks.length - j) ≤ 400 →
    ∃ l', loopN (agrafferef08_Wanted_L1 n f v k1) m (l, j) = k1 l' ∧ Asc l' ∧ (∀ x, x ∈ l' ↔ x ∈ l ∨ x ∈ (ix f v).Tasks.drop j) ∧ l'.length ≤ l.length + ((ix f v).Tasks.length - j) := by
  intro m
  induction m with
  | zero => intro j l _ h; omega
  | succ m ih =>
    intro j l h0 h1 ha hl
    rw [loopN_s]
    by_cases c : j < (ix f v).Tasks.length
    · obtain ⟨d, g1, g2, g3, g4⟩ := put_any (n := n) (s := ix (ix f v).Tasks j) ha (by omega) hn
      simp only [agrafferef08_Wanted_L1, c, decide_true, cond_true, chk_t, g1, Option.bind_some]
      rw [chk_of (nI_of (by omega))]
      obtain ⟨l', k2, k3, k4, k5⟩ := ih (j + 1) d (by omega) (by omega) g2 (by omega)
      refine ⟨l', k2, k3, fun x => ?_, by omega⟩
      rw [k4, g3, drop_ix c, List.mem_cons]
      constructor
      · rintro ((h | h) | h)
        · exact .inl h
        · exact .inr (.inl h)
        · exact .inr (.inr h)
      · rintro (h | h | h)
        · exact .inl (.inl h)
        · exact .inl (.inr h)
        · exact .inr h
    · simp only [agrafferef08_Wanted_L1, c, decide_false, cond_false]
      refine ⟨l, rfl, ha, fun x => ?_, by omega⟩
      rw [List.drop_eq_nil_of_le (by omega)]; simp
theorem wanted_eq {f : List Finding} (hf : f.length ≤ 7) (hT : ∀ x ∈ f, x.Tasks.length ≤ 23) (hn : 1000 < n) : ∃ l, agrafferef08_Wanted n f = some l ∧ Asc l ∧ (∀ x, x ∈ l ↔ ∃ y ∈ f, x ∈ y.Tasks) ∧ l.length ≤ 161 := by
  rw [agrafferef08_Wanted]
  simp only [withK_eq]
  have R : ∀ m v (l : List Str), v ≤ f.length → f.length - v < m → Asc l → l.length ≤ 23 * v → ∃ l', loopN (agrafferef08_Wanted_L2 n f fun v13 => some v13) m (l, v) = some l' ∧ Asc l' ∧ (∀ x, x ∈ l' ↔ x ∈ l ∨ ∃ y ∈ f.drop v, x ∈ y.Tasks) ∧ l'.length ≤ 23 * f.length := by
    intro m
    induction m with
    | zero => intro v l _ h; omega
    | succ m ih =>
      intro v l h0 h1 ha hl
      rw [loopN_s]
      by_cases c : v < f.length
      · simp only [agrafferef08_Wanted_L2, c, decide_true, cond_true, withK_eq]
        have ht := hT _ (ix_mem c)
        obtain ⟨d, g1, g2, g3, g4⟩ := wanted1 (n := n) (f := f) (v := v) ht hn (fun v12 => chk (nI (v + 1)) (loopN (agrafferef08_Wanted_L2 n f fun v13 => some v13) m (v12, v + 1))) n 0 l (Nat.zero_le _) (by omega) ha (by omega)
        rw [g1, chk_of (nI_of (by omega))]
        obtain ⟨l', k2, k3, k4, k5⟩ := ih (v + 1) d (by omega) (by omega) g2 (by omega)
        refine ⟨l', k2, k3, fun x => ?_, k5⟩
        rw [k4, g3, List.drop_zero, drop_ix c]
        simp only [List.mem_cons, exists_eq_or_imp, or_assoc]
      · simp only [agrafferef08_Wanted_L2, c, decide_false, cond_false]
        refine ⟨l, rfl, ha, fun x => ?_, by omega⟩
        rw [List.drop_eq_nil_of_le (by omega)]; simp
  obtain ⟨l, h1, h2, h3, h4⟩ := R n 0 [] (Nat.zero_le _) (by omega) List.Pairwise.nil (by simp)
  exact ⟨l, h1, h2, fun x => by rw [h3]; simp, by omega⟩
def Cpt (d : List Str) (p : Nat) (l : List Str) : Prop := Asc l ∧ ∀ x, x ∈ l ↔ x ∈ d.take p
def Sorted (d : List Str) : Prop := ∀ i j, i < j → j < d.length → bLt (ix d j) (ix d i) = false
theorem Cpt.same {d l : List Str} {p : Nat} (h : Cpt d p l) (hp : p < d.length) (h1 : 1 ≤ p) (e : ix d p = ix d (p - 1)) : Cpt d (p + 1) l := by
  refine ⟨h.1, fun x => ?_⟩
  rw [h.2, mem_take_succ hp]
  refine ⟨.inl, fun g => ?_⟩
  rcases g with g | g
  · exact g
  · have : x ∈ d.take (p - 1 + 1) := (mem_take_succ (by omega)).2 (.inr (by rw [g, e]))
    rwa [show p - 1 + 1 = p by omega] at this
theorem Cpt.new {d l : List Str} {p : Nat} (hd : Sorted d) (h : Cpt d p l) (hp : p < d.length) (h1 : 1 ≤ p) (e : ix d p ≠ ix d (p - 1)) : Cpt d (p + 1) (l ++ [ix d p]) := by
  have h2 : bLt (ix d (p - 1)) (ix d p) = true := by
    rcases bLt_tri (ix d (p - 1)) (ix d p) with c | c | c
    · exact c
    · exact absurd c.symm e
    · rw [hd (p - 1) p (by omega) hp] at c; cases c
  refine ⟨h.1.snoc fun x hx => ?_, fun x => ?_⟩
  · obtain ⟨q, hq, rfl⟩ := mem_ix.1 ((h.2 x).1 hx)
    have hq' : q < p := by simp at hq; omega
    rw [ix_take hq' (by omega)]
    by_cases c : q = p - 1
    · rw [c]; exact h2
    · rcases bLt_tri (ix d q) (ix d (p - 1)) with c2 | c2 | c2
      · exact bLt_trans _ _ _ c2 h2
      · rw [c2]; exact h2
      · rw [hd q (p - 1) (by omega) (by omega)] at c2; cases c2
  · rw [List.mem_append, List.mem_singleton, h.2, mem_take_succ hp]
theorem take_set_snoc {v : List Str} {i : Nat} {x : Str} (hi : i < v.length) : (v.set i x).take (i + 1) = v.take i ++ [x] := by
  rw [List.take_succ_eq_append_getElem (by simpa using hi), List.take_set_of_le (Nat.le_refl _)]
  simp
theorem comp1 {d : List Str} (hd : Sorted d) (hl : d.length ≤ 900) {k : Nat} (hk1 : 1 ≤ k) (hk : k < d.length) (k2 : Nat × List Str → Option (List Str)) : ∀ m j i (v : List Str), d.length - k - j < m → 1 ≤ j → k + j ≤ d.length → i ≤ k + j - 1 → v.length = d.length → (∀ q, k + j - 1 ≤ q → ix v q = ix d q) → Cpt d (k + j) (v.take i) →
    ∃ i' v', loopN (slices_Compact_string_L1 d k k2) m (i, j, v) = k2 (i', v') ∧ i' < d.length ∧ v'.length = d.length ∧ Cpt d d.length (v'.take i') := by
  intro m
  induction m with
  | zero => intro j i v h; omega
  | succ m ih =>
    intro j i v hm hj hkj hi hv hq hC
    rw [loopN_s]
    by_cases c : j < d.length - k
    · have e1 : (((j : Nat) : Int) - 1).toNat = j - 1 := by omega
      simp only [slices_Compact_string_L1, c, decide_true, cond_true, withK_eq, e1]
      rw [chk_of (decide_eq_true (by omega)), chk_of (inI_of (by omega) (by omega)), chk_of (inB_of (by omega) (by omega)), chk_of (decide_eq_true (by omega)), hq (k + j) (by omega), hq (k + (j - 1)) (by omega)]
      cases he : ix d (k + j) == ix d (k + (j - 1)) with
      | true =>
        simp only [Bool.not_true, cond_false]
        rw [chk_of (nI_of (by omega))]
        have hs := hC.same (by omega) (by omega) (by rw [show k + j - 1 = k + (j - 1) by omega]; exact eq_of_beq he)
        exact ih (j + 1) i v (by omega) (by omega) (by omega) (by omega) hv (fun q h => hq q (by omega)) (by rw [← Nat.add_assoc]; exact hs)
      | false =>
        simp only [Bool.not_false, cond_true]
        rw [chk_of (decide_eq_true (by omega)), chk_of (nI_of (by omega)), chk_of (nI_of (by omega))]
        have hs := hC.new hd (by omega) (by omega) (by rw [show k + j - 1 = k + (j - 1) by omega]; exact beq_eq_false_iff_ne.1 he)
        refine ih (j + 1) (i + 1) (List.set v i (ix d (k + j))) (by omega) (by omega) (by omega) (by omega) (by rw [List.length_set]; exact hv) (fun q h => ?_) ?_
        · rw [ix_set' (by omega), if_neg (by omega)]; exact hq q (by omega)
        · rw [take_set_snoc (by omega), ← Nat.add_assoc]; exact hs
    · simp only [slices_Compact_string_L1, c, decide_false, cond_false]
      have : k + j = d.length := by omega
      rw [this] at hC
      exact ⟨i, v, rfl, by omega, hv, hC⟩
theorem compact_eq {d : List Str} (hd : Sorted d) (hl : d.length ≤ 900) (hn : 1000 < n) : ∃ c, slices_Compact_string n d = some c ∧ Asc c ∧ (∀ x, x ∈ c ↔ x ∈ d) ∧ c.length ≤ d.length := by
  rw [slices_Compact_string]
  by_cases h2 : d.length < 2
  · simp only [h2, decide_true, cond_true]
    refine ⟨d, rfl, ?_, fun _ => Iff.rfl, Nat.le_refl _⟩
    match d, h2 with
    | [], _ => exact List.Pairwise.nil
    | [x], _ => exact List.pairwise_singleton _ _
    | _ :: _ :: _, h => simp at h; omega
  simp only [h2, decide_false, cond_false, withK_eq]
  have R : ∀ m k, d.length - k < m → 1 ≤ k → k ≤ d.length → Asc (d.take k) → ∃ c, loopN (slices_Compact_string_L2 n d fun _ => some d) m k = some c ∧ Asc c ∧ (∀ x, x ∈ c ↔ x ∈ d) ∧ c.length ≤ d.length := by
    intro m
    induction m with
    | zero => intro k h; omega
    | succ m ih =>
      intro k hm hk hkl ha
      rw [loopN_s]
      by_cases c : k < d.length
      · have e1 : (((k : Nat) : Int) - 1).toNat = k - 1 := by omega
        simp only [slices_Compact_string_L2, c, decide_true, cond_true, withK_eq, e1]
        rw [chk_of (inI_of (by omega) (by omega)), chk_of (inB_of (by omega) (by omega)), chk_of (decide_eq_true (by omega))]
        have C0 : Cpt d k (d.take k) := ⟨ha, fun _ => Iff.rfl⟩
        cases he : ix d k == ix d (k - 1) with
        | true =>
          simp only [cond_true]
          obtain ⟨i, v, g1, g2, g3, g4⟩ := comp1 hd hl hk c (fun t => match t with | (v18, v19) => chk (decide (v18 < v19.length)) (chk (decide (0 < v19.length - v18)) (chk (decide (v18 + (v19.length - v18) ≤ v19.length)) (chk (decide (v18 ≤ (clrP v19 v18 (v19.length - v18) ([] : Str)).length)) (chk (decide (v18 ≤ v19.length)) (some (List.take v18 (clrP v19 v18 (v19.length - v18) ([] : Str)))))))) ) n 1 k d (by omega) (Nat.le_refl _) (by omega) (by omega) rfl (fun _ _ => rfl) (C0.same c hk (eq_of_beq he))
          refine ⟨v.take i, ?_, g4.1, fun x => ?_, by simp; omega⟩
          · refine g1.trans ?_
            have hcl : (clrP v i (v.length - i) ([] : Str)).length = v.length := by simp [clrP]; omega
            have htk : List.take i (clrP v i (v.length - i) ([] : Str)) = v.take i := by
              unfold clrP
              rw [List.append_assoc, List.take_append_of_le_length (by simp; omega), List.take_take, Nat.min_self]
            simp only []
            rw [chk_of (decide_eq_true (by omega)), chk_of (decide_eq_true (by omega)), chk_of (decide_eq_true (by omega)), chk_of (decide_eq_true (by omega)), chk_of (decide_eq_true (by omega)), htk]
          · rw [g4.2, List.take_length]
        | false =>
          simp only [cond_false]
          rw [chk_of (nI_of (by omega))]
          have hs := C0.new hd c hk (beq_eq_false_iff_ne.1 he)
          rw [ix_eq c, ← List.take_succ_eq_append_getElem c] at hs
          exact ih (k + 1) (by omega) (by omega) (by omega) hs.1
      · have : k = d.length := by omega
        subst this
        simp only [slices_Compact_string_L2, Nat.lt_irrefl, decide_false, cond_false]
        rw [List.take_length] at ha
        exact ⟨d, rfl, ha, fun _ => Iff.rfl, Nat.le_refl _⟩
  refine R n 1 (by omega) (Nat.le_refl _) (by omega) ?_
  match d, h2 with
  | [], h => simp at h
  | x :: l, _ => simp; exact List.pairwise_singleton _ _
end
section
set_option maxRecDepth 4000
open Go
variable {n : Nat}
theorem ContainsFinding2_eq (f : List Finding) (s : Str) (l : List Str) (hf : f.length ≤ 900) (hn : 1000 < n) : slices_ContainsFunc_Finding_2 n f s l = some (f.any fun y => y.Name == s) := by
  rw [slices_ContainsFunc_Finding_2, slices_IndexFunc_Finding_2, withK_eq, loop_findI (l := f) (p := fun y => y.Name == s) (fun back v' hv' => ?_) (fun back => ?_) n (by omega)]
  · simp only [Option.bind_some, findI_any]
  · rw [slices_IndexFunc_Finding_2_L1]
    simp only [hv', decide_true, cond_true, restore_CheckFindings_f1, Option.bind_some, nI_of (by omega : v' + 1 ≤ 9223372036854775807), chk_t]
  · rw [slices_IndexFunc_Finding_2_L1]
    simp
theorem CheckFindings2_res {t : List Task} {f : List Finding} (h : OkT t) (hf : OkF f) (hn : 1000 < n) : restore_CheckFindings_2 n t f = some (findsE n t f) := by
  have hlen := h.len
  have hfl := hf.1
  rw [restore_CheckFindings_2, CheckTasks_res h hn, findsE]
  simp only [Option.bind_some]
  cases tasksE n t != 0
  · by_cases hl : 40 < f.length
    · simp [hl]
    simp only [hl, decide_false, cond_false, withK_eq]
    rw [loop_errs (E := findE t f) (len := f.length) (k := 0) (fun back v hv => ?_) (fun back => ?_) (by omega), bif_int]
    · rw [restore_CheckFindings_2_L1]
      have hx := hf.2 _ (ix_mem hv)
      have hle : v ≤ f.length := by omega
      simp only [hv, hle, decide_true, cond_true, isName_eq (ix f v).Name n (by omega) (by omega), Option.bind_some, chk_t, ContainsFinding2_eq (n := n) (f.take v) (ix f v).Name (ix f v).Tasks (by simp; omega) hn, known_res (n := n) (t := t) (ix f v).Tasks hn (by omega) (by omega), nI_of (by omega : v + 1 ≤ 9223372036854775807), findE]
      cases nameB (ix f v).Name <;> cases (f.take v).any (fun y => y.Name == (ix f v).Name) <;> cases decide (20 < (ix f v).Tasks.length) <;> rfl
    · rw [restore_CheckFindings_2_L1]
      simp
  · rfl
theorem finds_zero {t : List Task} {f : List Finding} (h : findsE n t f = 0) : tasksE n t = 0 ∧ ∀ y ∈ f, ∀ x ∈ y.Tasks, t.any (byName x) = true := by
  unfold findsE at h
  by_cases h0 : tasksE n t = 0
  · refine ⟨h0, fun y hy x hx => ?_⟩
    rw [h0] at h
    simp only [bne_self_eq_false, cond_false] at h
    by_cases hl : 40 < f.length
    · simp [hl] at h
    simp only [hl, decide_false, cond_false] at h
    obtain ⟨v, hv, rfl⟩ := mem_ix.1 hy
    have h1 := firstE_zero h v (by omega) (by omega)
    unfold findE at h1
    have h2 : known t (ix f v).Tasks = 0 := by
      revert h1
      cases nameB (ix f v).Name <;> cases (f.take v).any (fun y => y.Name == (ix f v).Name) <;> cases decide (20 < (ix f v).Tasks.length) <;> simp
    obtain ⟨q, hq, rfl⟩ := mem_ix.1 hx
    have h3 := firstE_zero h2 q (by omega) (by omega)
    unfold knownE at h3
    cases c : t.any (byName (ix (ix f v).Tasks q)) with
    | true => rfl
    | false => rw [c] at h3; simp at h3
  · rw [bne_t h0] at h; exact absurd h h0
theorem flat_len {f : List Finding} (hT : ∀ x ∈ f, x.Tasks.length ≤ 23) : (f.flatMap Finding.Tasks).length ≤ 23 * f.length := by
  induction f with
  | nil => simp
  | cons y f ih =>
    have h1 := hT y (by simp)
    have h2 := ih fun x hx => hT x (by simp [hx])
    simp only [List.flatMap_cons, List.length_append, List.length_cons]; omega
theorem estimate_eq {t : List Task} (ok : OkT t) {s : List Stocked} {f : List Finding} (hF : OkF f) (hf : f.length ≤ 7) (hT : ∀ x ∈ f, x.Tasks.length ≤ 23) {W : List Str} (hW : Asc W) (hW2 : ∀ x, x ∈ W ↔ ∃ y ∈ f, x ∈ y.Tasks) (hn : 1000 < n) :
    restore_Estimate n t s f = bif findsE n t f != 0 then some (findsE n t f, [], 0) else restore_Cheapest n t s W := by
  rw [restore_Estimate, CheckFindings2_res ok hF hn]
  simp only [Option.bind_some, withK_eq]
  cases findsE n t f != 0
  · simp only [cond_false]
    have e0 : (([] : List Str), 0) = (fun v => ((f.take v).flatMap Finding.Tasks, v)) 0 := by simp
    rw [e0]
    refine loop_through (st := fun v => ((f.take v).flatMap Finding.Tasks, v)) (len := f.length) (fun back v hv => ?_) (fun back => ?_) n (by omega)
    · rw [restore_Estimate_L1]
      have h1 := flat_len (f := f.take v) fun x hx => hT x (List.mem_of_mem_take hx)
      have h2 := hT _ (ix_mem hv)
      have h3 : (f.take v).length ≤ 7 := by simp; omega
      simp only [hv, decide_true, cond_true]
      rw [chk_of (room_of (by simp only [List.length_append]; omega) (by simp only [List.length_append]; omega)), chk_of (nI_of (by omega)), List.take_succ_eq_append_getElem hv, List.flatMap_append, ix_eq hv]
      simp
    · rw [restore_Estimate_L1]
      simp only [Nat.lt_irrefl, decide_false, cond_false, List.take_length]
      have h1 := flat_len hT
      have hp := sortL_perm (f.flatMap Finding.Tasks)
      have hsl := hp.length_eq
      rw [sortS_eq (by omega), Option.bind_some, chk_of (decide_eq_true hsl.symm)]
      have hS : Sorted (sortL (f.flatMap Finding.Tasks)) := fun i j h1 h2 => by
        have := List.pairwise_iff_getElem.1 (sortL_srt (f.flatMap Finding.Tasks)) i j (by omega) h2 h1
        rw [ix_eq h2, ix_eq (by omega)]; exact this
      obtain ⟨c, c1, c2, c3, c4⟩ := compact_eq (n := n) hS (by omega) hn
      have : c = W := Asc.ext c2 hW fun x => by
        rw [c3, hp.mem_iff, hW2, List.mem_flatMap]
      rw [c1, Option.bind_some, this]
      cases restore_Cheapest n t s W with
      | none => rfl
      | some r => rfl
  · rfl
def estE (n : Nat) (t : List Task) (s : List Stocked) (W : List Str) : Int × List Str × Int :=
  bif stockC s != 0 then (stockC s, [], 0) else bif firstE (lackT t s) 0 t.length != 0 then (6, [], 0) else (0, (encB t s (bestOf (costA t s) (goodP n t W) (setP n t) (2 ^ t.length))).1, (encB t s (bestOf (costA t s) (goodP n t W) (setP n t) (2 ^ t.length))).2)
theorem est_res {t : List Task} (ok : OkT t) (h0 : tasksE n t = 0) {s : List Stocked} (hs2 : ∀ x ∈ s, x.Part.length ≤ 20) (hN : t.length ≤ 9) {W : List Str} (hwl : W.length ≤ 900) (hw : setE t W = 0) (hn : 1000 < n) : restore_Cheapest n t s W = some (estE n t s W) := by
  unfold estE
  by_cases h1 : stockC s = 0
  · rw [cheapest_res (n := n) ok h0 h1 hs2 hN hwl hw hn, h1]
    simp only [bne_self_eq_false, cond_false]
    cases firstE (lackT t s) 0 t.length != 0 <;> rfl
  · rw [cheapest_err (n := n) ok hs2 (want := W) hwl hn h1 (by rw [h0, bne_t h1]; rfl), bne_t h1]; rfl
end
section
set_option maxRecDepth 4000
open Go
variable {n : Nat}
theorem goodP_mono {t : List Task} {W V : List Str} {b : Nat} (h : ∀ x ∈ V, x ∈ W) (hg : goodP n t W b = true) : goodP n t V b = true := by
  unfold goodP at hg ⊢
  rw [closE_iff] at hg ⊢
  exact ⟨fun x hx => hg.1 x (h x hx), hg.2⟩
theorem goodP_or {t : List Task} (h0 : tasksE n t = 0) (hN : t.length ≤ 12) (hn : 1000 < n) {A B W : List Str} (hA : Kn t A) (hB : Kn t B) (hW : Kn t W) {a b : Nat} (h : ∀ x ∈ W, x ∈ A ∨ x ∈ B) (ha : goodP n t A a = true) (hb : goodP n t B b = true) : goodP n t W (a ||| b) = true := by
  rw [good_iff h0 hN hn hA] at ha
  rw [good_iff h0 hN hn hB] at hb
  rw [good_iff h0 hN hn hW]
  refine ⟨fun i hi => ?_, fun i hi hbit => ?_⟩
  · obtain ⟨x, hx, rfl⟩ := bitsN_bit.1 hi
    rw [Nat.testBit_or, Bool.or_eq_true]
    rcases h x hx with c | c
    · exact .inl (ha.1 _ (bitsN_bit.2 ⟨x, c, rfl⟩))
    · exact .inr (hb.1 _ (bitsN_bit.2 ⟨x, c, rfl⟩))
  · rw [Nat.testBit_or, Bool.or_eq_true] at hbit
    rcases hbit with c | c
    · obtain ⟨k1, k2⟩ := ha.2 i hi c
      refine ⟨fun s hs => by rw [Nat.testBit_or, k1 s hs, Bool.true_or], fun g hg => ?_⟩
      obtain ⟨s, hs, hh⟩ := k2 g hg
      exact ⟨s, hs, by rw [Nat.testBit_or, hh, Bool.true_or]⟩
    · obtain ⟨k1, k2⟩ := hb.2 i hi c
      refine ⟨fun s hs => by rw [Nat.testBit_or, k1 s hs, Bool.or_true], fun g hg => ?_⟩
      obtain ⟨s, hs, hh⟩ := k2 g hg
      exact ⟨s, hs, by rw [Nat.testBit_or, hh, Bool.or_true]⟩
theorem sm'_or {f : Nat → Int} {p q : Nat → Bool} : ∀ N, (∀ i, i < N → 0 ≤ f i) → sm' f (fun i => p i || q i) N ≤ sm' f p N + sm' f q N
  | 0, _ => by simp [sm']
  | N + 1, h => by
    have ih := sm'_or (p := p) (q := q) N fun i hi => h i (by omega)
    have h1 := h N (by omega)
    simp only [sm']
    cases p N <;> cases q N <;> simp <;> omega
theorem cost_or {t : List Task} (h0 : tasksE n t = 0) {s : List Stocked} (hs : stockC s = 0) (hN : t.length ≤ 12) (hk : ∀ i, i < t.length → lacks s (ix t i).Parts = false) (hn : 1000 < n) (a b : Nat) : costA t s (setP n t (a ||| b)) ≤ costA t s (setP n t a) + costA t s (setP n t b) := by
  rw [← cost_bits h0 hN hn, ← cost_bits h0 hN hn, ← cost_bits h0 hN hn]
  have e : (fun i => (a ||| b).testBit i) = fun i => a.testBit i || b.testBit i := funext fun i => Nat.testBit_or a b i
  rw [e]
  exact sm'_or _ fun i hi => (task_ok h0 hs hi (hk i hi)).1
theorem cost_zero {t : List Task} (h0 : tasksE n t = 0) (hN : t.length ≤ 12) (hn : 1000 < n) (s : List Stocked) : costA t s (setP n t 0) = 0 := by
  rw [← cost_bits h0 hN hn]
  have : ∀ N, sm' (fun i => taskC s (ix t i)) (fun i => (0 : Nat).testBit i) N = 0 := by
    intro N
    induction N with
    | zero => rfl
    | succ N ih => rw [sm', ih]; simp
  exact this _
theorem good_zero {t : List Task} (h0 : tasksE n t = 0) (hN : t.length ≤ 12) (hn : 1000 < n) : goodP n t [] 0 = true := by
  rw [good_iff h0 hN hn (fun x hx => by cases hx)]
  exact ⟨fun i hi => by simp [bitsN] at hi, fun i _ hb => by simp at hb⟩
theorem est_good {t : List Task} (ok : OkT t) (h0 : tasksE n t = 0) {s : List Stocked} (hs : stockC s = 0) (hl : firstE (lackT t s) 0 t.length = 0) (hN : t.length ≤ 12) (hn : 1000 < n) {W : List Str} (hw : Kn t W) : ∃ b, b < 2 ^ t.length ∧ goodP n t W b = true ∧ estE n t s W = (0, setP n t b, costA t s (setP n t b)) ∧ ∀ b', b' < 2 ^ t.length → goodP n t W b' = true → costA t s (setP n t b) ≤ costA t s (setP n t b') := by
  obtain ⟨b, b1, b2, b3, b4⟩ := best_some (n := n) ok h0 (s := s) hN hn hw
  refine ⟨b, b1, b2, ?_, fun b' h1 h2 => ?_⟩
  · unfold estE
    rw [hs, hl, b3]; rfl
  · have h := b4 b' h1 h2
    by_cases c : costA t s (setP n t b') < costA t s (setP n t b)
    · have : ltK (costA t s) (setP n t b') (setP n t b) = true := ltK_iff.2 (.inl c)
      rw [this] at h; cases h
    · omega
theorem est_sub {t : List Task} (ok : OkT t) (h0 : tasksE n t = 0) {s : List Stocked} (hs : stockC s = 0) (hl : firstE (lackT t s) 0 t.length = 0) (hN : t.length ≤ 12) (hn : 1000 < n) (V : Nat → List Str) : ∀ k (W : List Str), (∀ i, i < k → Kn t (V i)) → (∀ x ∈ W, ∃ i, i < k ∧ x ∈ V i) → ∃ b, b < 2 ^ t.length ∧ goodP n t W b = true ∧ costA t s (setP n t b) ≤ sm (fun i => (estE n t s (V i)).2.2) k := by
  have hk : ∀ i, i < t.length → lacks s (ix t i).Parts = false := fun i hi => by
    have := firstE_zero hl i (by omega) (by omega)
    unfold lackT at this
    cases c : lacks s (ix t i).Parts with
    | false => rfl
    | true => rw [c] at this; simp at this
  intro k
  induction k with
  | zero =>
    intro W _ hW
    refine ⟨0, Nat.two_pow_pos _, goodP_mono (fun x hx => ?_) (good_zero h0 hN hn), by rw [cost_zero h0 hN hn]; exact Int.le_refl _⟩
    obtain ⟨i, hi, _⟩ := hW x hx
    omega
  | succ k ih =>
    intro W hV hW
    obtain ⟨b, b1, b2, b3⟩ := ih (W.filter fun x => decide (∃ i, i < k ∧ x ∈ V i)) (fun i hi => hV i (by omega)) fun x hx => by
      have := (List.mem_filter.1 hx).2
      simpa using this
    obtain ⟨a, a1, a2, a3, _⟩ := est_good (n := n) ok h0 hs hl hN hn (hV k (by omega))
    have hKW : Kn t W := fun x hx => by
      obtain ⟨i, hi, hx⟩ := hW x hx
      exact hV i hi x hx
    refine ⟨b ||| a, Nat.or_lt_two_pow b1 a1, goodP_or h0 hN hn (A := W.filter fun x => decide (∃ i, i < k ∧ x ∈ V i)) (B := V k) (fun x hx => hKW x (List.mem_filter.1 hx).1) (hV k (by omega)) hKW (fun x hx => ?_) b2 a2, ?_⟩
    · obtain ⟨i, hi, hxi⟩ := hW x hx
      by_cases e : i = k
      · subst e; exact .inr hxi
      · exact .inl (List.mem_filter.2 ⟨hx, by simpa using ⟨i, by omega, hxi⟩⟩)
    · have h1 := cost_or (n := n) h0 hs hN hk hn b a
      have h2 : (estE n t s (V k)).2.2 = costA t s (setP n t a) := by rw [a3]
      simp only [sm]
      rw [h2]
      omega
end
end Go.Proofs.YtifabpmjiphhdaaGreat.As
