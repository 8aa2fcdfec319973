/- What the functions compute, on plain data, and what follows from it, part 1: no condition. -/
import Derived.Test.YtifabpmjiphhdaaGreatGround3
namespace Go.Proofs.YtifabpmjiphhdaaGreat.As
open Go
section
set_option maxRecDepth 4000
open Go
structure PartCount where
  Part : Str
  Count : Int
  deriving Inhabited,DecidableEq
def ePartCount (x : PartCount) : V:=.agg [vt x.Part,vi x.Count]
theorem ePartCount_frz (x : PartCount) : (ePartCount x).frz = true:=rfl
theorem ePartCount_frzE (x : PartCount) : frzE (ePartCount x) = true:=rfl
structure Task where
  Name : Str
  Cents : Int
  Hours : Int
  Needs : List Str
  OneOf : List (List Str)
  Parts : List PartCount
  deriving Inhabited,DecidableEq
def eTask (x : Task) : V:=.agg [vt x.Name,vi x.Cents,vi x.Hours,eS 1 vt x.Needs,eS 1 (eS 1 vt) x.OneOf,eS 2 ePartCount x.Parts]
structure Stocked where
  Part : Str
  Cents : Int
  Count : Int
  deriving Inhabited,DecidableEq
def eStocked (x : Stocked) : V:=.agg [vt x.Part,vi x.Cents,vi x.Count]
structure Range where
  Lo : Int
  Hi : Int
  deriving Inhabited,DecidableEq
structure PartPromise where
  Instrument : Str
  Part : Str
  Count : Int
  deriving Inhabited,DecidableEq
def ePartPromise (x : PartPromise) : V:=.agg [vt x.Instrument,vt x.Part,vi x.Count]
theorem ePartPromise_frz (x : PartPromise) : (ePartPromise x).frz = true:=rfl
theorem ePartPromise_frzE (x : PartPromise) : frzE (ePartPromise x) = true:=rfl
structure Shop where
  Stock : List Stocked
  Promises : List PartPromise
  deriving Inhabited,DecidableEq
def eShop (x : Shop) : V:=.agg [eS 3 eStocked x.Stock,eS 3 ePartPromise x.Promises]
def agraffelaw08_texts_L1 (a0 : List Str) (k1 : (Unit → Option Bool)) (back : Nat → Option Bool) : Nat → Option Bool
  | v1 =>
  bif decide (v1 < a0.length) then
    bif decide (20 < ((ix a0 v1).length)) then
      some false
    else
      chk (nI (v1 + 1)) <|
      back (v1 + 1)
  else
    k1 ()
def agraffelaw08_texts (n : Nat) (a0 : List Str) (a1 : Int) : Option Bool :=
  bif decide (a1 < ((a0.length : Nat) : Int)) then
    some false
  else
    withK (fun (_ : Unit) =>
        some true) fun k1 =>
    loopN (agraffelaw08_texts_L1 a0 k1) n 0
def agraffelaw08_Few_L2 (a0 : List Task) (v6 : Nat) (k2 : (Unit → Option Bool)) (back : Nat → Option Bool) : Nat → Option Bool
  | v11 =>
  bif decide (v11 < (((ix a0 v6).Parts).length)) then
    chk (decide (v11 < ((ix a0 v6).Parts).length)) <|
    bif decide (20 < (((ix ((ix a0 v6).Parts) v11).Part).length)) then
      some false
    else
      chk (nI (v11 + 1)) <|
      back (v11 + 1)
  else
    k2 ()
def agraffelaw08_Few_L1 (n : Nat) (a0 : List Task) (v6 : Nat) (k1 : (Unit → Option Bool)) (back : Nat → Option Bool) : Nat → Option Bool
  | v9 =>
  bif decide (v9 < (((ix a0 v6).OneOf).length)) then
    chk (decide (v9 < ((ix a0 v6).OneOf).length)) <|
    (agraffelaw08_texts n (ix ((ix a0 v6).OneOf) v9) 9).bind fun y10 =>
    bif !y10 then
      some false
    else
      chk (nI (v9 + 1)) <|
      back (v9 + 1)
  else
    k1 ()
def agraffelaw08_Few_L3 (n : Nat) (a0 : List Task) (k3 : (Unit → Option Bool)) (back : Nat → Option Bool) : Nat → Option Bool
  | v6 =>
  bif decide (v6 < a0.length) then
    withK (fun (_ : Unit) =>
        chk (nI (v6 + 1)) <|
        back (v6 + 1)) fun k2 =>
    (gcall (!(decide (20 < (((ix a0 v6).Name).length)))) (agraffelaw08_texts n ((ix a0 v6).Needs) 13)).bind fun y7 =>
    bif (((decide (20 < (((ix a0 v6).Name).length))) || (!y7)) || (decide (9 < (((ix a0 v6).OneOf).length)))) || (decide (13 < (((ix a0 v6).Parts).length))) then
      some false
    else
      withK (fun (_ : Unit) =>
          loopN (agraffelaw08_Few_L2 a0 v6 k2) n 0) fun k1 =>
      loopN (agraffelaw08_Few_L1 n a0 v6 k1) n 0
  else
    k3 ()
def agraffelaw08_Few (n : Nat) (a0 : List Task) : Option Bool :=
  bif ((decide (9 < a0.length)) && (decide (a0.length ≤ 60))) || (decide (63 < a0.length)) then
    some false
  else
    withK (fun (_ : Unit) =>
        some true) fun k3 =>
    loopN (agraffelaw08_Few_L3 n a0 k3) n 0
def agraffebase_CopyTexts_2 (n : Nat) (a0 : List Str) : Option Unit :=
  chk (room 16 a0.length) <|
  some ()
def restore_isName_L1 (a0 : Str) (k1 : (Unit → Option Bool)) (back : Nat → Option Bool) : Nat → Option Bool
  | v1 =>
  bif decide (v1 < a0.length) then
    bif (!(((decide ((97 : Int) ≤ (((ix a0 v1).toNat : Nat) : Int))) && (decide ((((ix a0 v1).toNat : Nat) : Int) ≤ (122 : Int)))) || ((decide ((65 : Int) ≤ (((ix a0 v1).toNat : Nat) : Int))) && (decide ((((ix a0 v1).toNat : Nat) : Int) ≤ (90 : Int)))))) && ((decide (v1 = 0)) || (((((ix a0 v1).toNat : Nat) : Int) != (45 : Int)) && ((decide ((((ix a0 v1).toNat : Nat) : Int) < (48 : Int))) || (decide ((57 : Int) < (((ix a0 v1).toNat : Nat) : Int)))))) then
      some false
    else
      chk (nI (v1 + 1)) <|
      back (v1 + 1)
  else
    k1 ()
def restore_isName (n : Nat) (a0 : Str) : Option Bool :=
  withK (fun (_ : Unit) =>
      some ((!(a0 == ([] : Str))) && (decide (a0.length ≤ 12)))) fun k1 =>
  loopN (restore_isName_L1 a0 k1) n 0
def restore_list_find_f1 (n : Nat) (a0 : Task) (a1 : Str) : Option Unit :=
  some ()
def slices_IndexFunc_Task_L1 (n : Nat) (a0 : List Task) (a1 : Str) (k1 : (Unit → Option Int)) (back : Nat → Option Int) : Nat → Option Int
  | v2 =>
  bif decide (v2 < a0.length) then
    (restore_list_find_f1 n (ix a0 v2) a1).bind fun y3 =>
    bif ((ix a0 v2).Name == a1) then
      some ((v2 : Nat) : Int)
    else
      chk (nI (v2 + 1)) <|
      back (v2 + 1)
  else
    k1 ()
def slices_IndexFunc_Task (n : Nat) (a0 : List Task) (a1 : Str) : Option Int :=
  withK (fun (_ : Unit) =>
      some (-1)) fun k1 =>
  loopN (slices_IndexFunc_Task_L1 n a0 a1 k1) n 0
def restore_list_find (n : Nat) (a0 : List Task) (a1 : Str) : Option Int :=
  (slices_IndexFunc_Task n a0 a1).bind fun y1 =>
  some y1
def q53k (n : Nat) (a0 : Int) (a1 : Int) (a2 : Int) : Option Unit :=
  some ()
def restore_list_checkTask_f1 (n : Nat) (a0 : List Str) : Option Unit :=
  some ()
def slices_IndexFunc_string_L1 (n : Nat) (a0 : List (List Str)) (k1 : (Unit → Option Int)) (back : Nat → Option Int) : Nat → Option Int
  | v2 =>
  bif decide (v2 < a0.length) then
    (restore_list_checkTask_f1 n (ix a0 v2)).bind fun y3 =>
    bif decide (6 < (ix a0 v2).length) then
      some ((v2 : Nat) : Int)
    else
      chk (nI (v2 + 1)) <|
      back (v2 + 1)
  else
    k1 ()
def slices_IndexFunc_string (n : Nat) (a0 : List (List Str)) : Option Int :=
  withK (fun (_ : Unit) =>
      some (-1)) fun k1 =>
  loopN (slices_IndexFunc_string_L1 n a0 k1) n 0
def q51k (n : Nat) (a0 : List (List Str)) : Option Bool :=
  (slices_IndexFunc_string n a0).bind fun y1 =>
  some (decide ((0 : Int) ≤ y1))
def slices_Index_string_L1 (a0 : List Str) (a1 : Str) (k1 : (Unit → Option Int)) (back : Nat → Option Int) : Nat → Option Int
  | v1 =>
  bif decide (v1 < a0.length) then
    bif (a1 == (ix a0 v1)) then
      some ((v1 : Nat) : Int)
    else
      chk (nI (v1 + 1)) <|
      back (v1 + 1)
  else
    k1 ()
def slices_Index_string (n : Nat) (a0 : List Str) (a1 : Str) : Option Int :=
  withK (fun (_ : Unit) =>
      some (-1)) fun k1 =>
  loopN (slices_Index_string_L1 a0 a1 k1) n 0
def slices_Contains_string (n : Nat) (a0 : List Str) (a1 : Str) : Option Bool :=
  (slices_Index_string n a0 a1).bind fun y1 =>
  some (decide ((0 : Int) ≤ y1))
def restore_list_known_L1 (n : Nat) (a0 : List Task) (a1 : List Str) (k1 : (Unit → Option Int)) (back : Nat → Option Int) : Nat → Option Int
  | v3 =>
  bif decide (v3 < a1.length) then
    (restore_list_find n a0 (ix a1 v3)).bind fun y4 =>
    bif decide (y4 < (0 : Int)) then
      some 6
    else
      chk (decide (v3 ≤ a1.length)) <|
      (slices_Contains_string n (List.take v3 a1) (ix a1 v3)).bind fun y5 =>
      bif y5 then
        some 5
      else
        chk (nI (v3 + 1)) <|
        back (v3 + 1)
  else
    k1 ()
def restore_list_known (n : Nat) (a0 : List Task) (a1 : List Str) : Option Int :=
  withK (fun (_ : Unit) =>
      some 0) fun k1 =>
  loopN (restore_list_known_L1 n a0 a1 k1) n 0
def restore_checkCounts_f1 (n : Nat) (a0 : PartCount) (a1 : Str) (a2 : Int) : Option Unit :=
  some ()
def q57k (n : Nat) (a0 : List PartCount) (a1 : Str) (a2 : Int) (k1 : (Unit → Option Int)) (back : Nat → Option Int) : Nat → Option Int
  | v2 =>
  bif decide (v2 < a0.length) then
    (restore_checkCounts_f1 n (ix a0 v2) a1 a2).bind fun y3 =>
    bif ((ix a0 v2).Part == a1) then
      some ((v2 : Nat) : Int)
    else
      chk (nI (v2 + 1)) <|
      back (v2 + 1)
  else
    k1 ()
def slices_IndexFunc_PartCount (n : Nat) (a0 : List PartCount) (a1 : Str) (a2 : Int) : Option Int :=
  withK (fun (_ : Unit) =>
      some (-1)) fun k1 =>
  loopN (q57k n a0 a1 a2 k1) n 0
def q43k (n : Nat) (a0 : List PartCount) (a1 : Str) (a2 : Int) : Option Bool :=
  (slices_IndexFunc_PartCount n a0 a1 a2).bind fun y1 =>
  some (decide ((0 : Int) ≤ y1))
def restore_checkCounts_L1 (n : Nat) (a0 : List PartCount) (a1 : Int) (k1 : (Unit → Option Int)) (back : Nat → Option Int) : Nat → Option Int
  | v4 =>
  bif decide (v4 < a0.length) then
    (restore_isName n ((ix a0 v4).Part)).bind fun y5 =>
    bif !y5 then
      some 4
    else
      chk (decide (v4 ≤ a0.length)) <|
      (q43k n (List.take v4 a0) ((ix a0 v4).Part) ((ix a0 v4).Count)).bind fun y6 =>
      bif y6 then
        some 5
      else
        (q53k n ((ix a0 v4).Count) 1 a1).bind fun y7 =>
        bif !((decide (1 ≤ ((ix a0 v4).Count))) && (decide (((ix a0 v4).Count) ≤ a1))) then
          some 2
        else
          chk (nI (v4 + 1)) <|
          back (v4 + 1)
  else
    k1 ()
def q59k (n : Nat) (a0 : List PartCount) (a1 : Int) : Option Int :=
  withK (fun (_ : Unit) =>
      some 0) fun k1 =>
  loopN (restore_checkCounts_L1 n a0 a1 k1) n 0
def restore_list_checkTask_L1 (n : Nat) (a0 : List Task) (a1 : Int) (k1 : (Unit → Option Int)) (back : Nat → Option Int) : Nat → Option Int
  | v8 =>
  bif decide (v8 < (((ix a0 a1.toNat).OneOf).length)) then
    chk (decide (v8 < ((ix a0 a1.toNat).OneOf).length)) <|
    bif decide (((ix ((ix a0 a1.toNat).OneOf) v8).length) = 0) then
      some 10
    else
      (restore_list_known n a0 (ix ((ix a0 a1.toNat).OneOf) v8)).bind fun y9 =>
      bif (y9 != (0 : Int)) then
        some y9
      else
        chk (nI (v8 + 1)) <|
        back (v8 + 1)
  else
    k1 ()
def restore_list_checkTask (n : Nat) (a0 : List Task) (a1 : Int) : Option Int :=
  chk (inB a1 a0.length) <|
  chk (decide (a1.toNat < a0.length)) <|
  (restore_isName n ((ix a0 a1.toNat).Name)).bind fun y1 =>
  bif !y1 then
    some 4
  else
    (restore_list_find n a0 ((ix a0 a1.toNat).Name)).bind fun y2 =>
    bif decide (y2 < a1) then
      some 5
    else
      (q53k n ((ix a0 a1.toNat).Cents) 0 1000000000).bind fun y3 =>
      (gcall (!(!((decide (0 ≤ ((ix a0 a1.toNat).Cents))) && (decide (((ix a0 a1.toNat).Cents) ≤ 1000000000))))) (q53k n ((ix a0 a1.toNat).Hours) 0 10000)).bind fun y4 =>
      bif (!((decide (0 ≤ ((ix a0 a1.toNat).Cents))) && (decide (((ix a0 a1.toNat).Cents) ≤ 1000000000)))) || (!((decide (0 ≤ ((ix a0 a1.toNat).Hours))) && (decide (((ix a0 a1.toNat).Hours) ≤ 10000)))) then
        some 2
      else
        (gcall (!((decide (10 < (((ix a0 a1.toNat).Needs).length))) || (decide (6 < (((ix a0 a1.toNat).OneOf).length))))) (q51k n ((ix a0 a1.toNat).OneOf))).bind fun y5 =>
        bif (((decide (10 < (((ix a0 a1.toNat).Needs).length))) || (decide (6 < (((ix a0 a1.toNat).OneOf).length)))) || y5) || (decide (10 < (((ix a0 a1.toNat).Parts).length))) then
          some 8
        else
          (restore_list_known n a0 ((ix a0 a1.toNat).Needs)).bind fun y6 =>
          bif (y6 != (0 : Int)) then
            some y6
          else
            withK (fun (_ : Unit) =>
                (q59k n ((ix a0 a1.toNat).Parts) 1000).bind fun y10 =>
                some y10) fun k1 =>
            loopN (restore_list_checkTask_L1 n a0 a1 k1) n 0
def restore_CheckTasks_f1 (n : Nat) (a0 : Str) : Option Unit :=
  some ()
def slices_Grow_string (n : Nat) (a0 : Int) : Option (List Str) :=
  bif decide (a0 < (0 : Int)) then
    none
  else
    withK (fun (v1 : (List Str)) =>
        some v1) fun k1 =>
    chk (inI (0 - 0)) <|
    chk (inI (a0 - (0 - 0))) <|
    bif decide ((0 : Int) < (a0 - (0 - 0))) then
      chk (decide (0 ≤ (a0 - (0 - 0)))) <|
      chk (decide (0 < (a0 - (0 - 0)).toNat)) <|
      chk (room 16 ((a0 - (0 - 0)).toNat)) <|
      chk (decide (0 ≤ ((a0 - (0 - 0)).toNat))) <|
      k1 ([] : List Str)
    else
      k1 ([] : List Str)
def slices_Concat_string_L2 (a0 : List (List Str)) (k2 : ((List Str) → Option (List Str))) (back : Nat × (List Str) → Option (List Str)) : Nat × (List Str) → Option (List Str)
  | (v5,v6) =>
  bif decide (v5 < a0.length) then
    chk (room 16 (v6 ++ (ix a0 v5)).length) <|
    chk (nI (v5 + 1)) <|
    back (v5 + 1,(v6 ++ (ix a0 v5)))
  else
    k2 v6
def slices_Concat_string_L1 (a0 : List (List Str)) (k1 : (Nat → Option (List Str))) (back : Nat × Nat → Option (List Str)) : Nat × Nat → Option (List Str)
  | (v1,v2) =>
  bif decide (v2 < a0.length) then
    chk (nI (v1 + ((ix a0 v2).length))) <|
    bif decide ((v1 + ((ix a0 v2).length)) < 0) then
      none
    else
      chk (nI (v2 + 1)) <|
      back (v1 + ((ix a0 v2).length),v2 + 1)
  else
    k1 v1
def slices_Concat_string (n : Nat) (a0 : List (List Str)) : Option (List Str) :=
  withK (fun (v3 : Nat) =>
      (slices_Grow_string n ((v3 : Nat) : Int)).bind fun y4 =>
      withK (fun (v7 : (List Str)) =>
          some v7) fun k2 =>
      loopN (slices_Concat_string_L2 a0 k2) n (0,y4)) fun k1 =>
  loopN (slices_Concat_string_L1 a0 k1) n (0,0)
def restore_leads (n : Nat) (a0 : Task) : Option (List Str) :=
  chk (room 24 (([a0.Needs] : List (List Str)) ++ a0.OneOf).length) <|
  (slices_Concat_string n (([a0.Needs] : List (List Str)) ++ a0.OneOf)).bind fun y1 =>
  some y1
def slices_Index_string_2_L1 (a0 : List Str) (a1 : Str) (k1 : (Unit → Option Int)) (back : Nat → Option Int) : Nat → Option Int
  | v1 =>
  bif decide (v1 < a0.length) then
    bif (a1 == (ix a0 v1)) then
      some ((v1 : Nat) : Int)
    else
      chk (nI (v1 + 1)) <|
      back (v1 + 1)
  else
    k1 ()
def slices_Index_string_2 (n : Nat) (a0 : List Str) (a1 : Str) : Option Int :=
  withK (fun (_ : Unit) =>
      some (-1)) fun k1 =>
  loopN (slices_Index_string_2_L1 a0 a1 k1) n 0
def slices_Contains_string_2 (n : Nat) (a0 : List Str) (a1 : Str) : Option Bool :=
  (slices_Index_string_2 n a0 a1).bind fun y1 =>
  some (decide ((0 : Int) ≤ y1))
def q48k (n : Nat) (a0 : Str) (a1 : List Str) : Option Bool :=
  (restore_CheckTasks_f1 n a0).bind fun y1 =>
  (gcall true (slices_Contains_string_2 n a1 a0)).bind fun y2 =>
  some (true && (!y2))
def slices_IndexFunc_string_3_L1 (n : Nat) (a0 : List Str) (a1 : List Str) (k1 : (Unit → Option Int)) (back : Nat → Option Int) : Nat → Option Int
  | v2 =>
  bif decide (v2 < a0.length) then
    (q48k n (ix a0 v2) a1).bind fun y3 =>
    bif y3 then
      some ((v2 : Nat) : Int)
    else
      chk (nI (v2 + 1)) <|
      back (v2 + 1)
  else
    k1 ()
def slices_IndexFunc_string_3 (n : Nat) (a0 : List Str) (a1 : List Str) : Option Int :=
  withK (fun (_ : Unit) =>
      some (-1)) fun k1 =>
  loopN (slices_IndexFunc_string_3_L1 n a0 a1 k1) n 0
def q46k (n : Nat) (a0 : List Str) (a1 : List Str) : Option Bool :=
  (slices_IndexFunc_string_3 n a0 a1).bind fun y1 =>
  some (decide ((0 : Int) ≤ y1))
def restore_list_order_f2_2 (n : Nat) (a0 : Task) (a1 : List Str) : Option Bool :=
  (q48k n a0.Name a1).bind fun y1 =>
  (gcall y1 (restore_leads n a0)).bind fun y2 =>
  (gcall y1 (q46k n y2 a1)).bind fun y3 =>
  some (y1 && (!y3))
def slices_IndexFunc_Task_3_L1 (n : Nat) (a0 : List Task) (a1 : List Str) (k1 : (Unit → Option Int)) (back : Nat → Option Int) : Nat → Option Int
  | v2 =>
  bif decide (v2 < a0.length) then
    (restore_list_order_f2_2 n (ix a0 v2) a1).bind fun y3 =>
    bif y3 then
      some ((v2 : Nat) : Int)
    else
      chk (nI (v2 + 1)) <|
      back (v2 + 1)
  else
    k1 ()
def slices_IndexFunc_Task_3 (n : Nat) (a0 : List Task) (a1 : List Str) : Option Int :=
  withK (fun (_ : Unit) =>
      some (-1)) fun k1 =>
  loopN (slices_IndexFunc_Task_3_L1 n a0 a1 k1) n 0
def restore_list_order_L1 (n : Nat) (a0 : List Task) (back : (List Str) → Option (List Str)) : (List Str) → Option (List Str)
  | v2 =>
  (slices_IndexFunc_Task_3 n a0 v2).bind fun y3 =>
  bif decide (y3 < (0 : Int)) then
    some v2
  else
    chk (inB y3 a0.length) <|
    chk (decide (y3.toNat < a0.length)) <|
    chk (room 16 (v2 ++ ([(ix a0 y3.toNat).Name] : List Str)).length) <|
    back (v2 ++ ([(ix a0 y3.toNat).Name] : List Str))
def restore_list_order (n : Nat) (a0 : List Task) : Option (List Str) :=
  loopN (restore_list_order_L1 n a0) n ([] : List Str)
def restore_CheckTasks_L1 (n : Nat) (a0 : List Task) (k1 : (Unit → Option Int)) (back : Nat → Option Int) : Nat → Option Int
  | v2 =>
  bif decide (v2 < a0.length) then
    (restore_list_checkTask n a0 ((v2 : Nat) : Int)).bind fun y3 =>
    bif (y3 != (0 : Int)) then
      some y3
    else
      chk (nI (v2 + 1)) <|
      back (v2 + 1)
  else
    k1 ()
def restore_CheckTasks (n : Nat) (a0 : List Task) : Option Int :=
  bif decide (60 < a0.length) then
    some 8
  else
    withK (fun (_ : Unit) =>
        (restore_list_order n a0).bind fun y4 =>
        bif decide (y4.length < a0.length) then
          some 21
        else
          some 0) fun k1 =>
    loopN (restore_CheckTasks_L1 n a0 k1) n 0
def agraffebase_isLetter (n : Nat) (a0 : Int) : Option Unit :=
  some ()
def agraffebase_isDigit (n : Nat) (a0 : Int) : Option Unit :=
  some ()
def agraffebase_IsName_L1 (n : Nat) (a0 : Str) (k1 : (Unit → Option Bool)) (back : Nat → Option Bool) : Nat → Option Bool
  | v4 =>
  bif decide (v4 < a0.length) then
    (agraffebase_isLetter n (((List.getD a0 v4 0).toNat : Nat) : Int)).bind fun y5 =>
    (gcall (!(((decide ((97 : Int) ≤ (((List.getD a0 v4 0).toNat : Nat) : Int))) && (decide ((((List.getD a0 v4 0).toNat : Nat) : Int) ≤ (122 : Int)))) || ((decide ((65 : Int) ≤ (((List.getD a0 v4 0).toNat : Nat) : Int))) && (decide ((((List.getD a0 v4 0).toNat : Nat) : Int) ≤ (90 : Int)))))) (agraffebase_isDigit n (((List.getD a0 v4 0).toNat : Nat) : Int))).bind fun y6 =>
    bif ((!(((decide ((97 : Int) ≤ (((List.getD a0 v4 0).toNat : Nat) : Int))) && (decide ((((List.getD a0 v4 0).toNat : Nat) : Int) ≤ (122 : Int)))) || ((decide ((65 : Int) ≤ (((List.getD a0 v4 0).toNat : Nat) : Int))) && (decide ((((List.getD a0 v4 0).toNat : Nat) : Int) ≤ (90 : Int)))))) && (!((decide ((48 : Int) ≤ (((List.getD a0 v4 0).toNat : Nat) : Int))) && (decide ((((List.getD a0 v4 0).toNat : Nat) : Int) ≤ (57 : Int)))))) && ((((List.getD a0 v4 0).toNat : Nat) : Int) != (45 : Int)) then
      some false
    else
      chk (nI (v4 + 1)) <|
      back (v4 + 1)
  else
    k1 ()
def q39k (n : Nat) (a0 : Str) : Option Bool :=
  chk (!(!((decide (a0.length = 0)) || (decide (12 < a0.length)))) || decide (0 < a0.length)) <|
  (gcall (!((decide (a0.length = 0)) || (decide (12 < a0.length)))) (agraffebase_isLetter n (((List.getD a0 0 0).toNat : Nat) : Int))).bind fun y1 =>
  bif ((decide (a0.length = 0)) || (decide (12 < a0.length))) || (!(((decide ((97 : Int) ≤ (((List.getD a0 0 0).toNat : Nat) : Int))) && (decide ((((List.getD a0 0 0).toNat : Nat) : Int) ≤ (122 : Int)))) || ((decide ((65 : Int) ≤ (((List.getD a0 0 0).toNat : Nat) : Int))) && (decide ((((List.getD a0 0 0).toNat : Nat) : Int) ≤ (90 : Int)))))) then
    some false
  else
    withK (fun (_ : Unit) =>
        some true) fun k1 =>
    loopN (agraffebase_IsName_L1 n a0 k1) n 0
def agrafferef08_Find_L1 (a0 : List Task) (a1 : Str) (k1 : (Unit → Option Int)) (back : Nat → Option Int) : Nat → Option Int
  | v1 =>
  bif decide (v1 < a0.length) then
    bif (((ix a0 v1).Name) == a1) then
      some ((v1 : Nat) : Int)
    else
      chk (nI (v1 + 1)) <|
      back (v1 + 1)
  else
    k1 ()
def q52k (n : Nat) (a0 : List Task) (a1 : Str) : Option Int :=
  withK (fun (_ : Unit) =>
      some (-1)) fun k1 =>
  loopN (agrafferef08_Find_L1 a0 a1 k1) n 0
def q29k (n : Nat) (a0 : Int) (a1 : Int) (a2 : Int) : Option Unit :=
  some ()
def agraffebase_HasText_L1 (a0 : List Str) (a1 : Str) (k1 : (Unit → Option Bool)) (back : Nat → Option Bool) : Nat → Option Bool
  | v1 =>
  bif decide (v1 < a0.length) then
    bif ((ix a0 v1) == a1) then
      some true
    else
      chk (nI (v1 + 1)) <|
      back (v1 + 1)
  else
    k1 ()
def q58k (n : Nat) (a0 : List Str) (a1 : Str) : Option Bool :=
  withK (fun (_ : Unit) =>
      some false) fun k1 =>
  loopN (agraffebase_HasText_L1 a0 a1 k1) n 0
def agrafferef08_tasks_L1 (n : Nat) (a0 : List Task) (a1 : List Str) (k1 : (Unit → Option Int)) (back : Nat → Option Int) : Nat → Option Int
  | v3 =>
  bif decide (v3 < a1.length) then
    (q52k n a0 (ix a1 v3)).bind fun y4 =>
    bif decide (y4 < (0 : Int)) then
      some 6
    else
      chk (decide (v3 ≤ a1.length)) <|
      (q58k n (List.take v3 a1) (ix a1 v3)).bind fun y5 =>
      bif y5 then
        some 5
      else
        chk (nI (v3 + 1)) <|
        back (v3 + 1)
  else
    k1 ()
def agrafferef08_tasks (n : Nat) (a0 : List Task) (a1 : List Str) : Option Int :=
  withK (fun (_ : Unit) =>
      some 0) fun k1 =>
  loopN (agrafferef08_tasks_L1 n a0 a1 k1) n 0
def agrafferef08_FindPart_L1 (a0 : List PartCount) (a1 : Str) (k1 : (Unit → Option Int)) (back : Nat → Option Int) : Nat → Option Int
  | v1 =>
  bif decide (v1 < a0.length) then
    bif (((ix a0 v1).Part) == a1) then
      some ((v1 : Nat) : Int)
    else
      chk (nI (v1 + 1)) <|
      back (v1 + 1)
  else
    k1 ()
def agrafferef08_FindPart (n : Nat) (a0 : List PartCount) (a1 : Str) : Option Int :=
  withK (fun (_ : Unit) =>
      some (-1)) fun k1 =>
  loopN (agrafferef08_FindPart_L1 a0 a1 k1) n 0
def agrafferef08_counts_L1 (n : Nat) (a0 : List PartCount) (a1 : Int) (k1 : (Unit → Option Int)) (back : Nat → Option Int) : Nat → Option Int
  | v4 =>
  bif decide (v4 < a0.length) then
    (q39k n ((ix a0 v4).Part)).bind fun y5 =>
    bif !y5 then
      some 4
    else
      chk (decide (v4 ≤ a0.length)) <|
      (agrafferef08_FindPart n (List.take v4 a0) ((ix a0 v4).Part)).bind fun y6 =>
      bif decide ((0 : Int) ≤ y6) then
        some 5
      else
        (q29k n ((ix a0 v4).Count) 1 a1).bind fun y7 =>
        bif !((decide (1 ≤ ((ix a0 v4).Count))) && (decide (((ix a0 v4).Count) ≤ a1))) then
          some 2
        else
          chk (nI (v4 + 1)) <|
          back (v4 + 1)
  else
    k1 ()
def agrafferef08_counts (n : Nat) (a0 : List PartCount) (a1 : Int) : Option Int :=
  withK (fun (_ : Unit) =>
      some 0) fun k1 =>
  loopN (agrafferef08_counts_L1 n a0 a1 k1) n 0
def agrafferef08_task_L2 (n : Nat) (a0 : List Task) (a1 : Int) (k2 : (Unit → Option Int)) (back : Nat → Option Int) : Nat → Option Int
  | v10 =>
  bif decide (v10 < (((ix a0 a1.toNat).OneOf).length)) then
    chk (decide (v10 < ((ix a0 a1.toNat).OneOf).length)) <|
    bif decide (((ix ((ix a0 a1.toNat).OneOf) v10).length) = 0) then
      some 10
    else
      (agrafferef08_tasks n a0 (ix ((ix a0 a1.toNat).OneOf) v10)).bind fun y11 =>
      bif (y11 != (0 : Int)) then
        some y11
      else
        chk (nI (v10 + 1)) <|
        back (v10 + 1)
  else
    k2 ()
def agrafferef08_task_L1 (a0 : List Task) (a1 : Int) (k1 : (Bool → Option Int)) (back : Bool × Nat → Option Int) : Bool × Nat → Option Int
  | (v5,v6) =>
  bif decide (v6 < (((ix a0 a1.toNat).OneOf).length)) then
    chk (!(!v5) || decide (v6 < ((ix a0 a1.toNat).OneOf).length)) <|
    chk (!(!v5) || decide (v6 < ((ix a0 a1.toNat).OneOf).length)) <|
    chk (nI (v6 + 1)) <|
    back (v5 || (decide (6 < ((ix ((ix a0 a1.toNat).OneOf) v6).length))),v6 + 1)
  else
    k1 v5
def agrafferef08_task (n : Nat) (a0 : List Task) (a1 : Int) : Option Int :=
  chk (inB a1 a0.length) <|
  chk (decide (a1.toNat < a0.length)) <|
  (q39k n ((ix a0 a1.toNat).Name)).bind fun y1 =>
  bif !y1 then
    some 4
  else
    chk (inC a1 a0.length) <|
    (q52k n (List.take a1.toNat a0) ((ix a0 a1.toNat).Name)).bind fun y2 =>
    bif decide ((0 : Int) ≤ y2) then
      some 5
    else
      (q29k n ((ix a0 a1.toNat).Cents) 0 1000000000).bind fun y3 =>
      (gcall (!(!((decide (0 ≤ ((ix a0 a1.toNat).Cents))) && (decide (((ix a0 a1.toNat).Cents) ≤ 1000000000))))) (q29k n ((ix a0 a1.toNat).Hours) 0 10000)).bind fun y4 =>
      bif (!((decide (0 ≤ ((ix a0 a1.toNat).Cents))) && (decide (((ix a0 a1.toNat).Cents) ≤ 1000000000)))) || (!((decide (0 ≤ ((ix a0 a1.toNat).Hours))) && (decide (((ix a0 a1.toNat).Hours) ≤ 10000)))) then
        some 2
      else
        withK (fun (v7 : Bool) =>
            bif v7 then
              some 8
            else
              (agrafferef08_tasks n a0 ((ix a0 a1.toNat).Needs)).bind fun y8 =>
              bif (y8 != (0 : Int)) then
                some y8
              else
                withK (fun (_ : Unit) =>
                    (agrafferef08_counts n ((ix a0 a1.toNat).Parts) 1000).bind fun y12 =>
                    some y12) fun k2 =>
                loopN (agrafferef08_task_L2 n a0 a1 k2) n 0) fun k1 =>
        loopN (agrafferef08_task_L1 a0 a1 k1) n (((decide (10 < (((ix a0 a1.toNat).Needs).length))) || (decide (6 < (((ix a0 a1.toNat).OneOf).length)))) || (decide (10 < (((ix a0 a1.toNat).Parts).length))),0)
def agrafferef08_Leads_L1 (a0 : Task) (k1 : ((List Str) → Option (List Str))) (back : Nat × (List Str) → Option (List Str)) : Nat × (List Str) → Option (List Str)
  | (v2,v3) =>
  bif decide (v2 < a0.OneOf.length) then
    chk (room 16 (v3 ++ (ix a0.OneOf v2)).length) <|
    chk (nI (v2 + 1)) <|
    back (v2 + 1,(v3 ++ (ix a0.OneOf v2)))
  else
    k1 v3
def agrafferef08_Leads (n : Nat) (a0 : Task) : Option (List Str) :=
  (agraffebase_CopyTexts_2 n a0.Needs).bind fun y1 =>
  withK (fun (v4 : (List Str)) =>
      some v4) fun k1 =>
  loopN (agrafferef08_Leads_L1 a0 k1) n (0,a0.Needs)
def agraffebase_HasText_2_L1 (a0 : List Str) (a1 : Str) (k1 : (Unit → Option Bool)) (back : Nat → Option Bool) : Nat → Option Bool
  | v1 =>
  bif decide (v1 < a0.length) then
    bif ((ix a0 v1) == a1) then
      some true
    else
      chk (nI (v1 + 1)) <|
      back (v1 + 1)
  else
    k1 ()
def agraffebase_HasText_2 (n : Nat) (a0 : List Str) (a1 : Str) : Option Bool :=
  withK (fun (_ : Unit) =>
      some false) fun k1 =>
  loopN (agraffebase_HasText_2_L1 a0 a1 k1) n 0
def agrafferef08_Order_L1 (n : Nat) (a1 : List Str) (v26 : List Str) (y42 : (List Str)) (k1 : (Bool → Option (List Str))) (back : Bool × Nat → Option (List Str)) : Bool × Nat → Option (List Str)
  | (v45,v46) =>
  bif decide (v46 < y42.length) then
    (gcall v45 (q58k n a1 (ix y42 v46))).bind fun y47 =>
    (gcall (v45 && !(!y47)) (agraffebase_HasText_2 n v26 (ix y42 v46))).bind fun y48 =>
    chk (nI (v46 + 1)) <|
    back (v45 && ((!y47) || y48),v46 + 1)
  else
    k1 v45
def agrafferef08_Order_L2 (n : Nat) (a0 : List Task) (a1 : List Str) (v26 : List Str) (k3 : (Int → Option (List Str))) (back : Int × Nat → Option (List Str)) : Int × Nat → Option (List Str)
  | (v38,v39) =>
  bif (decide (v39 < a0.length)) && (decide (v38 < (0 : Int))) then
    withK (fun (v50 : Int) =>
        chk (nI (v39 + 1)) <|
        back (v50,v39 + 1)) fun k2 =>
    chk (decide (v39 < a0.length)) <|
    (q58k n a1 ((ix a0 v39).Name)).bind fun y40 =>
    (gcall (!(!y40)) (agraffebase_HasText_2 n v26 ((ix a0 v39).Name))).bind fun y41 =>
    bif (!y40) || y41 then
      k2 v38
    else
      (agrafferef08_Leads n (ix a0 v39)).bind fun y42 =>
      withK (fun (v49 : Bool) =>
          bif v49 then
            k2 ((v39 : Nat) : Int)
          else
            k2 v38) fun k1 =>
      loopN (agrafferef08_Order_L1 n a1 v26 y42 k1) n (true,0)
  else
    k3 v38
def agrafferef08_Order_L3 (n : Nat) (a0 : List Task) (a1 : List Str) (back : (List Str) → Option (List Str)) : (List Str) → Option (List Str)
  | v26 =>
  withK (fun (v51 : Int) =>
      bif decide (v51 < (0 : Int)) then
        some v26
      else
        chk (inB v51 a0.length) <|
        chk (decide (v51.toNat < a0.length)) <|
        chk (room 16 (v26 ++ ([(ix a0 v51.toNat).Name] : List Str)).length) <|
        back (v26 ++ ([(ix a0 v51.toNat).Name] : List Str))) fun k3 =>
  loopN (agrafferef08_Order_L2 n a0 a1 v26 k3) n ((-1),0)
def agrafferef08_Order (n : Nat) (a0 : List Task) (a1 : List Str) : Option (List Str) :=
  loopN (agrafferef08_Order_L3 n a0 a1) n ([] : List Str)
def q50k (a0 : List Task) (k2 : ((List Str) → Option Int)) (back : (List Str) × Nat → Option Int) : (List Str) × Nat → Option Int
  | (v4,v5) =>
  bif decide (v5 < a0.length) then
    chk (room 16 (v4 ++ ([(ix a0 v5).Name] : List Str)).length) <|
    chk (nI (v5 + 1)) <|
    back ((v4 ++ ([(ix a0 v5).Name] : List Str)),v5 + 1)
  else
    k2 v4
def q21k (n : Nat) (a0 : List Task) (k1 : (Unit → Option Int)) (back : Nat → Option Int) : Nat → Option Int
  | v2 =>
  bif decide (v2 < a0.length) then
    (agrafferef08_task n a0 ((v2 : Nat) : Int)).bind fun y3 =>
    bif (y3 != (0 : Int)) then
      some y3
    else
      chk (nI (v2 + 1)) <|
      back (v2 + 1)
  else
    k1 ()
def agrafferef08_CheckTasks (n : Nat) (a0 : List Task) : Option Int :=
  bif decide (60 < a0.length) then
    some 8
  else
    withK (fun (_ : Unit) =>
        withK (fun (v6 : (List Str)) =>
            (agrafferef08_Order n a0 v6).bind fun y7 =>
            bif decide (y7.length < a0.length) then
              some 21
            else
              some 0) fun k2 =>
        loopN (q50k a0 k2) n (([] : List Str),0)) fun k1 =>
    loopN (q21k n a0 k1) n 0
def restore_stocked_f1 (n : Nat) (a0 : Stocked) (a1 : Str) : Option Unit :=
  some ()
def slices_IndexFunc_Stocked_L1 (n : Nat) (a0 : List Stocked) (a1 : Str) (k1 : (Unit → Option Int)) (back : Nat → Option Int) : Nat → Option Int
  | v2 =>
  bif decide (v2 < a0.length) then
    (restore_stocked_f1 n (ix a0 v2) a1).bind fun y3 =>
    bif ((ix a0 v2).Part == a1) then
      some ((v2 : Nat) : Int)
    else
      chk (nI (v2 + 1)) <|
      back (v2 + 1)
  else
    k1 ()
def slices_IndexFunc_Stocked (n : Nat) (a0 : List Stocked) (a1 : Str) : Option Int :=
  withK (fun (_ : Unit) =>
      some (-1)) fun k1 =>
  loopN (slices_IndexFunc_Stocked_L1 n a0 a1 k1) n 0
def restore_stocked (n : Nat) (a0 : List Stocked) (a1 : Str) : Option Int :=
  (slices_IndexFunc_Stocked n a0 a1).bind fun y1 =>
  some y1
def restore_CheckStock_L1 (n : Nat) (a0 : List Stocked) (k1 : (Unit → Option Int)) (back : Nat → Option Int) : Nat → Option Int
  | v5 =>
  bif decide (v5 < a0.length) then
    (restore_isName n ((ix a0 v5).Part)).bind fun y6 =>
    bif !y6 then
      some 4
    else
      chk (decide (v5 ≤ a0.length)) <|
      (restore_stocked n (List.take v5 a0) ((ix a0 v5).Part)).bind fun y7 =>
      bif decide ((0 : Int) ≤ y7) then
        some 5
      else
        (q53k n ((ix a0 v5).Cents) 0 1000000000).bind fun y8 =>
        (gcall (!(!((decide (0 ≤ ((ix a0 v5).Cents))) && (decide (((ix a0 v5).Cents) ≤ 1000000000))))) (q53k n ((ix a0 v5).Count) 0 10000)).bind fun y9 =>
        bif (!((decide (0 ≤ ((ix a0 v5).Cents))) && (decide (((ix a0 v5).Cents) ≤ 1000000000)))) || (!((decide (0 ≤ ((ix a0 v5).Count))) && (decide (((ix a0 v5).Count) ≤ 10000)))) then
          some 2
        else
          chk (nI (v5 + 1)) <|
          back (v5 + 1)
  else
    k1 ()
def restore_CheckStock (n : Nat) (a0 : List Stocked) : Option Int :=
  bif decide (60 < a0.length) then
    some 8
  else
    withK (fun (_ : Unit) =>
        some 0) fun k1 =>
    loopN (restore_CheckStock_L1 n a0 k1) n 0
def agrafferef08_FindStock_L1 (a0 : List Stocked) (a1 : Str) (k1 : (Unit → Option Int)) (back : Nat → Option Int) : Nat → Option Int
  | v1 =>
  bif decide (v1 < a0.length) then
    bif (((ix a0 v1).Part) == a1) then
      some ((v1 : Nat) : Int)
    else
      chk (nI (v1 + 1)) <|
      back (v1 + 1)
  else
    k1 ()
def q45k (n : Nat) (a0 : List Stocked) (a1 : Str) : Option Int :=
  withK (fun (_ : Unit) =>
      some (-1)) fun k1 =>
  loopN (agrafferef08_FindStock_L1 a0 a1 k1) n 0
def agrafferef08_CheckStock_L1 (n : Nat) (a0 : List Stocked) (k1 : (Unit → Option Int)) (back : Nat → Option Int) : Nat → Option Int
  | v5 =>
  bif decide (v5 < a0.length) then
    (q39k n ((ix a0 v5).Part)).bind fun y6 =>
    bif !y6 then
      some 4
    else
      chk (decide (v5 ≤ a0.length)) <|
      (q45k n (List.take v5 a0) ((ix a0 v5).Part)).bind fun y7 =>
      bif decide ((0 : Int) ≤ y7) then
        some 5
      else
        (q29k n ((ix a0 v5).Cents) 0 1000000000).bind fun y8 =>
        (gcall (!(!((decide (0 ≤ ((ix a0 v5).Cents))) && (decide (((ix a0 v5).Cents) ≤ 1000000000))))) (q29k n ((ix a0 v5).Count) 0 10000)).bind fun y9 =>
        bif (!((decide (0 ≤ ((ix a0 v5).Cents))) && (decide (((ix a0 v5).Cents) ≤ 1000000000)))) || (!((decide (0 ≤ ((ix a0 v5).Count))) && (decide (((ix a0 v5).Count) ≤ 10000)))) then
          some 2
        else
          chk (nI (v5 + 1)) <|
          back (v5 + 1)
  else
    k1 ()
def agrafferef08_CheckStock (n : Nat) (a0 : List Stocked) : Option Int :=
  bif decide (60 < a0.length) then
    some 8
  else
    withK (fun (_ : Unit) =>
        some 0) fun k1 =>
    loopN (agrafferef08_CheckStock_L1 n a0 k1) n 0
def restore_list_checkSet_L2 (a1 : List Str) (k2 : (Unit → Option Int)) (back : Nat → Option Int) : Nat → Option Int
  | v4 =>
  bif decide (v4 < a1.length) then
    chk (inI (((v4 : Nat) : Int) - 1)) <|
    chk (inB (((v4 : Nat) : Int) - 1) a1.length) <|
    chk (decide ((((v4 : Nat) : Int) - 1).toNat < a1.length)) <|
    bif (bLt (ix a1 v4) (ix a1 ((((v4 : Nat) : Int) - 1).toNat)) || ((ix a1 v4) == (ix a1 ((((v4 : Nat) : Int) - 1).toNat)))) then
      some 9
    else
      chk (nI (v4 + 1)) <|
      back (v4 + 1)
  else
    k2 ()
def restore_list_checkSet_L1 (n : Nat) (a0 : List Task) (a1 : List Str) (k1 : (Unit → Option Int)) (back : Nat → Option Int) : Nat → Option Int
  | v2 =>
  bif decide (v2 < a1.length) then
    (restore_list_find n a0 (ix a1 v2)).bind fun y3 =>
    bif decide (y3 < (0 : Int)) then
      some 6
    else
      chk (nI (v2 + 1)) <|
      back (v2 + 1)
  else
    k1 ()
def restore_list_checkSet (n : Nat) (a0 : List Task) (a1 : List Str) : Option Int :=
  withK (fun (_ : Unit) =>
      withK (fun (_ : Unit) =>
          some 0) fun k2 =>
      loopN (restore_list_checkSet_L2 a1 k2) n 1) fun k1 =>
  loopN (restore_list_checkSet_L1 n a0 a1 k1) n 0
def restore_checkSets_L1 (n : Nat) (a0 : List Task) (a1 : List (List Str)) (k1 : (Unit → Option Int)) (back : Nat → Option Int) : Nat → Option Int
  | v3 =>
  bif decide (v3 < a1.length) then
    (restore_list_checkSet n a0 (ix a1 v3)).bind fun y4 =>
    bif (y4 != (0 : Int)) then
      some y4
    else
      chk (nI (v3 + 1)) <|
      back (v3 + 1)
  else
    k1 ()
def restore_checkSets (n : Nat) (a0 : List Task) (a1 : List (List Str)) : Option Int :=
  (restore_CheckTasks n a0).bind fun y1 =>
  bif (y1 != (0 : Int)) then
    some y1
  else
    withK (fun (_ : Unit) =>
        some 0) fun k1 =>
    loopN (restore_checkSets_L1 n a0 a1 k1) n 0
def agrafferef08_CheckSet_L2 (a1 : List Str) (k2 : (Unit → Option Int)) (back : Nat → Option Int) : Nat → Option Int
  | v4 =>
  bif decide (v4 < a1.length) then
    chk (inI (((v4 : Nat) : Int) - 1)) <|
    chk (inB (((v4 : Nat) : Int) - 1) a1.length) <|
    chk (decide ((((v4 : Nat) : Int) - 1).toNat < a1.length)) <|
    bif !bLt (ix a1 ((((v4 : Nat) : Int) - 1).toNat)) (ix a1 v4) then
      some 9
    else
      chk (nI (v4 + 1)) <|
      back (v4 + 1)
  else
    k2 ()
def agrafferef08_CheckSet_L1 (n : Nat) (a0 : List Task) (a1 : List Str) (k1 : (Unit → Option Int)) (back : Nat → Option Int) : Nat → Option Int
  | v2 =>
  bif decide (v2 < a1.length) then
    (q52k n a0 (ix a1 v2)).bind fun y3 =>
    bif decide (y3 < (0 : Int)) then
      some 6
    else
      chk (nI (v2 + 1)) <|
      back (v2 + 1)
  else
    k1 ()
def agrafferef08_CheckSet (n : Nat) (a0 : List Task) (a1 : List Str) : Option Int :=
  withK (fun (_ : Unit) =>
      withK (fun (_ : Unit) =>
          some 0) fun k2 =>
      loopN (agrafferef08_CheckSet_L2 a1 k2) n 1) fun k1 =>
  loopN (agrafferef08_CheckSet_L1 n a0 a1 k1) n 0
def q47k (a0 : List Str) (a1 : Str) (k2 : (Bool × (List Str) → Option (List Str))) (back : (List Str) × Bool × Nat → Option (List Str)) : (List Str) × Bool × Nat → Option (List Str)
  | (v3,v4,v5) =>
  bif decide (v5 < a0.length) then
    withK (fun (v6,v7) =>
        chk (room 16 (v6 ++ ([(ix a0 v5)] : List Str)).length) <|
        chk (nI (v5 + 1)) <|
        back ((v6 ++ ([(ix a0 v5)] : List Str)),v7,v5 + 1)) fun k1 =>
    bif (!v4) && (!bLt (ix a0 v5) a1) then
      bif !((ix a0 v5) == a1) then
        chk (room 16 (v3 ++ ([a1] : List Str)).length) <|
        k1 ((v3 ++ ([a1] : List Str)),true)
      else
        k1 (v3,true)
    else
      k1 (v3,v4)
  else
    k2 (v4,v3)
def agrafferef08_Put (n : Nat) (a0 : List Str) (a1 : Str) : Option (List Str) :=
  withK (fun (v8,v9) =>
      withK (fun (v10 : (List Str)) =>
          some v10) fun k3 =>
      bif !v8 then
        chk (room 16 (v9 ++ ([a1] : List Str)).length) <|
        k3 (v9 ++ ([a1] : List Str))
      else
        k3 v9) fun k2 =>
  loopN (q47k a0 a1 k2) n (([] : List Str),false,0)
def math_bits_Len64 (n : Nat) (a0 : Int) : Option Int :=
  withK (fun (v1,v2) =>
      withK (fun (v3,v4) =>
          withK (fun (v5,v6) =>
              chk (inB (IntKind.u8.wrap v5) (([0,1,2,2,3,3,3,3,4,4,4,4,4,4,4,4,5,5,5,5,5,5,5,5,5,5,5,5,5,5,5,5,6,6,6,6,6,6,6,6,6,6,6,6,6,6,6,6,6,6,6,6,6,6,6,6,6,6,6,6,6,6,6,6,7,7,7,7,7,7,7,7,7,7,7,7,7,7,7,7,7,7,7,7,7,7,7,7,7,7,7,7,7,7,7,7,7,7,7,7,7,7,7,7,7,7,7,7,7,7,7,7,7,7,7,7,7,7,7,7,7,7,7,7,7,7,7,7,8,8,8,8,8,8,8,8,8,8,8,8,8,8,8,8,8,8,8,8,8,8,8,8,8,8,8,8,8,8,8,8,8,8,8,8,8,8,8,8,8,8,8,8,8,8,8,8,8,8,8,8,8,8,8,8,8,8,8,8,8,8,8,8,8,8,8,8,8,8,8,8,8,8,8,8,8,8,8,8,8,8,8,8,8,8,8,8,8,8,8,8,8,8,8,8,8,8,8,8,8,8,8,8,8,8,8,8,8,8,8,8,8,8,8,8,8,8,8,8,8,8,8,8,8,8,8,8] : Str).length)) <|
              chk (inI (v6 + (((List.getD ([0,1,2,2,3,3,3,3,4,4,4,4,4,4,4,4,5,5,5,5,5,5,5,5,5,5,5,5,5,5,5,5,6,6,6,6,6,6,6,6,6,6,6,6,6,6,6,6,6,6,6,6,6,6,6,6,6,6,6,6,6,6,6,6,7,7,7,7,7,7,7,7,7,7,7,7,7,7,7,7,7,7,7,7,7,7,7,7,7,7,7,7,7,7,7,7,7,7,7,7,7,7,7,7,7,7,7,7,7,7,7,7,7,7,7,7,7,7,7,7,7,7,7,7,7,7,7,7,8,8,8,8,8,8,8,8,8,8,8,8,8,8,8,8,8,8,8,8,8,8,8,8,8,8,8,8,8,8,8,8,8,8,8,8,8,8,8,8,8,8,8,8,8,8,8,8,8,8,8,8,8,8,8,8,8,8,8,8,8,8,8,8,8,8,8,8,8,8,8,8,8,8,8,8,8,8,8,8,8,8,8,8,8,8,8,8,8,8,8,8,8,8,8,8,8,8,8,8,8,8,8,8,8,8,8,8,8,8,8,8,8,8,8,8,8,8,8,8,8,8,8,8,8,8,8,8] : Str) ((IntKind.u8.wrap v5).toNat) 0).toNat : Nat) : Int))) <|
              some (v6 + (((List.getD ([0,1,2,2,3,3,3,3,4,4,4,4,4,4,4,4,5,5,5,5,5,5,5,5,5,5,5,5,5,5,5,5,6,6,6,6,6,6,6,6,6,6,6,6,6,6,6,6,6,6,6,6,6,6,6,6,6,6,6,6,6,6,6,6,7,7,7,7,7,7,7,7,7,7,7,7,7,7,7,7,7,7,7,7,7,7,7,7,7,7,7,7,7,7,7,7,7,7,7,7,7,7,7,7,7,7,7,7,7,7,7,7,7,7,7,7,7,7,7,7,7,7,7,7,7,7,7,7,8,8,8,8,8,8,8,8,8,8,8,8,8,8,8,8,8,8,8,8,8,8,8,8,8,8,8,8,8,8,8,8,8,8,8,8,8,8,8,8,8,8,8,8,8,8,8,8,8,8,8,8,8,8,8,8,8,8,8,8,8,8,8,8,8,8,8,8,8,8,8,8,8,8,8,8,8,8,8,8,8,8,8,8,8,8,8,8,8,8,8,8,8,8,8,8,8,8,8,8,8,8,8,8,8,8,8,8,8,8,8,8,8,8,8,8,8,8,8,8,8,8,8,8,8,8,8,8] : Str) ((IntKind.u8.wrap v5).toNat) 0).toNat : Nat) : Int))) fun k3 =>
          bif decide ((256 : Int) ≤ v3) then
            chk (inI (v4 + 8)) <|
            k3 (Int.fdiv v3 (2 ^ (min 8 64)),v4 + 8)
          else
            k3 (v3,v4)) fun k2 =>
      bif decide ((65536 : Int) ≤ v1) then
        chk (inI (v2 + 16)) <|
        k2 (Int.fdiv v1 (2 ^ (min 16 64)),v2 + 16)
      else
        k2 (v1,v2)) fun k1 =>
  bif decide ((4294967296 : Int) ≤ a0) then
    k1 (Int.fdiv a0 (2 ^ (min 32 64)),32)
  else
    k1 (a0,0)
def math_bits_Len (n : Nat) (a0 : Int) : Option Int :=
  (math_bits_Len64 n a0).bind fun y1 =>
  some y1
def cmp_isNaN_string (n : Nat) (a0 : Str) : Option Unit :=
  some ()
def cmp_Compare_string (n : Nat) (a0 : Str) (a1 : Str) : Option Int :=
  (cmp_isNaN_string n a0).bind fun y1 =>
  (cmp_isNaN_string n a1).bind fun y2 =>
  bif !(a0 == a0) then
    bif !(a1 == a1) then
      some 0
    else
      some (-1)
  else
    bif !(a1 == a1) then
      some 1
    else
      bif bLt a0 a1 then
        some (-1)
      else
        bif !(bLt a0 a1 || (a0 == a1)) then
          some 1
        else
          some 0
def q4k (n : Nat) (a0 : PartCount) (a1 : PartCount) : Option Int :=
  (cmp_Compare_string n a0.Part a1.Part).bind fun y1 =>
  some y1
def q17k (n : Nat) (a1 : Int) (k1 : ((List PartCount) → Option (List PartCount))) (back : Int × (List PartCount) → Option (List PartCount)) : Int × (List PartCount) → Option (List PartCount)
  | (v9,v10) =>
  chk (!(decide (a1 < v9)) || inB v9 v10.length) <|
  chk (!(decide (a1 < v9)) || decide (v9.toNat < v10.length)) <|
  chk (!(decide (a1 < v9)) || inI (v9 - 1)) <|
  chk (!(decide (a1 < v9)) || inB (v9 - 1) v10.length) <|
  chk (!(decide (a1 < v9)) || decide ((v9 - 1).toNat < v10.length)) <|
  (gcall (decide (a1 < v9)) (q4k n (ix v10 v9.toNat) (ix v10 ((v9 - 1).toNat)))).bind fun y11 =>
  bif (decide (a1 < v9)) && (decide (y11 < (0 : Int))) then
    chk (inI (v9 - 1)) <|
    chk (inB (v9 - 1) v10.length) <|
    chk (decide ((v9 - 1).toNat < v10.length)) <|
    chk (inB v9 v10.length) <|
    chk (decide (v9.toNat < v10.length)) <|
    chk (decide ((v9 - 1).toNat < (List.set v10 v9.toNat (ix v10 ((v9 - 1).toNat))).length)) <|
    back (v9 - 1,(List.set (List.set v10 v9.toNat (ix v10 ((v9 - 1).toNat))) ((v9 - 1).toNat) (ix v10 v9.toNat)))
  else
    k1 v10
def q7k (n : Nat) (a1 : Int) (a2 : Int) (back : Int × (List PartCount) → Option (List PartCount)) : Int × (List PartCount) → Option (List PartCount)
  | (v6,v7) =>
  bif decide (v6 < a2) then
    withK (fun (v12 : (List PartCount)) =>
        chk (inI (v6 + 1)) <|
        back (v6 + 1,v12)) fun k1 =>
    loopN (q17k n a1 k1) n (v6,v7)
  else
    some v7
def q13k (n : Nat) (a0 : List PartCount) (a1 : Int) (a2 : Int) : Option (List PartCount) :=
  chk (inI (a1 + 1)) <|
  loopN (q7k n a1 a2) n (a1 + 1,a0)
def q16k (n : Nat) (a2 : Int) (a3 : Int) (back : Int × (List PartCount) → Option (List PartCount)) : Int × (List PartCount) → Option (List PartCount)
  | (v4,v5) =>
  chk (inI (2 * v4)) <|
  chk (inI ((2 * v4) + 1)) <|
  bif decide (a2 ≤ ((2 * v4) + 1)) then
    some v5
  else
    withK (fun (v7 : Int) =>
        chk (inI (a3 + v4)) <|
        chk (inB (a3 + v4) v5.length) <|
        chk (decide ((a3 + v4).toNat < v5.length)) <|
        chk (inI (a3 + v7)) <|
        chk (inB (a3 + v7) v5.length) <|
        chk (decide ((a3 + v7).toNat < v5.length)) <|
        (q4k n (ix v5 ((a3 + v4).toNat)) (ix v5 ((a3 + v7).toNat))).bind fun y8 =>
        bif !(decide (y8 < (0 : Int))) then
          some v5
        else
          chk (decide ((a3 + v7).toNat < (List.set v5 ((a3 + v4).toNat) (ix v5 ((a3 + v7).toNat))).length)) <|
          back (v7,(List.set (List.set v5 ((a3 + v4).toNat) (ix v5 ((a3 + v7).toNat))) ((a3 + v7).toNat) (ix v5 ((a3 + v4).toNat))))) fun k1 =>
    chk (inI (((2 * v4) + 1) + 1)) <|
    chk (!(decide ((((2 * v4) + 1) + 1) < a2)) || inI (a3 + ((2 * v4) + 1))) <|
    chk (!(decide ((((2 * v4) + 1) + 1) < a2)) || inB (a3 + ((2 * v4) + 1)) v5.length) <|
    chk (!(decide ((((2 * v4) + 1) + 1) < a2)) || decide ((a3 + ((2 * v4) + 1)).toNat < v5.length)) <|
    chk (!(decide ((((2 * v4) + 1) + 1) < a2)) || inI (a3 + ((2 * v4) + 1))) <|
    chk (!(decide ((((2 * v4) + 1) + 1) < a2)) || inI ((a3 + ((2 * v4) + 1)) + 1)) <|
    chk (!(decide ((((2 * v4) + 1) + 1) < a2)) || inB ((a3 + ((2 * v4) + 1)) + 1) v5.length) <|
    chk (!(decide ((((2 * v4) + 1) + 1) < a2)) || decide (((a3 + ((2 * v4) + 1)) + 1).toNat < v5.length)) <|
    (gcall (decide ((((2 * v4) + 1) + 1) < a2)) (q4k n (ix v5 ((a3 + ((2 * v4) + 1)).toNat)) (ix v5 (((a3 + ((2 * v4) + 1)) + 1).toNat)))).bind fun y6 =>
    bif (decide ((((2 * v4) + 1) + 1) < a2)) && (decide (y6 < (0 : Int))) then
      k1 (((2 * v4) + 1) + 1)
    else
      k1 ((2 * v4) + 1)
def q8k (n : Nat) (a0 : List PartCount) (a1 : Int) (a2 : Int) (a3 : Int) : Option (List PartCount) :=
  loopN (q16k n a2 a3) n (a1,a0)
def q15k (n : Nat) (a1 : Int) (back : Int × (List PartCount) → Option (List PartCount)) : Int × (List PartCount) → Option (List PartCount)
  | (v7,v8) =>
  bif decide ((0 : Int) ≤ v7) then
    chk (inI (a1 + v7)) <|
    chk (inB (a1 + v7) v8.length) <|
    chk (decide ((a1 + v7).toNat < v8.length)) <|
    chk (inB a1 v8.length) <|
    chk (decide (a1.toNat < v8.length)) <|
    chk (decide ((a1 + v7).toNat < (List.set v8 a1.toNat (ix v8 ((a1 + v7).toNat))).length)) <|
    (q8k n (List.set (List.set v8 a1.toNat (ix v8 ((a1 + v7).toNat))) ((a1 + v7).toNat) (ix v8 a1.toNat)) 0 v7 a1).bind fun y9 =>
    chk (decide (v8.length = y9.length)) <|
    chk (inI (v7 - 1)) <|
    back (v7 - 1,y9)
  else
    some v8
def q38k (n : Nat) (a1 : Int) (a2 : Int) (k1 : ((List PartCount) → Option (List PartCount))) (back : Int × (List PartCount) → Option (List PartCount)) : Int × (List PartCount) → Option (List PartCount)
  | (v2,v3) =>
  bif decide ((0 : Int) ≤ v2) then
    (q8k n v3 v2 (a2 - a1) a1).bind fun y4 =>
    chk (decide (v3.length = y4.length)) <|
    chk (inI (v2 - 1)) <|
    back (v2 - 1,y4)
  else
    k1 v3
def q34k (n : Nat) (a0 : List PartCount) (a1 : Int) (a2 : Int) : Option (List PartCount) :=
  chk (inI (a2 - a1)) <|
  withK (fun (v5 : (List PartCount)) =>
      chk (inI ((a2 - a1) - 1)) <|
      loopN (q15k n a1) n ((a2 - a1) - 1,v5)) fun k1 =>
  chk (inI ((a2 - a1) - 1)) <|
  chk ((2 != 0 && inI (Int.tdiv ((a2 - a1) - 1) 2))) <|
  loopN (q38k n a1 a2 k1) n (Int.tdiv ((a2 - a1) - 1) 2,a0)
def q19k (n : Nat) (a0 : List PartCount) (a1 : Int) (a2 : Int) (a3 : Int) : Option (Int × Int × Int) :=
  chk (inB a2 a0.length) <|
  chk (decide (a2.toNat < a0.length)) <|
  chk (inB a1 a0.length) <|
  chk (decide (a1.toNat < a0.length)) <|
  (q4k n (ix a0 a2.toNat) (ix a0 a1.toNat)).bind fun y1 =>
  bif decide (y1 < (0 : Int)) then
    chk (inI (a3 + 1)) <|
    some (a2,a1,a3 + 1)
  else
    some (a1,a2,a3)
def q30k (n : Nat) (a0 : List PartCount) (a1 : Int) (a2 : Int) (a3 : Int) (a4 : Int) : Option (Int × Int) :=
  (q19k n a0 a1 a2 a4).bind fun y1 =>
  (q19k n a0 y1.2.1 a3 y1.2.2).bind fun y2 =>
  (q19k n a0 y1.1 y2.1 y2.2.2).bind fun y3 =>
  some (y3.2.1,y3.2.2)
def q5k (n : Nat) (a0 : List PartCount) (a1 : Int) (a2 : Int) : Option (Int × Int) :=
  chk (inI (a1 - 1)) <|
  chk (inI (a1 + 1)) <|
  (q30k n a0 (a1 - 1) a1 (a1 + 1) a2).bind fun y1 =>
  some (y1.1,y1.2)
def q25k (n : Nat) (a0 : List PartCount) (a1 : Int) (a2 : Int) : Option (Int × Int) :=
  chk (inI (a2 - a1)) <|
  chk ((4 != 0 && inI (Int.tdiv (a2 - a1) 4))) <|
  chk (inI ((Int.tdiv (a2 - a1) 4) * 1)) <|
  chk (inI (a1 + ((Int.tdiv (a2 - a1) 4) * 1))) <|
  chk (inI ((Int.tdiv (a2 - a1) 4) * 2)) <|
  chk (inI (a1 + ((Int.tdiv (a2 - a1) 4) * 2))) <|
  chk (inI ((Int.tdiv (a2 - a1) 4) * 3)) <|
  chk (inI (a1 + ((Int.tdiv (a2 - a1) 4) * 3))) <|
  withK (fun (v9,v10) =>
      bif (v10 == (0 : Int)) then
        some (v9,1)
      else
        bif (v10 == (12 : Int)) then
          some (v9,2)
        else
          some (v9,0)) fun k2 =>
  bif decide ((8 : Int) ≤ (a2 - a1)) then
    withK (fun (v4,v5,v6,v7) =>
        (q30k n a0 v4 v5 v6 v7).bind fun y8 =>
        k2 (y8.1,y8.2)) fun k1 =>
    bif decide ((50 : Int) ≤ (a2 - a1)) then
      (q5k n a0 (a1 + ((Int.tdiv (a2 - a1) 4) * 1)) 0).bind fun y1 =>
      (q5k n a0 (a1 + ((Int.tdiv (a2 - a1) 4) * 2)) y1.2).bind fun y2 =>
      (q5k n a0 (a1 + ((Int.tdiv (a2 - a1) 4) * 3)) y2.2).bind fun y3 =>
      k1 (y1.1,y2.1,y3.1,y3.2)
    else
      k1 (a1 + ((Int.tdiv (a2 - a1) 4) * 1),a1 + ((Int.tdiv (a2 - a1) 4) * 2),a1 + ((Int.tdiv (a2 - a1) 4) * 3),0)
  else
    k2 (a1 + ((Int.tdiv (a2 - a1) 4) * 2),0)
def q32k  (back : Int × Int × (List PartCount) → Option (List PartCount)) : Int × Int × (List PartCount) → Option (List PartCount)
  | (v1,v2,v3) =>
  bif decide (v1 < v2) then
    chk (inB v2 v3.length) <|
    chk (decide (v2.toNat < v3.length)) <|
    chk (inB v1 v3.length) <|
    chk (decide (v1.toNat < v3.length)) <|
    chk (decide (v2.toNat < (List.set v3 v1.toNat (ix v3 v2.toNat)).length)) <|
    chk (inI (v1 + 1)) <|
    chk (inI (v2 - 1)) <|
    back (v1 + 1,v2 - 1,(List.set (List.set v3 v1.toNat (ix v3 v2.toNat)) v2.toNat (ix v3 v1.toNat)))
  else
    some v3
def q24k (n : Nat) (a0 : List PartCount) (a1 : Int) (a2 : Int) : Option (List PartCount) :=
  chk (inI (a2 - 1)) <|
  loopN (q32k) n (a1,a2 - 1,a0)
def q2k (n : Nat) (a2 : Int) (v22 : Int) (k3 : (Int × (List PartCount) → Option ((List PartCount) × Bool))) (back : Int × (List PartCount) → Option ((List PartCount) × Bool)) : Int × (List PartCount) → Option ((List PartCount) × Bool)
  | (v29,v30) =>
  bif decide (v29 < a2) then
    chk (inB v29 v30.length) <|
    chk (decide (v29.toNat < v30.length)) <|
    chk (inI (v29 - 1)) <|
    chk (inB (v29 - 1) v30.length) <|
    chk (decide ((v29 - 1).toNat < v30.length)) <|
    (q4k n (ix v30 v29.toNat) (ix v30 ((v29 - 1).toNat))).bind fun y31 =>
    bif !(decide (y31 < (0 : Int))) then
      k3 (v22,v30)
    else
      chk (decide ((v29 - 1).toNat < (List.set v30 v29.toNat (ix v30 ((v29 - 1).toNat))).length)) <|
      chk (inI (v29 + 1)) <|
      back (v29 + 1,(List.set (List.set v30 v29.toNat (ix v30 ((v29 - 1).toNat))) ((v29 - 1).toNat) (ix v30 v29.toNat)))
  else
    k3 (v22,v30)
def q1k (n : Nat) (k2 : ((List PartCount) → Option ((List PartCount) × Bool))) (back : Int × (List PartCount) → Option ((List PartCount) × Bool)) : Int × (List PartCount) → Option ((List PartCount) × Bool)
  | (v24,v25) =>
  bif decide ((1 : Int) ≤ v24) then
    chk (inB v24 v25.length) <|
    chk (decide (v24.toNat < v25.length)) <|
    chk (inI (v24 - 1)) <|
    chk (inB (v24 - 1) v25.length) <|
    chk (decide ((v24 - 1).toNat < v25.length)) <|
    (q4k n (ix v25 v24.toNat) (ix v25 ((v24 - 1).toNat))).bind fun y26 =>
    bif !(decide (y26 < (0 : Int))) then
      k2 v25
    else
      chk (decide ((v24 - 1).toNat < (List.set v25 v24.toNat (ix v25 ((v24 - 1).toNat))).length)) <|
      back (v24 - 1,(List.set (List.set v25 v24.toNat (ix v25 ((v24 - 1).toNat))) ((v24 - 1).toNat) (ix v25 v24.toNat)))
  else
    k2 v25
def q18k (n : Nat) (a2 : Int) (v18 : List PartCount) (k1 : (Int → Option ((List PartCount) × Bool))) (back : Int → Option ((List PartCount) × Bool)) : Int → Option ((List PartCount) × Bool)
  | v20 =>
  chk (!(decide (v20 < a2)) || inB v20 v18.length) <|
  chk (!(decide (v20 < a2)) || decide (v20.toNat < v18.length)) <|
  chk (!(decide (v20 < a2)) || inI (v20 - 1)) <|
  chk (!(decide (v20 < a2)) || inB (v20 - 1) v18.length) <|
  chk (!(decide (v20 < a2)) || decide ((v20 - 1).toNat < v18.length)) <|
  (gcall (decide (v20 < a2)) (q4k n (ix v18 v20.toNat) (ix v18 ((v20 - 1).toNat)))).bind fun y21 =>
  bif (decide (v20 < a2)) && (!(decide (y21 < (0 : Int)))) then
    chk (inI (v20 + 1)) <|
    back (v20 + 1)
  else
    k1 v20
def q0k (n : Nat) (a1 : Int) (a2 : Int) (k4 : ((List PartCount) → Option ((List PartCount) × Bool))) (back : Int × Nat × (List PartCount) → Option ((List PartCount) × Bool)) : Int × Nat × (List PartCount) → Option ((List PartCount) × Bool)
  | (v16,v17,v18) =>
  bif decide (v17 < 5) then
    withK (fun (v32,v33) =>
        chk (nI (v17 + 1)) <|
        back (v32,v17 + 1,v33)) fun k3 =>
    withK (fun (v22 : Int) =>
        bif (v22 == a2) then
          some (v18,true)
        else
          chk (inI (a2 - a1)) <|
          bif decide ((a2 - a1) < (50 : Int)) then
            some (v18,false)
          else
            chk (inI (v22 - 1)) <|
            chk (inB (v22 - 1) v18.length) <|
            chk (decide ((v22 - 1).toNat < v18.length)) <|
            chk (inB v22 v18.length) <|
            chk (decide (v22.toNat < v18.length)) <|
            chk (decide ((v22 - 1).toNat < (List.set v18 v22.toNat (ix v18 ((v22 - 1).toNat))).length)) <|
            withK (fun (v27 : (List PartCount)) =>
                chk (inI (a2 - v22)) <|
                bif decide ((2 : Int) ≤ (a2 - v22)) then
                  chk (inI (v22 + 1)) <|
                  loopN (q2k n a2 v22 k3) n (v22 + 1,v27)
                else
                  k3 (v22,v27)) fun k2 =>
            chk (inI (v22 - a1)) <|
            bif decide ((2 : Int) ≤ (v22 - a1)) then
              loopN (q1k n k2) n (v22 - 1,(List.set (List.set v18 v22.toNat (ix v18 ((v22 - 1).toNat))) ((v22 - 1).toNat) (ix v18 v22.toNat)))
            else
              k2 (List.set (List.set v18 v22.toNat (ix v18 ((v22 - 1).toNat))) ((v22 - 1).toNat) (ix v18 v22.toNat))) fun k1 =>
    loopN (q18k n a2 v18 k1) n v16
  else
    k4 v18
def q9k (n : Nat) (a0 : List PartCount) (a1 : Int) (a2 : Int) : Option ((List PartCount) × Bool) :=
  chk (inI (a1 + 1)) <|
  withK (fun (v34 : (List PartCount)) =>
      some (v34,false)) fun k4 =>
  loopN (q0k n a1 a2 k4) n (a1 + 1,0,a0)
def q27k (n : Nat) (a1 : Int) (v11 : List PartCount) (v15 : Int) (k2 : (Int → Option (Int × (List PartCount)))) (back : Int → Option (Int × (List PartCount))) : Int → Option (Int × (List PartCount))
  | v17 =>
  chk (!(decide (v15 ≤ v17)) || inB a1 v11.length) <|
  chk (!(decide (v15 ≤ v17)) || decide (a1.toNat < v11.length)) <|
  chk (!(decide (v15 ≤ v17)) || inB v17 v11.length) <|
  chk (!(decide (v15 ≤ v17)) || decide (v17.toNat < v11.length)) <|
  (gcall (decide (v15 ≤ v17)) (q4k n (ix v11 a1.toNat) (ix v11 v17.toNat))).bind fun y18 =>
  bif (decide (v15 ≤ v17)) && (decide (y18 < (0 : Int))) then
    chk (inI (v17 - 1)) <|
    back (v17 - 1)
  else
    k2 v17
def q26k (n : Nat) (a1 : Int) (v10 : Int) (v11 : List PartCount) (k1 : (Int → Option (Int × (List PartCount)))) (back : Int → Option (Int × (List PartCount))) : Int → Option (Int × (List PartCount))
  | v13 =>
  chk (!(decide (v13 ≤ v10)) || inB a1 v11.length) <|
  chk (!(decide (v13 ≤ v10)) || decide (a1.toNat < v11.length)) <|
  chk (!(decide (v13 ≤ v10)) || inB v13 v11.length) <|
  chk (!(decide (v13 ≤ v10)) || decide (v13.toNat < v11.length)) <|
  (gcall (decide (v13 ≤ v10)) (q4k n (ix v11 a1.toNat) (ix v11 v13.toNat))).bind fun y14 =>
  bif (decide (v13 ≤ v10)) && (!(decide (y14 < (0 : Int)))) then
    chk (inI (v13 + 1)) <|
    back (v13 + 1)
  else
    k1 v13
def q28k (n : Nat) (a1 : Int) (k3 : (Int × (List PartCount) → Option (Int × (List PartCount)))) (back : Int × Int × (List PartCount) → Option (Int × (List PartCount))) : Int × Int × (List PartCount) → Option (Int × (List PartCount))
  | (v9,v10,v11) =>
  withK (fun (v15 : Int) =>
      withK (fun (v19 : Int) =>
          bif decide (v19 < v15) then
            k3 (v15,v11)
          else
            chk (inB v19 v11.length) <|
            chk (decide (v19.toNat < v11.length)) <|
            chk (inB v15 v11.length) <|
            chk (decide (v15.toNat < v11.length)) <|
            chk (decide (v19.toNat < (List.set v11 v15.toNat (ix v11 v19.toNat)).length)) <|
            chk (inI (v15 + 1)) <|
            chk (inI (v19 - 1)) <|
            back (v15 + 1,v19 - 1,(List.set (List.set v11 v15.toNat (ix v11 v19.toNat)) v19.toNat (ix v11 v15.toNat)))) fun k2 =>
      loopN (q27k n a1 v11 v15 k2) n v10) fun k1 =>
  loopN (q26k n a1 v10 v11 k1) n v9
def q11k (n : Nat) (a0 : List PartCount) (a1 : Int) (a2 : Int) (a3 : Int) : Option (Int × (List PartCount)) :=
  chk (inB a3 a0.length) <|
  chk (decide (a3.toNat < a0.length)) <|
  chk (inB a1 a0.length) <|
  chk (decide (a1.toNat < a0.length)) <|
  chk (decide (a3.toNat < (List.set a0 a1.toNat (ix a0 a3.toNat)).length)) <|
  chk (inI (a1 + 1)) <|
  chk (inI (a2 - 1)) <|
  withK (fun (v20,v21) =>
      some (v20,v21)) fun k3 =>
  loopN (q28k n a1 k3) n (a1 + 1,a2 - 1,(List.set (List.set a0 a1.toNat (ix a0 a3.toNat)) a3.toNat (ix a0 a1.toNat)))
def q14k (n : Nat) (a1 : Int) (v19 : List PartCount) (v23 : Int) (k4 : (Int → Option (Int × (List PartCount) × Bool))) (back : Int → Option (Int × (List PartCount) × Bool)) : Int → Option (Int × (List PartCount) × Bool)
  | v25 =>
  chk (!(decide (v23 ≤ v25)) || inB v25 v19.length) <|
  chk (!(decide (v23 ≤ v25)) || decide (v25.toNat < v19.length)) <|
  chk (!(decide (v23 ≤ v25)) || inB a1 v19.length) <|
  chk (!(decide (v23 ≤ v25)) || decide (a1.toNat < v19.length)) <|
  (gcall (decide (v23 ≤ v25)) (q4k n (ix v19 v25.toNat) (ix v19 a1.toNat))).bind fun y26 =>
  bif (decide (v23 ≤ v25)) && (!(decide (y26 < (0 : Int)))) then
    chk (inI (v25 - 1)) <|
    back (v25 - 1)
  else
    k4 v25
def q23k (n : Nat) (a1 : Int) (v18 : Int) (v19 : List PartCount) (k3 : (Int → Option (Int × (List PartCount) × Bool))) (back : Int → Option (Int × (List PartCount) × Bool)) : Int → Option (Int × (List PartCount) × Bool)
  | v21 =>
  chk (!(decide (v21 ≤ v18)) || inB v21 v19.length) <|
  chk (!(decide (v21 ≤ v18)) || decide (v21.toNat < v19.length)) <|
  chk (!(decide (v21 ≤ v18)) || inB a1 v19.length) <|
  chk (!(decide (v21 ≤ v18)) || decide (a1.toNat < v19.length)) <|
  (gcall (decide (v21 ≤ v18)) (q4k n (ix v19 v21.toNat) (ix v19 a1.toNat))).bind fun y22 =>
  bif (decide (v21 ≤ v18)) && (decide (y22 < (0 : Int))) then
    chk (inI (v21 + 1)) <|
    back (v21 + 1)
  else
    k3 v21
def q37k (n : Nat) (a1 : Int) (k5 : (Int × (List PartCount) → Option (Int × (List PartCount) × Bool))) (back : Int × Int × (List PartCount) → Option (Int × (List PartCount) × Bool)) : Int × Int × (List PartCount) → Option (Int × (List PartCount) × Bool)
  | (v17,v18,v19) =>
  withK (fun (v23 : Int) =>
      withK (fun (v27 : Int) =>
          bif decide (v27 < v23) then
            k5 (v27,v19)
          else
            chk (inB v27 v19.length) <|
            chk (decide (v27.toNat < v19.length)) <|
            chk (inB v23 v19.length) <|
            chk (decide (v23.toNat < v19.length)) <|
            chk (decide (v27.toNat < (List.set v19 v23.toNat (ix v19 v27.toNat)).length)) <|
            chk (inI (v23 + 1)) <|
            chk (inI (v27 - 1)) <|
            back (v23 + 1,v27 - 1,(List.set (List.set v19 v23.toNat (ix v19 v27.toNat)) v27.toNat (ix v19 v23.toNat)))) fun k4 =>
      loopN (q14k n a1 v19 v23 k4) n v18) fun k3 =>
  loopN (q23k n a1 v18 v19 k3) n v17
def q36k (n : Nat) (a0 : List PartCount) (a1 : Int) (a3 : Int) (v4 : Int) (k2 : (Int → Option (Int × (List PartCount) × Bool))) (back : Int → Option (Int × (List PartCount) × Bool)) : Int → Option (Int × (List PartCount) × Bool)
  | v6 =>
  chk (!(decide (v4 ≤ v6)) || inB v6 a0.length) <|
  chk (!(decide (v4 ≤ v6)) || decide (v6.toNat < (List.set (List.set a0 a1.toNat (ix a0 a3.toNat)) a3.toNat (ix a0 a1.toNat)).length)) <|
  chk (!(decide (v4 ≤ v6)) || decide (a1.toNat < (List.set (List.set a0 a1.toNat (ix a0 a3.toNat)) a3.toNat (ix a0 a1.toNat)).length)) <|
  (gcall (decide (v4 ≤ v6)) (q4k n (ix (List.set (List.set a0 a1.toNat (ix a0 a3.toNat)) a3.toNat (ix a0 a1.toNat)) v6.toNat) (ix (List.set (List.set a0 a1.toNat (ix a0 a3.toNat)) a3.toNat (ix a0 a1.toNat)) a1.toNat))).bind fun y7 =>
  bif (decide (v4 ≤ v6)) && (!(decide (y7 < (0 : Int)))) then
    chk (inI (v6 - 1)) <|
    back (v6 - 1)
  else
    k2 v6
def q35k (n : Nat) (a0 : List PartCount) (a1 : Int) (a2 : Int) (a3 : Int) (k1 : (Int → Option (Int × (List PartCount) × Bool))) (back : Int → Option (Int × (List PartCount) × Bool)) : Int → Option (Int × (List PartCount) × Bool)
  | v2 =>
  chk (!(decide (v2 ≤ (a2 - 1))) || inB v2 a0.length) <|
  chk (!(decide (v2 ≤ (a2 - 1))) || decide (v2.toNat < (List.set (List.set a0 a1.toNat (ix a0 a3.toNat)) a3.toNat (ix a0 a1.toNat)).length)) <|
  chk (!(decide (v2 ≤ (a2 - 1))) || decide (a1.toNat < (List.set (List.set a0 a1.toNat (ix a0 a3.toNat)) a3.toNat (ix a0 a1.toNat)).length)) <|
  (gcall (decide (v2 ≤ (a2 - 1))) (q4k n (ix (List.set (List.set a0 a1.toNat (ix a0 a3.toNat)) a3.toNat (ix a0 a1.toNat)) v2.toNat) (ix (List.set (List.set a0 a1.toNat (ix a0 a3.toNat)) a3.toNat (ix a0 a1.toNat)) a1.toNat))).bind fun y3 =>
  bif (decide (v2 ≤ (a2 - 1))) && (decide (y3 < (0 : Int))) then
    chk (inI (v2 + 1)) <|
    back (v2 + 1)
  else
    k1 v2
def q20k (n : Nat) (a0 : List PartCount) (a1 : Int) (a2 : Int) (a3 : Int) : Option (Int × (List PartCount) × Bool) :=
  chk (inB a3 a0.length) <|
  chk (decide (a3.toNat < a0.length)) <|
  chk (inB a1 a0.length) <|
  chk (decide (a1.toNat < a0.length)) <|
  chk (decide (a3.toNat < (List.set a0 a1.toNat (ix a0 a3.toNat)).length)) <|
  chk (inI (a1 + 1)) <|
  chk (inI (a2 - 1)) <|
  withK (fun (v4 : Int) =>
      withK (fun (v8 : Int) =>
          bif decide (v8 < v4) then
            chk (decide (a1.toNat < (List.set (List.set a0 a1.toNat (ix a0 a3.toNat)) a3.toNat (ix a0 a1.toNat)).length)) <|
            chk (inB v8 a0.length) <|
            chk (decide (v8.toNat < (List.set (List.set a0 a1.toNat (ix a0 a3.toNat)) a3.toNat (ix a0 a1.toNat)).length)) <|
            chk (decide (a1.toNat < (List.set (List.set (List.set a0 a1.toNat (ix a0 a3.toNat)) a3.toNat (ix a0 a1.toNat)) v8.toNat (ix (List.set (List.set a0 a1.toNat (ix a0 a3.toNat)) a3.toNat (ix a0 a1.toNat)) a1.toNat)).length)) <|
            some (v8,(List.set (List.set (List.set (List.set a0 a1.toNat (ix a0 a3.toNat)) a3.toNat (ix a0 a1.toNat)) v8.toNat (ix (List.set (List.set a0 a1.toNat (ix a0 a3.toNat)) a3.toNat (ix a0 a1.toNat)) a1.toNat)) a1.toNat (ix (List.set (List.set a0 a1.toNat (ix a0 a3.toNat)) a3.toNat (ix a0 a1.toNat)) v8.toNat)),true)
          else
            chk (inB v8 a0.length) <|
            chk (decide (v8.toNat < (List.set (List.set a0 a1.toNat (ix a0 a3.toNat)) a3.toNat (ix a0 a1.toNat)).length)) <|
            chk (inB v4 a0.length) <|
            chk (decide (v4.toNat < (List.set (List.set a0 a1.toNat (ix a0 a3.toNat)) a3.toNat (ix a0 a1.toNat)).length)) <|
            chk (decide (v8.toNat < (List.set (List.set (List.set a0 a1.toNat (ix a0 a3.toNat)) a3.toNat (ix a0 a1.toNat)) v4.toNat (ix (List.set (List.set a0 a1.toNat (ix a0 a3.toNat)) a3.toNat (ix a0 a1.toNat)) v8.toNat)).length)) <|
            chk (inI (v4 + 1)) <|
            chk (inI (v8 - 1)) <|
            withK (fun (v28,v29) =>
                chk (inB a1 v29.length) <|
                chk (decide (a1.toNat < v29.length)) <|
                chk (inB v28 v29.length) <|
                chk (decide (v28.toNat < v29.length)) <|
                chk (decide (a1.toNat < (List.set v29 v28.toNat (ix v29 a1.toNat)).length)) <|
                some (v28,(List.set (List.set v29 v28.toNat (ix v29 a1.toNat)) a1.toNat (ix v29 v28.toNat)),false)) fun k5 =>
            loopN (q37k n a1 k5) n (v4 + 1,v8 - 1,(List.set (List.set (List.set (List.set a0 a1.toNat (ix a0 a3.toNat)) a3.toNat (ix a0 a1.toNat)) v4.toNat (ix (List.set (List.set a0 a1.toNat (ix a0 a3.toNat)) a3.toNat (ix a0 a1.toNat)) v8.toNat)) v8.toNat (ix (List.set (List.set a0 a1.toNat (ix a0 a3.toNat)) a3.toNat (ix a0 a1.toNat)) v4.toNat)))) fun k2 =>
      loopN (q36k n a0 a1 a3 v4 k2) n (a2 - 1)) fun k1 =>
  loopN (q35k n a0 a1 a2 a3 k1) n (a1 + 1)
def q40k (n : Nat) (a0 : Int) : Option Int :=
  (math_bits_Len n (IntKind.u64.wrap a0)).bind fun y1 =>
  chk (decide (0 ≤ y1)) <|
  some (IntKind.u64.wrap (1 * 2 ^ (min y1.toNat 64)))
def slices_xorshift_Next (n : Nat) (a0 : Int) : Option Unit :=
  some ()
def q3k (n : Nat) (a1 : Int) (a2 : Int) (y1 : Int) (back : Int × Int × (List PartCount) → Option (List PartCount)) : Int × Int × (List PartCount) → Option (List PartCount)
  | (v4,v5,v6) =>
  chk (inI ((a1 + ((Int.tdiv (a2 - a1) 4) * 2)) + 1)) <|
  bif decide (v4 ≤ ((a1 + ((Int.tdiv (a2 - a1) 4) * 2)) + 1)) then
    (slices_xorshift_Next n v5).bind fun y7 =>
    chk (inI (iAnd .u64 (iXor .u64 (iXor .u64 (iXor .u64 v5 (IntKind.u64.wrap (v5 * 2 ^ (min 13 64)))) (Int.fdiv (iXor .u64 v5 (IntKind.u64.wrap (v5 * 2 ^ (min 13 64)))) (2 ^ (min 7 64)))) (IntKind.u64.wrap ((iXor .u64 (iXor .u64 v5 (IntKind.u64.wrap (v5 * 2 ^ (min 13 64)))) (Int.fdiv (iXor .u64 v5 (IntKind.u64.wrap (v5 * 2 ^ (min 13 64)))) (2 ^ (min 7 64)))) * 2 ^ (min 17 64)))) (IntKind.u64.wrap (y1 - 1)))) <|
    withK (fun (v8 : Int) =>
        chk (inI (a1 + v8)) <|
        chk (inB (a1 + v8) v6.length) <|
        chk (decide ((a1 + v8).toNat < v6.length)) <|
        chk (inB v4 v6.length) <|
        chk (decide (v4.toNat < v6.length)) <|
        chk (decide ((a1 + v8).toNat < (List.set v6 v4.toNat (ix v6 ((a1 + v8).toNat))).length)) <|
        chk (inI (v4 + 1)) <|
        back (v4 + 1,iXor .u64 (iXor .u64 (iXor .u64 v5 (IntKind.u64.wrap (v5 * 2 ^ (min 13 64)))) (Int.fdiv (iXor .u64 v5 (IntKind.u64.wrap (v5 * 2 ^ (min 13 64)))) (2 ^ (min 7 64)))) (IntKind.u64.wrap ((iXor .u64 (iXor .u64 v5 (IntKind.u64.wrap (v5 * 2 ^ (min 13 64)))) (Int.fdiv (iXor .u64 v5 (IntKind.u64.wrap (v5 * 2 ^ (min 13 64)))) (2 ^ (min 7 64)))) * 2 ^ (min 17 64))),(List.set (List.set v6 v4.toNat (ix v6 ((a1 + v8).toNat))) ((a1 + v8).toNat) (ix v6 v4.toNat)))) fun k1 =>
    bif decide ((a2 - a1) ≤ (iAnd .u64 (iXor .u64 (iXor .u64 (iXor .u64 v5 (IntKind.u64.wrap (v5 * 2 ^ (min 13 64)))) (Int.fdiv (iXor .u64 v5 (IntKind.u64.wrap (v5 * 2 ^ (min 13 64)))) (2 ^ (min 7 64)))) (IntKind.u64.wrap ((iXor .u64 (iXor .u64 v5 (IntKind.u64.wrap (v5 * 2 ^ (min 13 64)))) (Int.fdiv (iXor .u64 v5 (IntKind.u64.wrap (v5 * 2 ^ (min 13 64)))) (2 ^ (min 7 64)))) * 2 ^ (min 17 64)))) (IntKind.u64.wrap (y1 - 1)))) then
      chk (inI ((iAnd .u64 (iXor .u64 (iXor .u64 (iXor .u64 v5 (IntKind.u64.wrap (v5 * 2 ^ (min 13 64)))) (Int.fdiv (iXor .u64 v5 (IntKind.u64.wrap (v5 * 2 ^ (min 13 64)))) (2 ^ (min 7 64)))) (IntKind.u64.wrap ((iXor .u64 (iXor .u64 v5 (IntKind.u64.wrap (v5 * 2 ^ (min 13 64)))) (Int.fdiv (iXor .u64 v5 (IntKind.u64.wrap (v5 * 2 ^ (min 13 64)))) (2 ^ (min 7 64)))) * 2 ^ (min 17 64)))) (IntKind.u64.wrap (y1 - 1))) - (a2 - a1))) <|
      k1 ((iAnd .u64 (iXor .u64 (iXor .u64 (iXor .u64 v5 (IntKind.u64.wrap (v5 * 2 ^ (min 13 64)))) (Int.fdiv (iXor .u64 v5 (IntKind.u64.wrap (v5 * 2 ^ (min 13 64)))) (2 ^ (min 7 64)))) (IntKind.u64.wrap ((iXor .u64 (iXor .u64 v5 (IntKind.u64.wrap (v5 * 2 ^ (min 13 64)))) (Int.fdiv (iXor .u64 v5 (IntKind.u64.wrap (v5 * 2 ^ (min 13 64)))) (2 ^ (min 7 64)))) * 2 ^ (min 17 64)))) (IntKind.u64.wrap (y1 - 1))) - (a2 - a1))
    else
      k1 (iAnd .u64 (iXor .u64 (iXor .u64 (iXor .u64 v5 (IntKind.u64.wrap (v5 * 2 ^ (min 13 64)))) (Int.fdiv (iXor .u64 v5 (IntKind.u64.wrap (v5 * 2 ^ (min 13 64)))) (2 ^ (min 7 64)))) (IntKind.u64.wrap ((iXor .u64 (iXor .u64 v5 (IntKind.u64.wrap (v5 * 2 ^ (min 13 64)))) (Int.fdiv (iXor .u64 v5 (IntKind.u64.wrap (v5 * 2 ^ (min 13 64)))) (2 ^ (min 7 64)))) * 2 ^ (min 17 64)))) (IntKind.u64.wrap (y1 - 1)))
  else
    some v6
def q22k (n : Nat) (a0 : List PartCount) (a1 : Int) (a2 : Int) : Option (List PartCount) :=
  chk (inI (a2 - a1)) <|
  bif decide ((8 : Int) ≤ (a2 - a1)) then
    (q40k n (a2 - a1)).bind fun y1 =>
    chk ((4 != 0 && inI (Int.tdiv (a2 - a1) 4))) <|
    chk (inI ((Int.tdiv (a2 - a1) 4) * 2)) <|
    chk (inI (a1 + ((Int.tdiv (a2 - a1) 4) * 2))) <|
    chk (inI ((a1 + ((Int.tdiv (a2 - a1) 4) * 2)) - 1)) <|
    loopN (q3k n a1 a2 y1) n ((a1 + ((Int.tdiv (a2 - a1) 4) * 2)) - 1,IntKind.u64.wrap (a2 - a1),a0)
  else
    some a0
def q10k (n : Nat) (self : ((List PartCount) × Int × Int × Int → Option (List PartCount))) (back : Int × (List PartCount) × Bool × Bool × Int × Int → Option (List PartCount)) : Int × (List PartCount) × Bool × Bool × Int × Int → Option (List PartCount)
  | (v15,v16,v17,v18,v19,v37) =>
  chk (inI (v19 - v15)) <|
  bif decide ((v19 - v15) ≤ (12 : Int)) then
    (q13k n v16 v15 v19).bind fun y38 =>
    chk (decide (v16.length = y38.length)) <|
    some y38
  else
    bif (v37 == (0 : Int)) then
      (q34k n v16 v15 v19).bind fun y39 =>
      chk (decide (v16.length = y39.length)) <|
      some y39
    else
      withK (fun (v41,v42) =>
          (q25k n v41 v15 v19).bind fun y43 =>
          withK (fun (v45,v46,v47) =>
              withK (fun (v49 : (List PartCount)) =>
                  chk (!(decide ((0 : Int) < v15)) || inI (v15 - 1)) <|
                  chk (!(decide ((0 : Int) < v15)) || inB (v15 - 1) v49.length) <|
                  chk (!(decide ((0 : Int) < v15)) || decide ((v15 - 1).toNat < v49.length)) <|
                  chk (!(decide ((0 : Int) < v15)) || inB v46 v49.length) <|
                  chk (!(decide ((0 : Int) < v15)) || decide (v46.toNat < v49.length)) <|
                  (gcall (decide ((0 : Int) < v15)) (q4k n (ix v49 ((v15 - 1).toNat)) (ix v49 v46.toNat))).bind fun y50 =>
                  bif (decide ((0 : Int) < v15)) && (!(decide (y50 < (0 : Int)))) then
                    (q11k n v49 v15 v19 v46).bind fun y51 =>
                    chk (decide (v49.length = y51.2.length)) <|
                    back (y51.1,y51.2,v17,v18,v19,v42)
                  else
                    (q20k n v49 v15 v19 v46).bind fun y52 =>
                    chk (decide (v49.length = y52.2.1.length)) <|
                    chk (inI (y52.1 - v15)) <|
                    chk (inI (v19 - y52.1)) <|
                    chk ((8 != 0 && inI (Int.tdiv (v19 - v15) 8))) <|
                    bif decide ((y52.1 - v15) < (v19 - y52.1)) then
                      (self (y52.2.1,v15,y52.1,v42)).bind fun y53 =>
                      chk (decide (y52.2.1.length = y53.length)) <|
                      chk (inI (y52.1 + 1)) <|
                      back (y52.1 + 1,y53,decide ((Int.tdiv (v19 - v15) 8) ≤ (y52.1 - v15)),y52.2.2,v19,v42)
                    else
                      chk (inI (y52.1 + 1)) <|
                      (self (y52.2.1,y52.1 + 1,v19,v42)).bind fun y54 =>
                      chk (decide (y52.2.1.length = y54.length)) <|
                      back (v15,y54,decide ((Int.tdiv (v19 - v15) 8) ≤ (v19 - y52.1)),y52.2.2,y52.1,v42)) fun k3 =>
              bif (v17 && v18) && (v47 == (1 : Int)) then
                (q9k n v45 v15 v19).bind fun y48 =>
                chk (decide (v45.length = y48.1.length)) <|
                bif y48.2 then
                  some y48.1
                else
                  k3 y48.1
              else
                k3 v45) fun k2 =>
          bif (y43.2 == (2 : Int)) then
            (q24k n v41 v15 v19).bind fun y44 =>
            chk (decide (v41.length = y44.length)) <|
            chk (inI (v19 - 1)) <|
            chk (inI (y43.1 - v15)) <|
            chk (inI ((v19 - 1) - (y43.1 - v15))) <|
            k2 (y44,(v19 - 1) - (y43.1 - v15),1)
          else
            k2 (v41,y43.1,y43.2)) fun k1 =>
      bif !v17 then
        (q22k n v16 v15 v19).bind fun y40 =>
        chk (decide (v16.length = y40.length)) <|
        chk (inI (v37 - 1)) <|
        k1 (y40,v37 - 1)
      else
        k1 (v16,v37)
def q12k (n : Nat) (self : (List PartCount) × Int × Int × Int → Option (List PartCount)) : (List PartCount) × Int × Int × Int → Option (List PartCount)
  | (a0,a1,a2,a3) =>
  loopN (q10k n self) n (a1,a0,true,true,a2,a3)
def slices_pdqsortCmpFunc_PartCount (n : Nat) (a0 : List PartCount) (a1 : Int) (a2 : Int) (a3 : Int) : Option (List PartCount):=loopN (q12k n) n (a0,a1,a2,a3)
def q33k (n : Nat) (a0 : List PartCount) : Option (List PartCount) :=
  (math_bits_Len n (IntKind.u64.wrap ((a0.length : Nat) : Int))).bind fun y1 =>
  (slices_pdqsortCmpFunc_PartCount n a0 0 ((a0.length : Nat) : Int) y1).bind fun y2 =>
  chk (decide (a0.length = y2.length)) <|
  some y2
noncomputable def restore_PartsOf_L3 (k3 : ((List PartCount) → Option (Int × (List PartCount)))) (back : (List PartCount) × (Option (Str × Int)) × (List (Str × Int)) → Option (Int × (List PartCount))) : (List PartCount) × (Option (Str × Int)) × (List (Str × Int)) → Option (Int × (List PartCount))
  | (v15,v16,v17) =>
  bif decide (v17.length = 0) then
    k3 v15
  else
    pickK v17 fun j18 x19 =>
    chk (room 24 (v15 ++ ([(PartCount.mk x19.1 x19.2)] : List PartCount)).length) <|
    back ((v15 ++ ([(PartCount.mk x19.1 x19.2)] : List PartCount)),(some x19),(List.eraseIdx v17 j18))
def restore_PartsOf_L1 (a0 : List Task) (y8 : Int) (k1 : ((List (Str × Int)) → Option (Int × (List PartCount)))) (back : Nat × (List (Str × Int)) → Option (Int × (List PartCount))) : Nat × (List (Str × Int)) → Option (Int × (List PartCount))
  | (v9,v10) =>
  bif decide (v9 < (((ix a0 y8.toNat).Parts).length)) then
    chk (decide (v9 < ((ix a0 y8.toNat).Parts).length)) <|
    chk (inI ((Option.getD (List.lookup ((ix ((ix a0 y8.toNat).Parts) v9).Part) v10) (0 : Int)) + ((ix ((ix a0 y8.toNat).Parts) v9).Count))) <|
    chk (nI (v9 + 1)) <|
    back (v9 + 1,(mPut ((ix ((ix a0 y8.toNat).Parts) v9).Part) ((Option.getD (List.lookup ((ix ((ix a0 y8.toNat).Parts) v9).Part) v10) (0 : Int)) + ((ix ((ix a0 y8.toNat).Parts) v9).Count)) v10))
  else
    k1 v10
def restore_PartsOf_L2 (n : Nat) (a0 : List Task) (a1 : List Str) (k2 : ((List (Str × Int)) → Option (Int × (List PartCount)))) (back : Nat × (List (Str × Int)) → Option (Int × (List PartCount))) : Nat × (List (Str × Int)) → Option (Int × (List PartCount))
  | (v6,v7) =>
  bif decide (v6 < a1.length) then
    withK (fun (v11 : (List (Str × Int))) =>
        chk (nI (v6 + 1)) <|
        back (v6 + 1,v11)) fun k1 =>
    (restore_list_find n a0 (ix a1 v6)).bind fun y8 =>
    chk (inB y8 a0.length) <|
    chk (decide (y8.toNat < a0.length)) <|
    loopN (restore_PartsOf_L1 a0 y8 k1) n (0,v7)
  else
    k2 v7
noncomputable def restore_PartsOf (n : Nat) (a0 : List Task) (a1 : List Str) : Option (Int × (List PartCount)) :=
  (restore_checkSets n a0 ([a1] : List (List Str))).bind fun y1 =>
  bif (y1 != (0 : Int)) then
    some (y1,([] : List PartCount))
  else
    withK (fun (v12 : (List (Str × Int))) =>
        withK (fun (v20 : (List PartCount)) =>
            (q33k n v20).bind fun y21 =>
            chk (decide (v20.length = y21.length)) <|
            some (0,y21)) fun k3 =>
        loopN (restore_PartsOf_L3 k3) n (([] : List PartCount),none,v12)) fun k2 =>
    loopN (restore_PartsOf_L2 n a0 a1 k2) n (0,([] : List (Str × Int)))
def agraffetop_estimated (n : Nat) : Option Bool:=some true
def agrafferef08_PartsOf_L3 (n : Nat) (a0 : List Task) (a1 : List Str) (v15 : List Str) (v26 : Nat) (k4 : (Int → Option (List PartCount))) (back : Nat × Int → Option (List PartCount)) : Nat × Int → Option (List PartCount)
  | (v30,v31) =>
  bif decide (v30 < a1.length) then
    withK (fun (v34 : Int) =>
        chk (nI (v30 + 1)) <|
        back (v30 + 1,v34)) fun k3 =>
    (q52k n a0 (ix a1 v30)).bind fun y32 =>
    chk (inB y32 a0.length) <|
    chk (decide (y32.toNat < a0.length)) <|
    (agrafferef08_FindPart n ((ix a0 y32.toNat).Parts) (ix v15 v26)).bind fun y33 =>
    bif decide ((0 : Int) ≤ y33) then
      chk (inB y33 (((ix a0 y32.toNat).Parts).length)) <|
      chk (decide (y33.toNat < ((ix a0 y32.toNat).Parts).length)) <|
      chk (inI (v31 + ((ix ((ix a0 y32.toNat).Parts) y33.toNat).Count))) <|
      k3 (v31 + ((ix ((ix a0 y32.toNat).Parts) y33.toNat).Count))
    else
      k3 v31
  else
    k4 v31
def agrafferef08_PartsOf_L4 (n : Nat) (a0 : List Task) (a1 : List Str) (v15 : List Str) (k5 : ((List PartCount) → Option (List PartCount))) (back : (List PartCount) × Nat → Option (List PartCount)) : (List PartCount) × Nat → Option (List PartCount)
  | (v25,v26) =>
  bif decide (v26 < v15.length) then
    withK (fun (v35 : Int) =>
        chk (room 24 (v25 ++ ([(PartCount.mk (ix v15 v26) v35)] : List PartCount)).length) <|
        chk (nI (v26 + 1)) <|
        back ((v25 ++ ([(PartCount.mk (ix v15 v26) v35)] : List PartCount)),v26 + 1)) fun k4 =>
    loopN (agrafferef08_PartsOf_L3 n a0 a1 v15 v26 k4) n (0,0)
  else
    k5 v25
def agrafferef08_PartsOf_L1 (n : Nat) (a0 : List Task) (y9 : Int) (k1 : ((List Str) → Option (List PartCount))) (back : (List Str) × Nat → Option (List PartCount)) : (List Str) × Nat → Option (List PartCount)
  | (v11,v12) =>
  bif decide (v12 < (((ix a0 y9.toNat).Parts).length)) then
    chk (decide (v12 < ((ix a0 y9.toNat).Parts).length)) <|
    (agrafferef08_Put n v11 ((ix ((ix a0 y9.toNat).Parts) v12).Part)).bind fun y13 =>
    chk (nI (v12 + 1)) <|
    back (y13,v12 + 1)
  else
    k1 v11
def agrafferef08_PartsOf_L2 (n : Nat) (a0 : List Task) (a1 : List Str) (k2 : ((List Str) → Option (List PartCount))) (back : (List Str) × Nat → Option (List PartCount)) : (List Str) × Nat → Option (List PartCount)
  | (v7,v8) =>
  bif decide (v8 < a1.length) then
    withK (fun (v14 : (List Str)) =>
        chk (nI (v8 + 1)) <|
        back (v14,v8 + 1)) fun k1 =>
    (q52k n a0 (ix a1 v8)).bind fun y9 =>
    chk (inB y9 a0.length) <|
    chk (decide (y9.toNat < a0.length)) <|
    loopN (agrafferef08_PartsOf_L1 n a0 y9 k1) n (v7,0)
  else
    k2 v7
def agrafferef08_PartsOf (n : Nat) (a0 : List Task) (a1 : List Str) : Option (List PartCount) :=
  withK (fun (v15 : (List Str)) =>
      withK (fun (v36 : (List PartCount)) =>
          some v36) fun k5 =>
      loopN (agrafferef08_PartsOf_L4 n a0 a1 v15 k5) n (([] : List PartCount),0)) fun k2 =>
  loopN (agrafferef08_PartsOf_L2 n a0 a1 k2) n (([] : List Str),0)
def restore_shelf_take (n : Nat) (a0 : List Stocked) (a1 : List Int) (a2 : PartPromise) : Option (Int × (List Int)) :=
  (restore_stocked n a0 a2.Part).bind fun y1 =>
  (restore_isName n a2.Instrument).bind fun y2 =>
  bif !y2 then
    some (4,a1)
  else
    bif decide (y1 < (0 : Int)) then
      some (6,a1)
    else
      (q53k n a2.Count 1 10000).bind fun y3 =>
      bif !((decide (1 ≤ a2.Count)) && (decide (a2.Count ≤ 10000))) then
        some (2,a1)
      else
        chk (inB y1 a1.length) <|
        chk (decide (y1.toNat < a1.length)) <|
        bif decide ((ix a1 y1.toNat) < a2.Count) then
          some (20,a1)
        else
          chk (inI ((ix a1 y1.toNat) - a2.Count)) <|
          some (0,(List.set a1 y1.toNat ((ix a1 y1.toNat) - a2.Count)))
def restore_shelfOf_L2 (n : Nat) (a0 : List Stocked) (a1 : List PartPromise) (k2 : ((List Int) → Option (Int ⊕ (List Int)))) (back : Nat × (List Int) → Option (Int ⊕ (List Int))) : Nat × (List Int) → Option (Int ⊕ (List Int))
  | (v6,v7) =>
  bif decide (v6 < a1.length) then
    (restore_shelf_take n a0 v7 (ix a1 v6)).bind fun y8 =>
    chk (decide (v7.length = y8.2.length)) <|
    bif (y8.1 != (0 : Int)) then
      some (.inl y8.1)
    else
      chk (nI (v6 + 1)) <|
      back (v6 + 1,y8.2)
  else
    k2 v7
def restore_shelfOf_L1 (a0 : List Stocked) (k1 : ((List Int) → Option (Int ⊕ (List Int)))) (back : Nat × (List Int) → Option (Int ⊕ (List Int))) : Nat × (List Int) → Option (Int ⊕ (List Int))
  | (v2,v3) =>
  bif decide (v2 < a0.length) then
    chk (room 8 (v3 ++ ([(ix a0 v2).Count] : List Int)).length) <|
    chk (nI (v2 + 1)) <|
    back (v2 + 1,(v3 ++ ([(ix a0 v2).Count] : List Int)))
  else
    k1 v3
def restore_shelfOf (n : Nat) (a0 : List Stocked) (a1 : List PartPromise) : Option (Int ⊕ (List Int)) :=
  (restore_CheckStock n a0).bind fun y1 =>
  bif (y1 != (0 : Int)) then
    some (.inl y1)
  else
    bif decide (200 < a1.length) then
      some (.inl 8)
    else
      withK (fun (v4 : (List Int)) =>
          withK (fun (v9 : (List Int)) =>
              some (.inr v9)) fun k2 =>
          loopN (restore_shelfOf_L2 n a0 a1 k2) n (0,v4)) fun k1 =>
      loopN (restore_shelfOf_L1 a0 k1) n (0,([] : List Int))
def slices_Clone_PartPromise (n : Nat) (a0 : List PartPromise) : Option (List PartPromise) :=
  nilK (a0.isEmpty) fun b1 =>
  bif b1 then
    some ([] : List PartPromise)
  else
    chk (room 40 a0.length) <|
    some a0
def restore_AddPromise (n : Nat) (a0 : List Stocked) (a1 : List PartPromise) (a2 : PartPromise) : Option (Int × (List PartPromise)) :=
  withK (fun (v4 : Int) =>
      bif (v4 != (0 : Int)) then
        some (v4,([] : List PartPromise))
      else
        bif decide (a1.length = 200) then
          some (8,([] : List PartPromise))
        else
          none) fun k1 =>
  withK (fun (v5 : (List Int)) =>
      bif decide (a1.length = 200) then
        some (8,([] : List PartPromise))
      else
        (restore_shelf_take n a0 v5 a2).bind fun y6 =>
        chk (decide (v5.length = y6.2.length)) <|
        bif (y6.1 != (0 : Int)) then
          some (y6.1,([] : List PartPromise))
        else
          (slices_Clone_PartPromise n a1).bind fun y7 =>
          chk (room 40 (y7 ++ ([a2] : List PartPromise)).length) <|
          some (0,(y7 ++ ([a2] : List PartPromise)))) fun k2 =>
  (restore_shelfOf n a0 a1).bind fun y1 =>
  match y1 with
  | .inl y1 =>
    k1 y1
  | .inr y1 =>
    k2 y1
def restore_LeftOf_L1 (a0 : List Stocked) (v5 : List Int) (k3 : ((List PartCount) → Option (Int × (List PartCount)))) (back : (List PartCount) × Nat → Option (Int × (List PartCount))) : (List PartCount) × Nat → Option (Int × (List PartCount))
  | (v6,v7) =>
  bif decide (v7 < v5.length) then
    chk (decide (v7 < a0.length)) <|
    chk (room 24 (v6 ++ ([(PartCount.mk ((ix a0 v7).Part) (ix v5 v7))] : List PartCount)).length) <|
    chk (nI (v7 + 1)) <|
    back ((v6 ++ ([(PartCount.mk ((ix a0 v7).Part) (ix v5 v7))] : List PartCount)),v7 + 1)
  else
    k3 v6
def restore_LeftOf (n : Nat) (a0 : List Stocked) (a1 : List PartPromise) : Option (Int × (List PartCount)) :=
  withK (fun (v4 : Int) =>
      bif (v4 != (0 : Int)) then
        some (v4,([] : List PartCount))
      else
        none) fun k1 =>
  withK (fun (v5 : (List Int)) =>
      withK (fun (v8 : (List PartCount)) =>
          some (0,v8)) fun k3 =>
      loopN (restore_LeftOf_L1 a0 v5 k3) n (([] : List PartCount),0)) fun k2 =>
  (restore_shelfOf n a0 a1).bind fun y1 =>
  match y1 with
  | .inl y1 =>
    k1 y1
  | .inr y1 =>
    k2 y1
def agrafferef08_promised_L1 (a0 : List PartPromise) (a1 : Str) (k2 : (Int → Option Int)) (back : Int × Nat → Option Int) : Int × Nat → Option Int
  | (v2,v3) =>
  bif decide (v3 < a0.length) then
    withK (fun (v4 : Int) =>
        chk (nI (v3 + 1)) <|
        back (v4,v3 + 1)) fun k1 =>
    bif (((ix a0 v3).Part) == a1) then
      chk (inI (v2 + ((ix a0 v3).Count))) <|
      k1 (v2 + ((ix a0 v3).Count))
    else
      k1 v2
  else
    k2 v2
def agrafferef08_promised (n : Nat) (a0 : List PartPromise) (a1 : Str) : Option Int :=
  withK (fun (v5 : Int) =>
      some v5) fun k2 =>
  loopN (agrafferef08_promised_L1 a0 a1 k2) n (0,0)
def q54k (n : Nat) (a0 : List Stocked) (a1 : List PartPromise) (k1 : (Unit → Option Int)) (back : Nat → Option Int) : Nat → Option Int
  | v6 =>
  bif decide (v6 < a1.length) then
    (q39k n ((ix a1 v6).Instrument)).bind fun y7 =>
    bif !y7 then
      some 4
    else
      (q45k n a0 ((ix a1 v6).Part)).bind fun y8 =>
      bif decide (y8 < (0 : Int)) then
        some 6
      else
        (q29k n ((ix a1 v6).Count) 1 10000).bind fun y9 =>
        bif !((decide (1 ≤ ((ix a1 v6).Count))) && (decide (((ix a1 v6).Count) ≤ 10000))) then
          some 2
        else
          chk (nI (v6 + 1)) <|
          chk (decide (v6 + 1 ≤ a1.length)) <|
          (agrafferef08_promised n (List.take (v6 + 1) a1) ((ix a1 v6).Part)).bind fun y10 =>
          chk (inB y8 a0.length) <|
          chk (decide (y8.toNat < a0.length)) <|
          bif decide (((ix a0 y8.toNat).Count) < y10) then
            some 20
          else
            back (v6 + 1)
  else
    k1 ()
def q49k (n : Nat) (a0 : List Stocked) (a1 : List PartPromise) : Option Int :=
  (agrafferef08_CheckStock n a0).bind fun y1 =>
  bif (y1 != (0 : Int)) then
    some y1
  else
    bif decide (200 < a1.length) then
      some 8
    else
      withK (fun (_ : Unit) =>
          some 0) fun k1 =>
      loopN (q54k n a0 a1 k1) n 0
def restore_MissingParts_L1 (n : Nat) (a0 : List Stocked) (a2 : List PartCount) (k3 : ((List PartCount) → Option (Int × (List PartCount)))) (back : (List PartCount) × Nat → Option (Int × (List PartCount))) : (List PartCount) × Nat → Option (Int × (List PartCount))
  | (v8,v9) =>
  bif decide (v9 < a2.length) then
    withK (fun (v11 : (List PartCount)) =>
        chk (nI (v9 + 1)) <|
        back (v11,v9 + 1)) fun k2 =>
    (restore_stocked n a0 ((ix a2 v9).Part)).bind fun y10 =>
    bif decide ((0 : Int) ≤ y10) then
      none
    else
      bif decide ((0 : Int) < ((ix a2 v9).Count)) then
        chk (room 24 (v8 ++ ([(ix a2 v9)] : List PartCount)).length) <|
        k2 (v8 ++ ([(ix a2 v9)] : List PartCount))
      else
        k2 v8
  else
    k3 v8
def restore_MissingParts_L2 (n : Nat) (a0 : List Stocked) (a2 : List PartCount) (v13 : List Int) (k7 : ((List PartCount) → Option (Int × (List PartCount)))) (back : (List PartCount) × Nat → Option (Int × (List PartCount))) : (List PartCount) × Nat → Option (Int × (List PartCount))
  | (v18,v19) =>
  bif decide (v19 < a2.length) then
    withK (fun (v22 : (List PartCount)) =>
        chk (nI (v19 + 1)) <|
        back (v22,v19 + 1)) fun k6 =>
    withK (fun (v21 : Int) =>
        bif decide ((0 : Int) < v21) then
          chk (room 24 (v18 ++ ([(PartCount.mk ((ix a2 v19).Part) v21)] : List PartCount)).length) <|
          k6 (v18 ++ ([(PartCount.mk ((ix a2 v19).Part) v21)] : List PartCount))
        else
          k6 v18) fun k5 =>
    (restore_stocked n a0 ((ix a2 v19).Part)).bind fun y20 =>
    bif decide ((0 : Int) ≤ y20) then
      chk (inB y20 v13.length) <|
      chk (decide (y20.toNat < v13.length)) <|
      chk (inI (((ix a2 v19).Count) - (ix v13 y20.toNat))) <|
      k5 (((ix a2 v19).Count) - (ix v13 y20.toNat))
    else
      k5 ((ix a2 v19).Count)
  else
    k7 v18
def restore_MissingParts (n : Nat) (a0 : List Stocked) (a1 : List PartPromise) (a2 : List PartCount) : Option (Int × (List PartCount)) :=
  withK (fun (v4 : Int) =>
      bif (v4 != (0 : Int)) then
        some (v4,([] : List PartCount))
      else
        bif decide (60 < a2.length) then
          some (8,([] : List PartCount))
        else
          (q59k n a2 10000).bind fun y5 =>
          bif (y5 != (0 : Int)) then
            some (y5,([] : List PartCount))
          else
            withK (fun (v12 : (List PartCount)) =>
                some (0,v12)) fun k3 =>
            loopN (restore_MissingParts_L1 n a0 a2 k3) n (([] : List PartCount),0)) fun k1 =>
  withK (fun (v13 : (List Int)) =>
      bif decide (60 < a2.length) then
        some (8,([] : List PartCount))
      else
        (q59k n a2 10000).bind fun y14 =>
        bif (y14 != (0 : Int)) then
          some (y14,([] : List PartCount))
        else
          withK (fun (v23 : (List PartCount)) =>
              some (0,v23)) fun k7 =>
          loopN (restore_MissingParts_L2 n a0 a2 v13 k7) n (([] : List PartCount),0)) fun k4 =>
  (restore_shelfOf n a0 a1).bind fun y1 =>
  match y1 with
  | .inl y1 =>
    k1 y1
  | .inr y1 =>
    k4 y1
def q56k (y6 : Int × (List PartCount)) (y33 : Int × (List PartCount)) (v39 : Nat) (k7 : (Int → Option Bool)) (back : Int × Nat → Option Bool) : Int × Nat → Option Bool
  | (v41,v42) =>
  bif decide (v42 < y6.2.length) then
    withK (fun (v43 : Int) =>
        chk (nI (v42 + 1)) <|
        back (v43,v42 + 1)) fun k6 =>
    chk (decide (v39 < y33.2.length)) <|
    bif (((ix y6.2 v42).Part) == ((ix y33.2 v39).Part)) then
      k6 ((ix y6.2 v42).Count)
    else
      k6 v41
  else
    k7 v41
def q31k (n : Nat) (y6 : Int × (List PartCount)) (y8 : Int × (List PartCount)) (v32 : Bool) (y33 : Int × (List PartCount)) (k8 : (Unit → Option Bool)) (back : Nat → Option Bool) : Nat → Option Bool
  | v39 =>
  bif (decide (v39 < y33.2.length)) && v32 then
    withK (fun (v44 : Int) =>
        chk (decide (v39 < y33.2.length)) <|
        chk (decide (v39 < y8.2.length)) <|
        chk (inI (((ix y8.2 v39).Count) - v44)) <|
        bif (((ix y33.2 v39).Count) != (((ix y8.2 v39).Count) - v44)) then
          some false
        else
          chk (nI (v39 + 1)) <|
          back (v39 + 1)) fun k7 =>
    loopN (q56k y6 y33 v39 k7) n (0,0)
  else
    k8 ()
def q55k (y6 : Int × (List PartCount)) (y7 : Int × (List PartCount)) (v21 : Nat) (k3 : (Int → Option Bool)) (back : Int × Nat → Option Bool) : Int × Nat → Option Bool
  | (v24,v25) =>
  bif decide (v25 < y7.2.length) then
    withK (fun (v26 : Int) =>
        chk (nI (v25 + 1)) <|
        back (v26,v25 + 1)) fun k2 =>
    bif (((ix y7.2 v25).Part) == ((ix y6.2 v21).Part)) then
      k2 ((ix y7.2 v25).Count)
    else
      k2 v24
  else
    k3 v24
def q42k (n : Nat) (a1 : Shop) (y6 : Int × (List PartCount)) (y7 : Int × (List PartCount)) (y8 : Int × (List PartCount)) (k5 : ((List PartPromise) × Bool → Option Bool)) (back : (List PartPromise) × Bool × Nat → Option Bool) : (List PartPromise) × Bool × Nat → Option Bool
  | (v19,v20,v21) =>
  bif decide (v21 < y6.2.length) then
    withK (fun (v29,v30) =>
        chk (nI (v21 + 1)) <|
        back (v29,v30,v21 + 1)) fun k4 =>
    (restore_AddPromise n a1.Stock v19 (PartPromise.mk ([103,114,97,110,100] : Str) ((ix y6.2 v21).Part) ((ix y6.2 v21).Count))).bind fun y22 =>
    withK (fun (v27 : Int) =>
        (q45k n a1.Stock ((ix y6.2 v21).Part)).bind fun y28 =>
        bif (y22.1 == (0 : Int)) then
          chk (!(!((v27 != (0 : Int)) || (decide (y28 < (0 : Int))))) || inB y28 y8.2.length) <|
          chk (!(!((v27 != (0 : Int)) || (decide (y28 < (0 : Int))))) || decide (y28.toNat < y8.2.length)) <|
          bif ((v27 != (0 : Int)) || (decide (y28 < (0 : Int)))) || (decide (((ix y8.2 y28.toNat).Count) < ((ix y6.2 v21).Count))) then
            some false
          else
            k4 (y22.2,v20)
        else
          bif decide (y28 < (0 : Int)) then
            bif (y22.1 != (6 : Int)) || (v27 != ((ix y6.2 v21).Count)) then
              some false
            else
              k4 (v19,false)
          else
            chk (!(!(y22.1 != (20 : Int))) || inB y28 y8.2.length) <|
            chk (!(!(y22.1 != (20 : Int))) || decide (y28.toNat < y8.2.length)) <|
            chk (!(!(y22.1 != (20 : Int))) || inI (((ix y6.2 v21).Count) - ((ix y8.2 y28.toNat).Count))) <|
            bif (y22.1 != (20 : Int)) || (v27 != (((ix y6.2 v21).Count) - ((ix y8.2 y28.toNat).Count))) then
              some false
            else
              k4 (v19,false)) fun k3 =>
    loopN (q55k y6 y7 v21 k3) n (0,0)
  else
    k5 (v19,v20)
def q41k (y6 : Int × (List PartCount)) (k1 : (Unit → Option Bool)) (back : Nat → Option Bool) : Nat → Option Bool
  | v9 =>
  bif decide (v9 < y6.2.length) then
    bif decide ((10000 : Int) < ((ix y6.2 v9).Count)) then
      some true
    else
      chk (nI (v9 + 1)) <|
      back (v9 + 1)
  else
    k1 ()
noncomputable def agraffetop_TopPromisedOnce (n : Nat) (a0 : List Task) (a1 : Shop) (a2 : List Str) : Option Bool :=
  (agraffetop_estimated n).bind fun y1 =>
  bif !y1 then
    some false
  else
    (agraffelaw08_Few n a0).bind fun y2 =>
    (gcall (!((((!y2) || (decide (8 < a0.length))) || (decide (8 < a1.Stock.length))) || (decide (8 < a1.Promises.length)))) (agrafferef08_CheckTasks n a0)).bind fun y3 =>
    (gcall (!(((((!y2) || (decide (8 < a0.length))) || (decide (8 < a1.Stock.length))) || (decide (8 < a1.Promises.length))) || (y3 != (0 : Int)))) (agrafferef08_CheckSet n a0 a2)).bind fun y4 =>
    (gcall (!((((((!y2) || (decide (8 < a0.length))) || (decide (8 < a1.Stock.length))) || (decide (8 < a1.Promises.length))) || (y3 != (0 : Int))) || (y4 != (0 : Int)))) (q49k n a1.Stock a1.Promises)).bind fun y5 =>
    bif ((((((!y2) || (decide (8 < a0.length))) || (decide (8 < a1.Stock.length))) || (decide (8 < a1.Promises.length))) || (y3 != (0 : Int))) || (y4 != (0 : Int))) || (y5 != (0 : Int)) then
      some true
    else
      (restore_PartsOf n a0 a2).bind fun y6 =>
      (restore_MissingParts n a1.Stock a1.Promises y6.2).bind fun y7 =>
      (restore_LeftOf n a1.Stock a1.Promises).bind fun y8 =>
      bif ((y6.1 != (0 : Int)) || (y8.1 != (0 : Int))) || (!decide (y8.2.length = a1.Stock.length)) then
        some false
      else
        bif decide (60 < y6.2.length) then
          some (y7.1 == (8 : Int))
        else
          withK (fun (_ : Unit) =>
              bif (y7.1 != (0 : Int)) || (decide (y6.2.length < y7.2.length)) then
                some false
              else
                chk (room 40 a1.Promises.length) <|
                withK (fun (v31,v32) =>
                    bif !(v32 == decide (y7.2.length = 0)) then
                      some false
                    else
                      (restore_LeftOf n a1.Stock v31).bind fun y33 =>
                      bif (y33.1 != (0 : Int)) || (!decide (y33.2.length = y8.2.length)) then
                        some false
                      else
                        withK (fun (_ : Unit) =>
                            some true) fun k8 =>
                        loopN (q31k n y6 y8 v32 y33 k8) n 0) fun k5 =>
                loopN (q42k n a1 y6 y7 y8 k5) n (a1.Promises,true,0)) fun k1 =>
          loopN (q41k y6 k1) n 0
end
section
set_option maxRecDepth 4000
open Go
theorem loopN_s {α β : Type} (F : (α → Option β) → α → Option β) (n : Nat) (t : α) : loopN F (n + 1) t = F (loopN F n) t:=rfl
@[simp] theorem chk_t {α : Type} (k : Option α) : chk true k = k:=rfl
theorem chk_of {α : Type} {b : Bool} {k : Option α} (h : b = true) : chk b k = k:=by subst h; rfl
@[simp] theorem withK_eq {α β : Type} (j : α → Option β) (f : (α → Option β) → Option β) : withK j f = f j:=rfl
@[simp] theorem gcall_some_ {α : Type} [Inhabited α] (g : Bool) (x : α) : (gcall g (some x)) = some (bif g then x else default):=by cases g <;> rfl
theorem nI_of {n : Nat} (h : n ≤ 9223372036854775807) : nI n = true:=by simp [nI,h]
theorem inI_of {n : Int} (h : -9223372036854775808 ≤ n) (h2 : n ≤ 9223372036854775807) : inI n = true:=by simp [inI,h,h2]
theorem room_of {b n : Nat} (h : n * b ≤ 140737488355328) (h2 : n ≤ 9223372036854775807) : room b n = true:=by simp [room,h,h2]
theorem inB_of {q : Int} {n : Nat} (h : 0 ≤ q) (h2 : q.toNat < n) : inB q n = true:=by simp [inB,h,h2]
theorem inC_of {q : Int} {n : Nat} (h : 0 ≤ q) (h2 : q.toNat ≤ n) : inC q n = true:=by simp [inC,h,h2]
theorem drop_ix {α : Type} [Inhabited α] {l : List α} {v : Nat} (h : v < l.length) : l.drop v = ix l v :: l.drop (v + 1):=by
  rw [ix_eq h]; exact List.drop_eq_getElem_cons h
theorem drop_nil {α : Type} {l : List α} {v : Nat} (h : ¬ v < l.length) : l.drop v = []:=List.drop_eq_nil_of_le (by omega)
def isL (c : UInt8) : Bool:=(decide ((97 : Int) ≤ ((c.toNat : Nat) : Int)) && decide (((c.toNat : Nat) : Int) ≤ (122 : Int))) || (decide ((65 : Int) ≤ ((c.toNat : Nat) : Int)) && decide (((c.toNat : Nat) : Int) ≤ (90 : Int)))
def isD (c : UInt8) : Bool:=decide ((48 : Int) ≤ ((c.toNat : Nat) : Int)) && decide (((c.toNat : Nat) : Int) ≤ (57 : Int))
def okC (c : UInt8) : Bool:=isL c || isD c || (((c.toNat : Nat) : Int) == (45 : Int))
def nameB (s : Str) : Bool:=match s with
  | []=>false
  | c :: r=>isL c && r.all okC && decide (r.length < 12)
end
section
set_option maxRecDepth 4000
open Go
theorem getD_ix (s : Str) (v : Nat) : List.getD s v 0 = ix s v:=by
  simp only [ix,List.getD]; rfl
theorem isName_loop (s : Str) (k : Unit → Option Bool) : ∀ (n v : Nat),s.length - v < n → 0 < v → s.length < 9223372036854775807 → loopN (restore_isName_L1 s k) n v = bif (s.drop v).all okC then k () else some false:=by
  intro n
  induction n with
  | zero=>intro v h; omega
  | succ n ih =>
    intro v hn hv hl
    rw [loopN_s,restore_isName_L1]
    by_cases h : v < s.length
    · rw [drop_ix h]
      have h2 : ¬ v = 0:=by omega
      simp only [h,decide_true,cond_true,h2,decide_false,Bool.false_or,List.all_cons,nI_of (by omega : v + 1 ≤ 9223372036854775807),chk_t]
      rw [ih (v + 1) (by omega) (by omega) hl]
      have key : (!((decide ((97 : Int) ≤ (((ix s v).toNat : Nat) : Int)) && decide ((((ix s v).toNat : Nat) : Int) ≤ (122 : Int))) || (decide ((65 : Int) ≤ (((ix s v).toNat : Nat) : Int)) && decide ((((ix s v).toNat : Nat) : Int) ≤ (90 : Int)))) && (((((ix s v).toNat : Nat) : Int) != (45 : Int)) && (decide ((((ix s v).toNat : Nat) : Int) < (48 : Int)) || decide ((57 : Int) < (((ix s v).toNat : Nat) : Int))))) = !okC (ix s v):=by
        have hd : (decide ((((ix s v).toNat : Nat) : Int) < (48 : Int)) || decide ((57 : Int) < (((ix s v).toNat : Nat) : Int))) = !isD (ix s v):=by
          simp only [isD,Bool.not_and,← decide_not,Int.not_le]
        rw [hd]
        show (!isL (ix s v) && _) = _
        simp only [okC]
        cases isL (ix s v) <;> cases isD (ix s v) <;> cases hh : (((((ix s v).toNat : Nat) : Int)) == (45 : Int)) <;> simp [bne,hh]
      rw [key]
      cases okC (ix s v) <;> simp
    · rw [drop_nil h]
      simp [h]
theorem isName_eq (s : Str) (n : Nat) (hn : s.length + 1 < n) (hl : s.length < 9223372036854775807) : restore_isName n s = some (nameB s):=by
  obtain ⟨n,rfl⟩ : ∃ m,n = m + 1:=⟨n - 1,by omega⟩
  rw [restore_isName,withK_eq,loopN_s,restore_isName_L1]
  cases s with
  | nil=>simp [nameB]
  | cons c r =>
    have h0 : 0 < (c :: r).length:=by simp
    have hix : ix (c :: r) 0 = c:=rfl
    simp only [h0,decide_true,cond_true,hix,Bool.true_or,Bool.and_true,nI_of (by simp : 0 + 1 ≤ 9223372036854775807),chk_t]
    rw [isName_loop _ _ n 1 (by simp at hn ⊢; omega) (by omega) hl]
    show (bif !isL c then some false else _) = _
    simp only [nameB,List.drop_succ_cons,List.drop_zero]
    cases hL : isL c <;> cases hA : r.all okC <;> simp
    omega
theorem IsName_loop (s : Str) (n0 : Nat) (k : Unit → Option Bool) : ∀ (n v : Nat),s.length - v < n → s.length < 9223372036854775807 → loopN (agraffebase_IsName_L1 n0 s k) n v = bif (s.drop v).all okC then k () else some false:=by
  intro n
  induction n with
  | zero=>intro v h; omega
  | succ n ih =>
    intro v hn hl
    rw [loopN_s,agraffebase_IsName_L1]
    by_cases h : v < s.length
    · rw [drop_ix h]
      simp only [h,decide_true,cond_true,agraffebase_isLetter,agraffebase_isDigit,gcall_some_,Option.bind_some,getD_ix,List.all_cons,nI_of (by omega : v + 1 ≤ 9223372036854775807),chk_t]
      rw [ih (v + 1) (by omega) hl]
      show (bif ((!isL (ix s v)) && (!isD (ix s v))) && ((((ix s v).toNat : Nat) : Int) != (45 : Int)) then _ else _) = _
      simp only [okC]
      cases isL (ix s v) <;> cases isD (ix s v) <;> cases hh : (((((ix s v).toNat : Nat) : Int)) == (45 : Int)) <;> simp [bne,hh]
    · rw [drop_nil h]
      simp [h]
theorem IsName_eq (s : Str) (n : Nat) (hn : s.length + 1 < n) (hl : s.length < 9223372036854775807) : q39k n s = some (nameB s):=by
  rw [q39k]
  simp only [agraffebase_isLetter,gcall_some_,Option.bind_some,getD_ix,withK_eq]
  rw [IsName_loop _ _ _ _ _ (by omega) hl]
  cases s with
  | nil=>simp [nameB]
  | cons c r =>
    have h0 : ¬ (c :: r).length = 0:=by simp
    have h1 : 0 < (c :: r).length:=by simp
    have hix : ix (c :: r) 0 = c:=rfl
    simp only [h0,h1,decide_true,decide_false,Bool.false_or,Bool.or_true,chk_t,hix,List.drop_zero]
    show (bif (decide (12 < (c :: r).length)) || (!isL c) then _ else _) = _
    simp only [nameB,List.all_cons,okC,List.length_cons]
    by_cases hlen : r.length < 12
    · have : ¬ 12 < r.length + 1:=by omega
      cases hL : isL c <;> cases hA : r.all okC <;> simp [this,hlen,hA]
    · have : 12 < r.length + 1:=by omega
      simp [this,hlen]
end
section
set_option maxRecDepth 4000
open Go
theorem bne_t {x : Int} (h : ¬ x = 0) : (x != 0) = true:=by simp [bne,h]
def firstE (E : Nat → Int) : Nat → Nat → Int
  | _,0=>0
  | v,m + 1=>bif E v != 0 then E v else firstE E (v + 1) m
theorem firstE_zero {E : Nat → Int} : ∀ {m v : Nat},firstE E v m = 0 → ∀ j,v ≤ j → j < v + m → E j = 0
  | 0,v,_,j,h1,h2=>by omega
  | m + 1,v,h,j,h1,h2=>by
    unfold firstE at h
    by_cases e : E v = 0
    · simp [e] at h
      by_cases hj : j = v
      · rw [hj]; exact e
      · exact firstE_zero h j (by omega) (by omega)
    · rw [bne_t e,cond_true] at h; exact absurd h e
theorem loop_first {σ R : Type} {F : (σ → Option R) → σ → Option R} {st : Nat → σ} {E : Nat → Int} {err : Int → Option R} {k : Option R} {len : Nat}
    (h1 : ∀ back v,v < len → (∀ j,j < v → E j = 0) → F back (st v) = bif E v != 0 then err (E v) else back (st (v + 1)))
    (h2 : ∀ back,(∀ j,j < len → E j = 0) → F back (st len) = k) : ∀ n v,len - v < n → v ≤ len → (∀ j,j < v → E j = 0) → loopN F n (st v) = bif firstE E v (len - v) != 0 then err (firstE E v (len - v)) else k:=by
  intro n
  induction n with
  | zero=>intro v h; omega
  | succ n ih =>
    intro v hn hv hz
    rw [loopN_s]
    by_cases h : v < len
    · rw [h1 _ v h hz,show len - v = (len - (v + 1)) + 1 by omega]
      unfold firstE
      by_cases e : E v = 0
      · simp only [e,bne_self_eq_false,cond_false]
        exact ih (v + 1) (by omega) (by omega) fun j hj=>by
          by_cases hjv : j = v
          · rw [hjv]; exact e
          · exact hz j (by omega)
      · rw [bne_t e,cond_true,cond_true,bne_t e,cond_true]
    · have : v = len:=by omega
      subst this
      rw [h2 _ hz,Nat.sub_self]
      simp [firstE]
theorem loop_through {σ R : Type} {F : (σ → Option R) → σ → Option R} {st : Nat → σ} {k : Option R} {len : Nat} (h1 : ∀ back v,v < len → F back (st v) = back (st (v + 1))) (h2 : ∀ back,F back (st len) = k) : ∀ n,len < n → loopN F n (st 0) = k:=by
  intro n hn
  have:=loop_first (F:=F) (st:=st) (E:=fun _=>0) (err:=fun _=>none) (k:=k) (len:=len) (fun back v hv _=>by simp [h1 back v hv]) (fun back _=>h2 back) n 0 (by omega) (by omega) (fun _ _=>rfl)
  rw [this,Nat.sub_zero]
  have : firstE (fun _=>(0 : Int)) 0 len = 0:=by
    have : ∀ m v,firstE (fun _=>(0 : Int)) v m = 0:=by
      intro m
      induction m with
      | zero=>intro v; rfl
      | succ m ih=>intro v; simp [firstE,ih]
    exact this _ _
  rw [this]; rfl
def findI {α : Type} (p : α → Bool) (l : List α) : Int:=match l.findIdx? p with
  | some i=>((i : Nat) : Int)
  | none=>-1
theorem loop_find {α R : Type} [Inhabited α] {l : List α} {p : α → Bool} {F : (Nat → Option R) → Nat → Option R} {yes : Nat → Option R} {no : Option R}
    (hF : ∀ back v,F back v = bif decide (v < l.length) then (bif p (ix l v) then yes v else chk (nI (v + 1)) (back (v + 1))) else no) :
    ∀ n v,l.length - v < n → l.length < 9223372036854775807 → loopN F n v = match (l.drop v).findIdx? p with | some i=>yes (v + i) | none=>no:=by
  intro n
  induction n with
  | zero=>intro v h; omega
  | succ n ih =>
    intro v hn hl
    rw [loopN_s,hF]
    by_cases h : v < l.length
    · rw [drop_ix h,List.findIdx?_cons]
      simp only [h,decide_true,cond_true,nI_of (by omega : v + 1 ≤ 9223372036854775807),chk_t]
      cases hp : p (ix l v) with
      | true=>simp
      | false =>
        simp only [cond_false,Bool.false_eq_true,if_false]
        rw [ih (v + 1) (by omega) hl]
        cases hh : (l.drop (v + 1)).findIdx? p with
        | none=>simp
        | some i=>simp [Nat.add_assoc,Nat.add_comm 1 i]
    · rw [drop_nil h]
      simp [h]
theorem findI_neg {α : Type} {p : α → Bool} {l : List α} (h : findI p l < 0) : findI p l = -1 ∧ ∀ x ∈ l,p x = false:=by
  unfold findI at h ⊢
  split at h
  · omega
  · rename_i e
    rw [List.findIdx?_eq_none_iff] at e
    exact ⟨rfl,e⟩
theorem findI_pos {α : Type} [Inhabited α] {p : α → Bool} {l : List α} (h : ¬ findI p l < 0) : 0 ≤ findI p l ∧ (findI p l).toNat < l.length ∧ p (ix l (findI p l).toNat) = true ∧ ∀ j,j < (findI p l).toNat → p (ix l j) = false:=by
  unfold findI at h ⊢
  split at h
  · rename_i i e
    rw [List.findIdx?_eq_some_iff_getElem] at e
    obtain ⟨hi,hp,hb⟩:=e
    refine ⟨by omega,by simpa using hi,?_,fun j hj=>?_⟩
    · rw [ix_eq (by simpa using hi)]; simpa using hp
    · have hj : j < i:=by simpa using hj
      rw [ix_eq (by omega)]
      simpa using hb j hj
  · omega
end
section
set_option maxRecDepth 4000
open Go
theorem loop_find' {α R : Type} [Inhabited α] {l : List α} {p : α → Bool} {F : (Nat → Option R) → Nat → Option R} {yes : Nat → Option R} {no : Option R}
    (h1 : ∀ back v,v < l.length → F back v = bif p (ix l v) then yes v else back (v + 1)) (h2 : ∀ back,F back l.length = no) :
    ∀ n v,v ≤ l.length → l.length - v < n → loopN F n v = match (l.drop v).findIdx? p with | some i=>yes (v + i) | none=>no:=by
  intro n
  induction n with
  | zero=>intro v _ h; omega
  | succ n ih =>
    intro v hv hn
    rw [loopN_s]
    by_cases h : v < l.length
    · rw [h1 _ v h,drop_ix h,List.findIdx?_cons]
      cases hp : p (ix l v) with
      | true=>simp
      | false =>
        simp only [cond_false,Bool.false_eq_true,if_false]
        rw [ih (v + 1) (by omega) (by omega)]
        cases hh : (l.drop (v + 1)).findIdx? p with
        | none=>simp
        | some i=>simp [Nat.add_assoc,Nat.add_comm 1 i]
    · have : v = l.length:=by omega
      subst this
      rw [h2,drop_nil h]
      simp
theorem any_findIdx {α : Type} (p : α → Bool) (l : List α) : (l.findIdx? p).isSome = l.any p:=by
  induction l with
  | nil=>rfl
  | cons x l ih =>
    rw [List.findIdx?_cons,List.any_cons]
    cases p x <;> simp [ih]
theorem loop_any' {α R : Type} [Inhabited α] {l : List α} {p : α → Bool} {F : (Nat → Option R) → Nat → Option R} {bad no : Option R}
    (h1 : ∀ back v,v < l.length → F back v = bif p (ix l v) then bad else back (v + 1)) (h2 : ∀ back,F back l.length = no) (n : Nat) (hn : l.length < n) : loopN F n 0 = bif l.any p then bad else no:=by
  rw [loop_find' (yes:=fun _=>bad) h1 h2 n 0 (by omega) (by omega),List.drop_zero,← any_findIdx]
  cases l.findIdx? p <;> rfl
theorem loop_findI {α : Type} [Inhabited α] {l : List α} {p : α → Bool} {F : (Nat → Option Int) → Nat → Option Int}
    (h1 : ∀ back v,v < l.length → F back v = bif p (ix l v) then some ((v : Nat) : Int) else back (v + 1)) (h2 : ∀ back,F back l.length = some (-1)) (n : Nat) (hn : l.length < n) : loopN F n 0 = some (findI p l):=by
  rw [loop_find' h1 h2 n 0 (by omega) (by omega),List.drop_zero,findI]
  cases l.findIdx? p <;> simp
theorem findI_any {α : Type} (p : α → Bool) (l : List α) : decide ((0 : Int) ≤ findI p l) = l.any p:=by
  rw [← any_findIdx,findI]
  cases l.findIdx? p <;> simp
theorem findI_none {α : Type} (p : α → Bool) (l : List α) : decide (findI p l < (0 : Int)) = !l.any p:=by
  rw [← any_findIdx,findI]
  cases l.findIdx? p
  · simp
  · simp only [Option.isSome_some,Bool.not_true,decide_eq_false_iff_not]; omega
theorem any_congr {α : Type} {p q : α → Bool} {l : List α} (h : ∀ x ∈ l,p x = q x) : l.any p = l.any q:=by
  induction l with
  | nil=>rfl
  | cons x l ih =>
    rw [List.any_cons,List.any_cons,h x (by simp),ih fun y hy=>h y (by simp [hy])]
theorem findI_congr {α : Type} {p q : α → Bool} {l : List α} (h : ∀ x ∈ l,p x = q x) : findI p l = findI q l:=by
  have : l.findIdx? p = l.findIdx? q:=by
    induction l with
    | nil=>rfl
    | cons x l ih =>
      rw [List.findIdx?_cons,List.findIdx?_cons,h x (by simp),ih fun y hy=>h y (by simp [hy])]
  rw [findI,findI,this]
theorem findI_take {α : Type} [Inhabited α] {p : α → Bool} {l : List α} {i : Nat} : (l.take i).any p = (decide (findI p l < (i : Int)) && l.any p):=by
  rw [← any_findIdx,← any_findIdx,findI]
  cases h : l.findIdx? p with
  | none =>
    rw [List.findIdx?_eq_none_iff] at h
    have : (l.take i).findIdx? p = none:=by
      rw [List.findIdx?_eq_none_iff]
      exact fun x hx=>h x (List.mem_of_mem_take hx)
    simp [this]
  | some j =>
    rw [List.findIdx?_eq_some_iff_getElem] at h
    obtain ⟨hj,hp,hb⟩:=h
    simp only [Option.isSome_some,Bool.and_true]
    rw [any_findIdx,Bool.eq_iff_iff,List.any_eq_true,decide_eq_true_eq]
    constructor
    · rintro ⟨x,hx,hpx⟩
      obtain ⟨k,hk,rfl⟩:=List.mem_iff_getElem.1 hx
      simp only [List.length_take] at hk
      rw [List.getElem_take] at hpx
      by_cases hkj : k < j
      · have:=hb k hkj
        rw [hpx] at this; simp at this
      · omega
    · intro hji
      have hji : j < i:=by omega
      exact ⟨l[j],List.mem_iff_getElem.2 ⟨j,by simp; omega,by simp⟩,hp⟩
theorem loop_fold {σ R : Type} {F : (σ × Nat → Option R) → σ × Nat → Option R} {st : Nat → σ} {k : Option R} {len : Nat} (h1 : ∀ back v,v < len → F back (st v,v) = back (st (v + 1),v + 1)) (h2 : ∀ back,F back (st len,len) = k) (n : Nat) (hn : len < n) {s0 : σ} (h0 : st 0 = s0) : loopN F n (s0,0) = k:=by
  subst h0
  exact loop_through (st:=fun v=>(st v,v)) h1 h2 n hn
theorem loop_fold' {σ R : Type} {F : (Nat × σ → Option R) → Nat × σ → Option R} {st : Nat → σ} {k : Option R} {len : Nat} (h1 : ∀ back v,v < len → F back (v,st v) = back (v + 1,st (v + 1))) (h2 : ∀ back,F back (len,st len) = k) (n : Nat) (hn : len < n) {s0 : σ} (h0 : st 0 = s0) : loopN F n (0,s0) = k:=by
  subst h0
  exact loop_through (st:=fun v=>(v,st v)) h1 h2 n hn
theorem ix_take {α : Type} [Inhabited α] {l : List α} {i v : Nat} (h : v < i) (hl : v < l.length) : ix (l.take i) v = ix l v:=by
  rw [ix_eq (by simp; omega),ix_eq hl,List.getElem_take]
end
section
set_option maxRecDepth 4000
open Go
structure OkT (t : List Task) : Prop where
  len : t.length ≤ 63
  name : ∀ x ∈ t,x.Name.length ≤ 20
  needs : ∀ x ∈ t,x.Needs.length ≤ 13
  oneof : ∀ x ∈ t,x.OneOf.length ≤ 9
  group : ∀ x ∈ t,∀ g ∈ x.OneOf,g.length ≤ 9
  parts : ∀ x ∈ t,x.Parts.length ≤ 13
  part : ∀ x ∈ t,∀ p ∈ x.Parts,p.Part.length ≤ 20
variable {n : Nat}
def byName (s : Str) (x : Task) : Bool:=x.Name == s
theorem Find_eq (t : List Task) (s : Str) (hn : t.length < n) (hl : t.length < 9223372036854775807) : q52k n t s = some (findI (byName s) t):=by
  rw [q52k,withK_eq]
  refine loop_findI (fun back v hv=>?_) (fun back=>?_) n hn
  · rw [agrafferef08_Find_L1]; simp only [hv,decide_true,cond_true,nI_of (by omega : v + 1 ≤ 9223372036854775807),chk_t]; rfl
  · rw [agrafferef08_Find_L1]; simp
theorem find_eq (t : List Task) (s : Str) (hn : t.length < n) (hl : t.length < 9223372036854775807) : restore_list_find n t s = some (findI (byName s) t):=by
  rw [restore_list_find,slices_IndexFunc_Task,withK_eq,loop_findI (p:=byName s) (fun back v hv=>?_) (fun back=>?_) n hn]
  · rfl
  · rw [slices_IndexFunc_Task_L1]; simp only [hv,restore_list_find_f1,Option.bind_some,decide_true,cond_true,nI_of (by omega : v + 1 ≤ 9223372036854775807),chk_t]; rfl
  · rw [slices_IndexFunc_Task_L1]; simp
def byPartC (s : Str) (x : PartCount) : Bool:=x.Part == s
theorem FindPart_eq (l : List PartCount) (s : Str) (hn : l.length < n) (hl : l.length < 9223372036854775807) : agrafferef08_FindPart n l s = some (findI (byPartC s) l):=by
  rw [agrafferef08_FindPart,withK_eq]
  refine loop_findI (fun back v hv=>?_) (fun back=>?_) n hn
  · rw [agrafferef08_FindPart_L1]; simp only [hv,decide_true,cond_true,nI_of (by omega : v + 1 ≤ 9223372036854775807),chk_t]; rfl
  · rw [agrafferef08_FindPart_L1]; simp
theorem ContainsPart_eq (l : List PartCount) (s : Str) (c : Int) (hn : l.length < n) (hl : l.length < 9223372036854775807) : q43k n l s c = some (l.any (byPartC s)):=by
  rw [q43k,slices_IndexFunc_PartCount,withK_eq,loop_findI (p:=byPartC s) (fun back v hv=>?_) (fun back=>?_) n hn]
  · simp only [Option.bind_some,findI_any]
  · rw [q57k]; simp only [hv,restore_checkCounts_f1,Option.bind_some,decide_true,cond_true,nI_of (by omega : v + 1 ≤ 9223372036854775807),chk_t]; rfl
  · rw [q57k]; simp
def isS (s : Str) (x : Str) : Bool:=x == s
theorem HasText_eq (l : List Str) (s : Str) (hn : l.length < n) (hl : l.length < 9223372036854775807) : q58k n l s = some (l.any (isS s)):=by
  rw [q58k,withK_eq,loop_any' (p:=isS s) (fun back v hv=>?_) (fun back=>?_) n hn]
  · cases l.any (isS s) <;> rfl
  · rw [agraffebase_HasText_L1]; simp only [hv,decide_true,cond_true,nI_of (by omega : v + 1 ≤ 9223372036854775807),chk_t]; rfl
  · rw [agraffebase_HasText_L1]; simp
theorem HasText2_eq (l : List Str) (s : Str) (hn : l.length < n) (hl : l.length < 9223372036854775807) : agraffebase_HasText_2 n l s = some (l.any (isS s)):=by
  rw [agraffebase_HasText_2,withK_eq,loop_any' (p:=isS s) (fun back v hv=>?_) (fun back=>?_) n hn]
  · cases l.any (isS s) <;> rfl
  · rw [agraffebase_HasText_2_L1]; simp only [hv,decide_true,cond_true,nI_of (by omega : v + 1 ≤ 9223372036854775807),chk_t]; rfl
  · rw [agraffebase_HasText_2_L1]; simp
theorem isS_comm (s x : Str) : (s == x) = isS s x:=by
  unfold isS
  rw [Bool.eq_iff_iff,beq_iff_eq,beq_iff_eq]
  exact eq_comm
theorem Contains_eq (l : List Str) (s : Str) (hn : l.length < n) (hl : l.length < 9223372036854775807) : slices_Contains_string n l s = some (l.any (isS s)):=by
  rw [slices_Contains_string,slices_Index_string,withK_eq,loop_findI (p:=isS s) (fun back v hv=>?_) (fun back=>?_) n hn]
  · simp only [Option.bind_some,findI_any]
  · rw [slices_Index_string_L1]; simp only [hv,decide_true,cond_true,nI_of (by omega : v + 1 ≤ 9223372036854775807),chk_t,isS_comm]
  · rw [slices_Index_string_L1]; simp
theorem Contains2_eq (l : List Str) (s : Str) (hn : l.length < n) (hl : l.length < 9223372036854775807) : slices_Contains_string_2 n l s = some (l.any (isS s)):=by
  rw [slices_Contains_string_2,slices_Index_string_2,withK_eq,loop_findI (p:=isS s) (fun back v hv=>?_) (fun back=>?_) n hn]
  · simp only [Option.bind_some,findI_any]
  · rw [slices_Index_string_2_L1]; simp only [hv,decide_true,cond_true,nI_of (by omega : v + 1 ≤ 9223372036854775807),chk_t,isS_comm]
  · rw [slices_Index_string_2_L1]; simp
theorem bif_id {x : Int} : (bif x != 0 then some x else some 0) = some x:=by
  by_cases h : x = 0
  · simp [h]
  · rw [bne_t h]; rfl
theorem loop_errs {F : (Nat → Option Int) → Nat → Option Int} {E : Nat → Int} {k : Int} {len : Nat}
    (h1 : ∀ back v,v < len → F back v = bif E v != 0 then some (E v) else back (v + 1)) (h2 : ∀ back,F back len = some k) (hn : len < n) :
    loopN F n 0 = some (bif firstE E 0 len != 0 then firstE E 0 len else k):=by
  rw [loop_first (st:=fun v=>v) (E:=E) (err:=some) (k:=some k) (len:=len) (fun back v hv _=>h1 back v hv) (fun back _=>h2 back) n 0 (by omega) (by omega) (fun j h=>by omega),Nat.sub_zero]
  cases firstE E 0 len != 0 <;> rfl
theorem bif_int {x : Int} : (bif x != 0 then x else 0) = x:=by
  by_cases h : x = 0
  · simp [h]
  · rw [bne_t h]; rfl
def knownE (t : List Task) (l : List Str) (v : Nat) : Int:=bif !t.any (byName (ix l v)) then 6 else bif (l.take v).any (isS (ix l v)) then 5 else 0
def known (t : List Task) (l : List Str) : Int:=firstE (knownE t l) 0 l.length
theorem known_res {t : List Task} (l : List Str) (hn : 1000 < n) (ht : t.length ≤ 900) (hl : l.length ≤ 900) : restore_list_known n t l = some (known t l):=by
  rw [restore_list_known,withK_eq,loop_errs (E:=knownE t l) (k:=0) (fun back v hv=>?_) (fun back=>?_) (by omega : l.length < n),bif_int]; rfl
  · rw [restore_list_known_L1]
    have hle : v ≤ l.length:=by omega
    simp only [hv,hle,decide_true,cond_true,find_eq t (ix l v) (by omega : t.length < n) (by omega),Option.bind_some,findI_none,chk_t,Contains_eq (n:=n) (l.take v) (ix l v) (by simp; omega) (by simp; omega),nI_of (by omega : v + 1 ≤ 9223372036854775807),knownE]
    cases !t.any (byName (ix l v)) <;> cases (l.take v).any (isS (ix l v)) <;> rfl
  · rw [restore_list_known_L1]; simp
theorem known_ref {t : List Task} (l : List Str) (hn : 1000 < n) (ht : t.length ≤ 900) (hl : l.length ≤ 900) : agrafferef08_tasks n t l = some (known t l):=by
  rw [agrafferef08_tasks,withK_eq,loop_errs (E:=knownE t l) (k:=0) (fun back v hv=>?_) (fun back=>?_) (by omega : l.length < n),bif_int]; rfl
  · rw [agrafferef08_tasks_L1]
    have hle : v ≤ l.length:=by omega
    simp only [hv,hle,decide_true,cond_true,Find_eq t (ix l v) (by omega : t.length < n) (by omega),Option.bind_some,findI_none,chk_t,HasText_eq (n:=n) (l.take v) (ix l v) (by simp; omega) (by simp; omega),nI_of (by omega : v + 1 ≤ 9223372036854775807),knownE]
    cases !t.any (byName (ix l v)) <;> cases (l.take v).any (isS (ix l v)) <;> rfl
  · rw [agrafferef08_tasks_L1]; simp
theorem known_zero {t : List Task} {l : List Str} (h : known t l = 0) : ∀ s ∈ l,t.any (byName s) = true:=by
  intro s hs
  obtain ⟨i,hi,rfl⟩:=List.mem_iff_getElem.1 hs
  have:=firstE_zero h i (by omega) (by omega)
  unfold knownE at this
  rw [ix_eq hi] at this
  cases h1 : t.any (byName l[i])
  · rw [h1] at this; simp at this
  · rfl
def cntE (l : List PartCount) (most : Int) (v : Nat) : Int :=
  bif !nameB (ix l v).Part then 4 else bif (l.take v).any (byPartC (ix l v).Part) then 5 else bif !((decide (1 ≤ (ix l v).Count)) && (decide ((ix l v).Count ≤ most))) then 2 else 0
def cnts (l : List PartCount) (most : Int) : Int:=firstE (cntE l most) 0 l.length
theorem counts_res {l : List PartCount} (most : Int) (hn : 1000 < n) (hl : l.length ≤ 900) (hs : ∀ x ∈ l,x.Part.length ≤ 20) : q59k n l most = some (cnts l most):=by
  rw [q59k,withK_eq,loop_errs (E:=cntE l most) (k:=0) (fun back v hv=>?_) (fun back=>?_) (by omega : l.length < n),bif_int]; rfl
  · rw [restore_checkCounts_L1]
    have h1:=hs _ (ix_mem hv)
    have hle : v ≤ l.length:=by omega
    simp only [hv,hle,decide_true,cond_true,isName_eq (ix l v).Part n (by omega) (by omega),Option.bind_some,chk_t,ContainsPart_eq (n:=n) (l.take v) (ix l v).Part (ix l v).Count (by simp; omega) (by simp; omega),q53k,nI_of (by omega : v + 1 ≤ 9223372036854775807),cntE]
    cases nameB (ix l v).Part <;> cases (l.take v).any (byPartC (ix l v).Part) <;> cases (decide (1 ≤ (ix l v).Count)) && (decide ((ix l v).Count ≤ most)) <;> rfl
  · rw [restore_checkCounts_L1]; simp
theorem counts_ref {l : List PartCount} (most : Int) (hn : 1000 < n) (hl : l.length ≤ 900) (hs : ∀ x ∈ l,x.Part.length ≤ 20) : agrafferef08_counts n l most = some (cnts l most):=by
  rw [agrafferef08_counts,withK_eq,loop_errs (E:=cntE l most) (k:=0) (fun back v hv=>?_) (fun back=>?_) (by omega : l.length < n),bif_int]; rfl
  · rw [agrafferef08_counts_L1]
    have h1:=hs _ (ix_mem hv)
    have hle : v ≤ l.length:=by omega
    simp only [hv,hle,decide_true,cond_true,IsName_eq (ix l v).Part n (by omega) (by omega),Option.bind_some,chk_t,FindPart_eq (n:=n) (l.take v) (ix l v).Part (by simp; omega) (by simp; omega),findI_any,q29k,nI_of (by omega : v + 1 ≤ 9223372036854775807),cntE]
    cases nameB (ix l v).Part <;> cases (l.take v).any (byPartC (ix l v).Part) <;> cases (decide (1 ≤ (ix l v).Count)) && (decide ((ix l v).Count ≤ most)) <;> rfl
  · rw [agrafferef08_counts_L1]; simp
def grpE (t : List Task) (gs : List (List Str)) (v : Nat) : Int:=bif decide ((ix gs v).length = 0) then 10 else known t (ix gs v)
def large (x : Task) : Bool:=((decide (10 < x.Needs.length) || decide (6 < x.OneOf.length)) || x.OneOf.any (fun g=>decide (6 < g.length))) || decide (10 < x.Parts.length)
def taskE (t : List Task) (i : Nat) : Int :=
  bif !nameB (ix t i).Name then 4 else bif decide (findI (byName (ix t i).Name) t < (i : Int)) then 5
  else bif (!((decide (0 ≤ (ix t i).Cents)) && (decide ((ix t i).Cents ≤ 1000000000)))) || (!((decide (0 ≤ (ix t i).Hours)) && (decide ((ix t i).Hours ≤ 10000)))) then 2
  else bif large (ix t i) then 8 else bif known t (ix t i).Needs != 0 then known t (ix t i).Needs
  else bif firstE (grpE t (ix t i).OneOf) 0 (ix t i).OneOf.length != 0 then firstE (grpE t (ix t i).OneOf) 0 (ix t i).OneOf.length else cnts (ix t i).Parts 1000
theorem large_res (gs : List (List Str)) (hn : gs.length < n) (hl : gs.length < 9223372036854775807) : q51k n gs = some (gs.any (fun g=>decide (6 < g.length))):=by
  rw [q51k,slices_IndexFunc_string,withK_eq,loop_findI (p:=fun g=>decide (6 < g.length)) (fun back v hv=>?_) (fun back=>?_) n hn]
  · simp only [Option.bind_some,findI_any]
  · rw [slices_IndexFunc_string_L1]; simp only [hv,restore_list_checkTask_f1,Option.bind_some,decide_true,cond_true,nI_of (by omega : v + 1 ≤ 9223372036854775807),chk_t]
  · rw [slices_IndexFunc_string_L1]; simp
theorem task_res {t : List Task} (h : OkT t) (hn : 1000 < n) {i : Nat} (hi : i < t.length) : restore_list_checkTask n t ((i : Nat) : Int) = some (taskE t i):=by
  have hx:=ix_mem hi
  have hlen:=h.len
  have h1:=h.name _ hx
  have h2:=h.needs _ hx
  have h3:=h.oneof _ hx
  have h4:=h.parts _ hx
  rw [restore_list_checkTask]
  have e : ((i : Nat) : Int).toNat = i:=by omega
  have hin : inB ((i : Nat) : Int) t.length = true:=inB_of (by omega) (by omega)
  simp only [e,hin,hi,decide_true,chk_t,isName_eq (ix t i).Name n (by omega) (by omega),Option.bind_some,find_eq t (ix t i).Name (by omega : t.length < n) (by omega),q53k,gcall_some_,
    large_res (n:=n) (ix t i).OneOf (by omega) (by omega),known_res (n:=n) (t:=t) (ix t i).Needs hn (by omega) (by omega),withK_eq,counts_res (n:=n) (l:=(ix t i).Parts) 1000 hn (by omega) (h.part _ hx)]
  rw [loop_errs (E:=grpE t (ix t i).OneOf) (k:=cnts (ix t i).Parts 1000) (len:=(ix t i).OneOf.length) (fun back v hv=>?_) (fun back=>?_) (by omega)]
  · unfold taskE large
    cases nameB (ix t i).Name
    · rfl
    cases decide (findI (byName (ix t i).Name) t < (i : Int))
    · cases (!((decide (0 ≤ (ix t i).Cents)) && (decide ((ix t i).Cents ≤ 1000000000)))) || (!((decide (0 ≤ (ix t i).Hours)) && (decide ((ix t i).Hours ≤ 10000))))
      · simp only [Bool.not_true,cond_false]
        cases decide (10 < (ix t i).Needs.length) || decide (6 < (ix t i).OneOf.length)
        · simp only [Bool.not_false,cond_true,Bool.false_or]
          cases ((ix t i).OneOf.any fun g=>decide (6 < g.length)) || decide (10 < (ix t i).Parts.length)
          · cases known t (ix t i).Needs != 0 <;> rfl
          · rfl
        · simp
      · rfl
    · rfl
  · rw [restore_list_checkTask_L1]
    have hg:=h.group _ hx _ (ix_mem hv)
    simp only [e,hv,decide_true,cond_true,chk_t,known_res (n:=n) (t:=t) (ix (ix t i).OneOf v) hn (by omega) (by omega),Option.bind_some,nI_of (by omega : v + 1 ≤ 9223372036854775807),grpE]
    cases decide ((ix (ix t i).OneOf v).length = 0)
    · rfl
    · rfl
  · rw [restore_list_checkTask_L1]
    simp [e]
theorem task_ref {t : List Task} (h : OkT t) (hn : 1000 < n) {i : Nat} (hi : i < t.length) : agrafferef08_task n t ((i : Nat) : Int) = some (taskE t i):=by
  have hx:=ix_mem hi
  have hlen:=h.len
  have h1:=h.name _ hx
  have h2:=h.needs _ hx
  have h3:=h.oneof _ hx
  have h4:=h.parts _ hx
  rw [agrafferef08_task]
  have e : ((i : Nat) : Int).toNat = i:=by omega
  have hin : inB ((i : Nat) : Int) t.length = true:=inB_of (by omega) (by omega)
  have hic : inC ((i : Nat) : Int) t.length = true:=inC_of (by omega) (by omega)
  have hself : t.any (byName (ix t i).Name) = true:=List.any_eq_true.2 ⟨_,hx,by simp [byName]⟩
  have hft : decide ((0 : Int) ≤ findI (byName (ix t i).Name) (t.take i)) = decide (findI (byName (ix t i).Name) t < (i : Int)):=by
    rw [findI_any,findI_take,hself,Bool.and_true]
  simp only [e,hin,hic,hi,decide_true,chk_t,IsName_eq (ix t i).Name n (by omega) (by omega),Option.bind_some,Find_eq (n:=n) (t.take i) (ix t i).Name (by simp; omega) (by simp; omega),hft,q29k,gcall_some_,
    known_ref (n:=n) (t:=t) (ix t i).Needs hn (by omega) (by omega),withK_eq,counts_ref (n:=n) (l:=(ix t i).Parts) 1000 hn (by omega) (h.part _ hx)]
  rw [loop_errs (E:=grpE t (ix t i).OneOf) (k:=cnts (ix t i).Parts 1000) (len:=(ix t i).OneOf.length) (fun back v hv=>?_) (fun back=>?_) (by omega)]
  · rw [loop_fold (σ:=Bool) (st:=fun v=>((decide (10 < (ix t i).Needs.length) || decide (6 < (ix t i).OneOf.length)) || decide (10 < (ix t i).Parts.length)) || ((ix t i).OneOf.take v).any (fun g=>decide (6 < g.length))) (len:=(ix t i).OneOf.length) (k:=bif large (ix t i) then some 8 else bif known t (ix t i).Needs != 0 then some (known t (ix t i).Needs) else some (bif firstE (grpE t (ix t i).OneOf) 0 (ix t i).OneOf.length != 0 then firstE (grpE t (ix t i).OneOf) 0 (ix t i).OneOf.length else cnts (ix t i).Parts 1000)) (fun back v hv=>?_) (fun back=>?_) n (by omega) (by simp)]
    · unfold taskE
      cases nameB (ix t i).Name
      · rfl
      cases decide (findI (byName (ix t i).Name) t < (i : Int))
      · cases (!((decide (0 ≤ (ix t i).Cents)) && (decide ((ix t i).Cents ≤ 1000000000)))) || (!((decide (0 ≤ (ix t i).Hours)) && (decide ((ix t i).Hours ≤ 10000))))
        · simp only [Bool.not_true,cond_false]
          cases large (ix t i)
          · cases known t (ix t i).Needs != 0 <;> rfl
          · rfl
        · rfl
      · rfl
    · rw [agrafferef08_task_L1]
      simp only [e,hv,decide_true,cond_true,Bool.or_true,chk_t,nI_of (by omega : v + 1 ≤ 9223372036854775807)]
      rw [List.take_succ_eq_append_getElem hv,List.any_append,ix_eq hv]
      simp [Bool.or_assoc]
    · rw [agrafferef08_task_L1]
      have : (((decide (10 < (ix t i).Needs.length) || decide (6 < (ix t i).OneOf.length)) || decide (10 < (ix t i).Parts.length)) || (ix t i).OneOf.any (fun g=>decide (6 < g.length))) = large (ix t i):=by
        unfold large
        cases decide (10 < (ix t i).Needs.length) || decide (6 < (ix t i).OneOf.length) <;> cases decide (10 < (ix t i).Parts.length) <;> cases (ix t i).OneOf.any (fun g=>decide (6 < g.length)) <;> rfl
      simp only [e,Nat.lt_irrefl,decide_false,cond_false,List.take_length,this]
  · rw [agrafferef08_task_L2]
    have hg:=h.group _ hx _ (ix_mem hv)
    simp only [e,hv,decide_true,cond_true,chk_t,known_ref (n:=n) (t:=t) (ix (ix t i).OneOf v) hn (by omega) (by omega),Option.bind_some,nI_of (by omega : v + 1 ≤ 9223372036854775807),grpE]
    cases decide ((ix (ix t i).OneOf v).length = 0)
    · rfl
    · rfl
  · rw [agrafferef08_task_L2]
    simp [e]
end
section
set_option maxRecDepth 4000
open Go
variable {n : Nat}
theorem nodup_len {α : Type} [DecidableEq α] : ∀ (l m : List α),l.Nodup → (∀ x ∈ l,x ∈ m) → l.length ≤ m.length
  | [],_,_,_=>Nat.zero_le _
  | a :: l,m,h,hs=>by
    have ha : a ∈ m:=hs a (by simp)
    have h2:=List.nodup_cons.1 h
    have:=nodup_len l (m.erase a) h2.2 fun x hx=>(List.mem_erase_of_ne (by rintro rfl; exact h2.1 hx)).2 (hs x (by simp [hx]))
    rw [List.length_erase_of_mem ha] at this
    have hm:=List.length_pos_of_mem ha
    simp only [List.length_cons]; omega
theorem any_isS {l : List Str} {s : Str} : l.any (isS s) = true ↔ s ∈ l:=by
  rw [List.any_eq_true]
  constructor
  · rintro ⟨x,hx,h⟩; rw [← eq_of_beq h]; exact hx
  · exact fun h=>⟨s,h,by simp [isS]⟩
theorem any_byName {t : List Task} {s : Str} : t.any (byName s) = true ↔ ∃ x ∈ t,x.Name = s:=by
  rw [List.any_eq_true]
  constructor
  · rintro ⟨x,hx,h⟩; exact ⟨x,hx,eq_of_beq h⟩
  · rintro ⟨x,hx,h⟩; exact ⟨x,hx,by simp [byName,h]⟩
def leads (x : Task) : List Str:=x.Needs ++ x.OneOf.flatten
theorem flatten_len {b : Nat} : ∀ (l : List (List Str)),(∀ g ∈ l,g.length ≤ b) → l.flatten.length ≤ l.length * b
  | [],_=>by simp
  | g :: l,h=>by
    have h1:=h g (by simp)
    have h2:=flatten_len l fun x hx=>h x (by simp [hx])
    simp only [List.flatten_cons,List.length_append,List.length_cons,Nat.succ_mul]; omega
theorem take_flatten {α : Type} [Inhabited α] {l : List (List α)} {v : Nat} (hv : v < l.length) : (l.take (v + 1)).flatten = (l.take v).flatten ++ ix l v:=by
  rw [List.take_succ_eq_append_getElem hv,List.flatten_append,ix_eq hv]; simp
theorem Grow_eq (a : Nat) (ha : a ≤ 100000) : slices_Grow_string n ((a : Nat) : Int) = some []:=by
  rw [slices_Grow_string]
  have h1 : ¬ ((a : Nat) : Int) < 0:=by omega
  have h2 : ((a : Nat) : Int) - (0 - 0) = (a : Int):=by omega
  have h3 : (((a : Nat) : Int)).toNat = a:=by omega
  simp only [h1,h2,decide_false,cond_false,withK_eq]
  rw [chk_of (inI_of (by omega) (by omega)),chk_of (inI_of (by omega) (by omega))]
  by_cases h : 0 < a
  · have h4 : (0 : Int) < ((a : Nat) : Int):=by omega
    have h5 : (0 : Int) ≤ ((a : Nat) : Int):=by omega
    have hr : room 16 a = true:=room_of (by omega) (by omega)
    simp [h4,h5,h3,h,hr]
  · have h4 : ¬ (0 : Int) < ((a : Nat) : Int):=by omega
    simp only [h4,decide_false,cond_false]
theorem Concat_eq (l : List (List Str)) (hl : l.length ≤ 900) (hs : l.flatten.length ≤ 10000) (hn : 1000 < n) : slices_Concat_string n l = some l.flatten:=by
  have htk : ∀ v,v ≤ l.length → (l.take v).flatten.length ≤ l.flatten.length:=by
    intro v _
    have : l.flatten = (l.take v).flatten ++ (l.drop v).flatten:=by rw [← List.flatten_append,List.take_append_drop]
    rw [this,List.length_append]; omega
  rw [slices_Concat_string,withK_eq]
  rw [loop_fold (σ:=Nat) (st:=fun v=>(l.take v).flatten.length) (len:=l.length) (k:=some l.flatten) (fun back v hv=>?_) (fun back=>?_) n (by omega) (by simp)]
  · rw [slices_Concat_string_L1]
    have h1:=htk (v + 1) (by omega)
    rw [take_flatten hv,List.length_append] at h1
    have h2 : ¬ ((l.take v).flatten.length + (ix l v).length < 0):=by omega
    simp only [hv,decide_true,cond_true,nI_of (by omega : (l.take v).flatten.length + (ix l v).length ≤ 9223372036854775807),chk_t,h2,decide_false,cond_false,nI_of (by omega : v + 1 ≤ 9223372036854775807)]
    rw [take_flatten hv,List.length_append]
  · rw [slices_Concat_string_L1]
    have h1:=htk l.length (Nat.le_refl _)
    simp only [Nat.lt_irrefl,decide_false,cond_false,Grow_eq (n:=n) (l.take l.length).flatten.length (by omega),Option.bind_some,withK_eq]
    refine loop_fold' (σ:=List Str) (st:=fun v=>(l.take v).flatten) (len:=l.length) (fun back v hv=>?_) (fun back=>?_) n (by omega) (by simp)
    · rw [slices_Concat_string_L2]
      have h1:=htk (v + 1) (by omega)
      rw [take_flatten hv] at h1
      simp only [hv,decide_true,cond_true,room_of (b:=16) (n:=((l.take v).flatten ++ ix l v).length) (by omega) (by omega),chk_t,nI_of (by omega : v + 1 ≤ 9223372036854775807)]
      rw [take_flatten hv]
    · rw [slices_Concat_string_L2]; simp
theorem leads_len {t : List Task} (h : OkT t) {x : Task} (hx : x ∈ t) : (leads x).length ≤ 100:=by
  have h1:=h.needs x hx
  have h2:=h.oneof x hx
  have h3:=flatten_len (b:=9) x.OneOf (h.group x hx)
  simp only [leads,List.length_append]; omega
theorem leads_res {t : List Task} (h : OkT t) {x : Task} (hx : x ∈ t) (hn : 1000 < n) : restore_leads n x = some (leads x):=by
  have h1:=leads_len h hx
  have h2:=h.oneof x hx
  rw [restore_leads]
  have e : ([x.Needs] ++ x.OneOf : List (List Str)).flatten = leads x:=by simp [leads]
  rw [chk_of (room_of (by simp; omega) (by simp; omega)),Concat_eq _ (by simp; omega) (by rw [e]; omega) hn,e]
  rfl
theorem Leads_ref {t : List Task} (h : OkT t) {x : Task} (hx : x ∈ t) (hn : 1000 < n) : agrafferef08_Leads n x = some (leads x):=by
  have h1:=leads_len h hx
  have h2:=h.oneof x hx
  have h3:=h.needs x hx
  have htk : ∀ v,v ≤ x.OneOf.length → (x.OneOf.take v).flatten.length ≤ x.OneOf.flatten.length:=by
    intro v _
    have : x.OneOf.flatten = (x.OneOf.take v).flatten ++ (x.OneOf.drop v).flatten:=by rw [← List.flatten_append,List.take_append_drop]
    rw [this,List.length_append]; omega
  rw [agrafferef08_Leads,agraffebase_CopyTexts_2,chk_of (room_of (by omega) (by omega))]
  simp only [Option.bind_some,withK_eq]
  refine loop_fold' (σ:=List Str) (st:=fun v=>x.Needs ++ (x.OneOf.take v).flatten) (len:=x.OneOf.length) (fun back v hv=>?_) (fun back=>?_) n (by omega) (by simp)
  · rw [agrafferef08_Leads_L1]
    have h4:=htk (v + 1) (by omega)
    rw [take_flatten hv,List.length_append] at h4
    simp only [leads,List.length_append] at h1
    simp only [hv,decide_true,cond_true,room_of (b:=16) (n:=(x.Needs ++ (x.OneOf.take v).flatten ++ ix x.OneOf v).length) (by simp only [List.length_append]; omega) (by simp only [List.length_append]; omega),chk_t,nI_of (by omega : v + 1 ≤ 9223372036854775807)]
    rw [take_flatten hv,List.append_assoc]
  · rw [agrafferef08_Leads_L1]; simp [leads]
def Inv (t : List Task) (out : List Str) : Prop:=out.Nodup ∧ ∀ s ∈ out,t.any (byName s) = true
theorem Inv.len {t : List Task} {out : List Str} (h : Inv t out) : out.length ≤ t.length:=by
  have:=nodup_len out (t.map Task.Name) h.1 fun s hs=>by
    obtain ⟨x,hx,rfl⟩:=any_byName.1 (h.2 s hs)
    exact List.mem_map.2 ⟨x,hx,rfl⟩
  simpa using this
theorem Inv.nil (t : List Task) : Inv t []:=⟨List.nodup_nil,by simp⟩
def rdy (inS : Str → Bool) (out : List Str) (x : Task) : Bool:=(inS x.Name && !out.any (isS x.Name)) && !(leads x).any (fun s=>inS s && !out.any (isS s))
theorem Inv.step {t : List Task} {out : List Str} (h : Inv t out) {inS : Str → Bool} {x : Task} (hx : x ∈ t) (hr : rdy inS out x = true) : Inv t (out ++ [x.Name]):=by
  unfold rdy at hr
  simp only [Bool.and_eq_true,Bool.not_eq_true'] at hr
  have hn : x.Name ∉ out:=fun hm=>by
    have:=any_isS.2 hm
    rw [hr.1.2] at this; cases this
  refine ⟨List.nodup_append.2 ⟨h.1,by simp,fun a ha b hb=>?_⟩,fun s hs=>?_⟩
  · simp only [List.mem_singleton] at hb
    subst hb
    rintro rfl; exact hn ha
  · rw [List.mem_append,List.mem_singleton] at hs
    rcases hs with hs | rfl
    · exact h.2 s hs
    · exact any_byName.2 ⟨x,hx,rfl⟩
def ordF (t : List Task) (inS : Str → Bool) : Nat → List Str → List Str
  | 0,out=>out
  | k + 1,out=>bif decide (findI (rdy inS out) t < 0) then out else ordF t inS k (out ++ [(ix t (findI (rdy inS out) t).toNat).Name])
theorem order_loop {F : (List Str → Option (List Str)) → List Str → Option (List Str)} {t : List Task} {inS : Str → Bool}
    (hF : ∀ back out,Inv t out → F back out = bif decide (findI (rdy inS out) t < 0) then some out else back (out ++ [(ix t (findI (rdy inS out) t).toNat).Name])) :
    ∀ n out,Inv t out → t.length - out.length < n → loopN F n out = some (ordF t inS n out):=by
  intro n
  induction n with
  | zero=>intro out _ h; omega
  | succ n ih =>
    intro out hi hn
    rw [loopN_s,hF _ out hi,ordF]
    by_cases h : findI (rdy inS out) t < 0
    · simp [h]
    · obtain ⟨f1,f2,f3,f4⟩:=findI_pos h
      have hs:=hi.step (ix_mem f2) f3
      have hl:=hs.len
      simp only [List.length_append,List.length_singleton] at hl
      simp only [h,decide_false,cond_false]
      exact ih _ hs (by simp only [List.length_append,List.length_singleton]; omega)
theorem ordF_congr {t : List Task} {i1 i2 : Str → Bool} (h : ∀ x ∈ t,i1 x.Name = i2 x.Name ∧ ∀ s ∈ leads x,i1 s = i2 s) : ∀ n out,ordF t i1 n out = ordF t i2 n out:=by
  intro n
  induction n with
  | zero=>exact fun _=>rfl
  | succ n ih =>
    intro out
    have e : findI (rdy i1 out) t = findI (rdy i2 out) t:=findI_congr fun x hx=>by
      have e2 : (leads x).any (fun s=>i1 s && !out.any (isS s)) = (leads x).any (fun s=>i2 s && !out.any (isS s)):=any_congr fun s hs=>by rw [(h x hx).2 s hs]
      unfold rdy
      rw [(h x hx).1,e2]
    rw [ordF,ordF,e,ih]
theorem order_res {t : List Task} (h : OkT t) (hn : 1000 < n) : restore_list_order n t = some (ordF t (fun _=>true) n []):=by
  have hlen:=h.len
  rw [restore_list_order]
  refine order_loop (fun back out hi=>?_) n [] (Inv.nil t) (by simp; omega)
  have hol:=hi.len
  rw [restore_list_order_L1]
  have h1 : ∀ s,q48k n s out = some (!out.any (isS s)):=by
    intro s
    rw [q48k,restore_CheckTasks_f1,Contains2_eq out s (by omega) (by omega)]
    simp
  have h3 : ∀ l : List Str,l.length ≤ 900 → q46k n l out = some (l.any fun s=>!out.any (isS s)):=by
    intro l hl
    rw [q46k,slices_IndexFunc_string_3,withK_eq,loop_findI (l:=l) (p:=fun s=>!out.any (isS s)) (fun back v hv=>?_) (fun back=>?_) n (by omega)]
    · simp only [Option.bind_some,findI_any]
    · rw [slices_IndexFunc_string_3_L1]; simp only [hv,h1,Option.bind_some,decide_true,cond_true,nI_of (by omega : v + 1 ≤ 9223372036854775807),chk_t]
    · rw [slices_IndexFunc_string_3_L1]; simp
  have h2 : ∀ x ∈ t,restore_list_order_f2_2 n x out = some (rdy (fun _=>true) out x):=by
    intro x hx
    rw [restore_list_order_f2_2,h1,leads_res h hx hn]
    simp only [Option.bind_some,gcall_some_]
    unfold rdy
    cases hb : out.any (isS x.Name)
    · simp only [Bool.not_false,cond_true,h3 (leads x) (by have:=leads_len h hx; omega),gcall_some_,Option.bind_some,Bool.true_and]
    · simp [gcall]
  have h4 : slices_IndexFunc_Task_3 n t out = some (findI (rdy (fun _=>true) out) t):=by
    rw [slices_IndexFunc_Task_3,withK_eq]
    refine loop_findI (fun back v hv=>?_) (fun back=>?_) n (by omega)
    · rw [slices_IndexFunc_Task_3_L1]; simp only [hv,h2 _ (ix_mem hv),Option.bind_some,decide_true,cond_true,nI_of (by omega : v + 1 ≤ 9223372036854775807),chk_t]
    · rw [slices_IndexFunc_Task_3_L1]; simp
  rw [h4]
  simp only [Option.bind_some]
  by_cases hf : findI (rdy (fun _=>true) out) t < 0
  · simp [hf]
  · obtain ⟨f1,f2,f3,f4⟩:=findI_pos hf
    simp only [hf,decide_false,cond_false,inB_of f1 f2,chk_t,f2,decide_true]
    rw [chk_of (room_of (by simp; omega) (by simp; omega))]
theorem loop_flag {α R : Type} [Inhabited α] {l : List α} {p : α → Bool} {F : (Int × Nat → Option R) → Int × Nat → Option R} {k : Int → Option R}
    (h1 : ∀ back v,v < l.length → F back (-1,v) = bif p (ix l v) then back (((v : Nat) : Int),v + 1) else back (-1,v + 1))
    (h2 : ∀ back (i : Int) v,0 ≤ i → F back (i,v) = k i) (h3 : ∀ back,F back (-1,l.length) = k (-1)) (n : Nat) (hn : l.length + 1 < n) : loopN F n (-1,0) = k (findI p l):=by
  have : ∀ n v,v ≤ l.length → l.length - v + 1 < n → loopN F n (-1,v) = match (l.drop v).findIdx? p with | some i=>k (((v + i : Nat) : Int)) | none=>k (-1):=by
    intro n
    induction n with
    | zero=>intro v _ h; omega
    | succ n ih =>
      intro v hv hn
      rw [loopN_s]
      by_cases h : v < l.length
      · rw [h1 _ v h,drop_ix h,List.findIdx?_cons]
        cases hp : p (ix l v) with
        | true =>
          obtain ⟨n,rfl⟩ : ∃ m,n = m + 1:=⟨n - 1,by omega⟩
          simp only [cond_true,if_true,Nat.add_zero]
          rw [loopN_s,h2 _ _ _ (by omega)]
        | false =>
          simp only [cond_false,Bool.false_eq_true,if_false]
          rw [ih (v + 1) (by omega) (by omega)]
          cases hh : (l.drop (v + 1)).findIdx? p with
          | none=>simp
          | some i=>simp [Nat.add_assoc,Nat.add_comm 1 i]
      · have : v = l.length:=by omega
        subst this
        rw [h3,drop_nil h]
        simp
  rw [this n 0 (by omega) (by omega),List.drop_zero,findI]
  cases l.findIdx? p <;> simp
theorem all_take {α : Type} [Inhabited α] {l : List α} {p : α → Bool} {v : Nat} (hv : v < l.length) : (l.take (v + 1)).all p = ((l.take v).all p && p (ix l v)):=by
  rw [List.take_succ_eq_append_getElem hv,List.all_append,ix_eq hv]; simp
theorem Order_ref {t : List Task} (h : OkT t) {set : List Str} (hset : set.length ≤ 900) (hn : 1000 < n) : agrafferef08_Order n t set = some (ordF t (fun s=>set.any (isS s)) n []):=by
  have hlen:=h.len
  rw [agrafferef08_Order]
  refine order_loop (fun back out hi=>?_) n [] (Inv.nil t) (by simp; omega)
  have hol:=hi.len
  rw [agrafferef08_Order_L3,withK_eq]
  rw [loop_flag (l := t) (p := rdy (fun s => set.any (isS s)) out) (k := fun v51 => bif decide (v51 < (0 : Int)) then some out else
        chk (inB v51 t.length) <|
        chk (decide (v51.toNat < t.length)) <|
        chk (room 16 (out ++ ([(ix t v51.toNat).Name] : List Str)).length) <|
        back (out ++ ([(ix t v51.toNat).Name] : List Str))) (fun back v hv=>?_) (fun back i v hi=>?_) (fun back=>?_) n (by omega)]
  · by_cases hf : findI (rdy (fun s=>set.any (isS s)) out) t < 0
    · simp [hf]
    · obtain ⟨f1,f2,f3,f4⟩:=findI_pos hf
      simp only [hf,decide_false,cond_false,inB_of f1 f2,chk_t,f2,decide_true]
      rw [chk_of (room_of (by simp; omega) (by simp; omega))]
  · rw [agrafferef08_Order_L2]
    have hx:=ix_mem hv
    have hll:=leads_len h hx
    simp only [hv,decide_true,cond_true,show decide ((-1 : Int) < 0) = true from rfl,Bool.and_self,withK_eq,chk_t,HasText_eq set (ix t v).Name (by omega : set.length < n) (by omega),HasText2_eq out (ix t v).Name (by omega : out.length < n) (by omega),Option.bind_some,gcall_some_,Leads_ref h hx hn,nI_of (by omega : v + 1 ≤ 9223372036854775807)]
    rw [loop_fold (σ:=Bool) (st:=fun v'=>((leads (ix t v)).take v').all fun s=>!set.any (isS s) || out.any (isS s)) (len:=(leads (ix t v)).length)
      (k:=bif (leads (ix t v)).all (fun s=>!set.any (isS s) || out.any (isS s)) then back (((v : Nat) : Int),v + 1) else back (-1,v + 1)) (fun back' v' hv'=>?_) (fun back'=>?_) n (by omega) (by simp)]
    · have hb : rdy (fun s=>set.any (isS s)) out (ix t v) = ((set.any (isS (ix t v).Name) && !out.any (isS (ix t v).Name)) && !(leads (ix t v)).any (fun s=>set.any (isS s) && !out.any (isS s))):=rfl
      have e : (leads (ix t v)).all (fun s=>!set.any (isS s) || out.any (isS s)) = !(leads (ix t v)).any (fun s=>set.any (isS s) && !out.any (isS s)):=by
        rw [List.not_any_eq_all_not]
        congr 1
        funext s
        cases set.any (isS s) <;> cases out.any (isS s) <;> rfl
      rw [hb,e]
      cases set.any (isS (ix t v).Name) <;> cases out.any (isS (ix t v).Name) <;> simp
    · rw [agrafferef08_Order_L1]
      simp only [hv',decide_true,cond_true,HasText_eq set (ix (leads (ix t v)) v') (by omega : set.length < n) (by omega),HasText2_eq out (ix (leads (ix t v)) v') (by omega : out.length < n) (by omega),Option.bind_some,gcall_some_,nI_of (by omega : v' + 1 ≤ 9223372036854775807),chk_t]
      rw [all_take hv']
      cases ((leads (ix t v)).take v').all fun s=>!set.any (isS s) || out.any (isS s)
      · simp
      · cases set.any (isS (ix (leads (ix t v)) v')) <;> simp
    · rw [agrafferef08_Order_L1]
      simp
  · rw [agrafferef08_Order_L2]
    have : ¬ i < 0:=by omega
    simp [this]
  · rw [agrafferef08_Order_L2]
    simp
def tasksE (n : Nat) (t : List Task) : Int :=
  bif decide (60 < t.length) then 8 else bif firstE (taskE t) 0 t.length != 0 then firstE (taskE t) 0 t.length
  else bif decide ((ordF t (fun _=>true) n []).length < t.length) then 21 else 0
theorem CheckTasks_res {t : List Task} (h : OkT t) (hn : 1000 < n) : restore_CheckTasks n t = some (tasksE n t):=by
  have hlen:=h.len
  rw [restore_CheckTasks,tasksE]
  by_cases hl : 60 < t.length
  · simp [hl]
  simp only [hl,decide_false,cond_false,withK_eq,order_res h hn,Option.bind_some]
  rw [loop_errs (E:=taskE t) (len:=t.length) (k:=bif decide ((ordF t (fun _=>true) n []).length < t.length) then 21 else 0) (fun back v hv=>?_) (fun back=>?_) (by omega)]
  · rw [restore_CheckTasks_L1]
    simp only [hv,decide_true,cond_true,task_res h hn hv,Option.bind_some,nI_of (by omega : v + 1 ≤ 9223372036854775807),chk_t]
  · rw [restore_CheckTasks_L1]
    simp only [Nat.lt_irrefl,decide_false,cond_false]
    cases decide ((ordF t (fun _=>true) n []).length < t.length) <;> rfl
theorem lead_known {t : List Task} {i : Nat} (hi : i < t.length) (h : taskE t i = 0) : ∀ s ∈ leads (ix t i),t.any (byName s) = true:=by
  unfold taskE at h
  cases h1 : nameB (ix t i).Name
  · simp [h1] at h
  rw [h1] at h
  simp only [Bool.not_true,cond_false] at h
  cases h2 : decide (findI (byName (ix t i).Name) t < (i : Int))
  · rw [h2] at h
    simp only [cond_false] at h
    cases h3 : (!((decide (0 ≤ (ix t i).Cents)) && (decide ((ix t i).Cents ≤ 1000000000)))) || (!((decide (0 ≤ (ix t i).Hours)) && (decide ((ix t i).Hours ≤ 10000))))
    · rw [h3] at h
      simp only [cond_false] at h
      cases h4 : large (ix t i)
      · rw [h4] at h
        simp only [cond_false] at h
        by_cases h5 : known t (ix t i).Needs = 0
        · simp only [h5,bne_self_eq_false,cond_false] at h
          by_cases h6 : firstE (grpE t (ix t i).OneOf) 0 (ix t i).OneOf.length = 0
          · intro s hs
            rw [leads,List.mem_append] at hs
            rcases hs with hs | hs
            · exact known_zero h5 s hs
            · obtain ⟨g,hg,hsg⟩:=List.mem_flatten.1 hs
              obtain ⟨k,hk,rfl⟩:=List.mem_iff_getElem.1 hg
              have:=firstE_zero h6 k (by omega) (by omega)
              unfold grpE at this
              rw [ix_eq hk] at this
              cases h7 : decide ((ix t i).OneOf[k].length = 0)
              · rw [h7] at this
                simp only [cond_false] at this
                exact known_zero this s hsg
              · rw [h7] at this; simp at this
          · rw [bne_t h6,cond_true] at h; exact absurd h h6
        · rw [bne_t h5,cond_true] at h; exact absurd h h5
      · rw [h4] at h; simp at h
    · rw [h3] at h; simp at h
  · rw [h2] at h; simp at h
theorem CheckTasks_ref {t : List Task} (h : OkT t) (hn : 1000 < n) : agrafferef08_CheckTasks n t = some (tasksE n t):=by
  have hlen:=h.len
  rw [agrafferef08_CheckTasks,tasksE]
  by_cases hl : 60 < t.length
  · simp [hl]
  simp only [hl,decide_false,cond_false,withK_eq]
  by_cases h0 : firstE (taskE t) 0 t.length = 0
  · have hcong : ordF t (fun s=>(t.map Task.Name).any (isS s)) n [] = ordF t (fun _=>true) n []:=by
      refine ordF_congr (fun x hx=>⟨any_isS.2 (List.mem_map.2 ⟨x,hx,rfl⟩),fun s hs=>?_⟩) n []
      obtain ⟨i,hi,rfl⟩:=List.mem_iff_getElem.1 hx
      have hz:=firstE_zero h0 i (by omega) (by omega)
      rw [← ix_eq hi] at hs
      obtain ⟨y,hy,e⟩:=any_byName.1 (lead_known hi hz s hs)
      exact any_isS.2 (List.mem_map.2 ⟨y,hy,e⟩)
    rw [loop_errs (E:=taskE t) (len:=t.length) (k:=bif decide ((ordF t (fun _=>true) n []).length < t.length) then 21 else 0) (fun back v hv=>?_) (fun back=>?_) (by omega)]
    · rw [q21k]
      simp only [hv,decide_true,cond_true,task_ref h hn hv,Option.bind_some,nI_of (by omega : v + 1 ≤ 9223372036854775807),chk_t]
    · rw [q21k]
      simp only [Nat.lt_irrefl,decide_false,cond_false]
      rw [loop_fold (σ:=List Str) (st:=fun v=>(t.take v).map Task.Name) (len:=t.length) (k:=some (bif decide ((ordF t (fun _=>true) n []).length < t.length) then 21 else 0)) (fun back v hv=>?_) (fun back=>?_) n (by omega) (by simp)]
      · rw [q50k]
        simp only [hv,decide_true,cond_true,nI_of (by omega : v + 1 ≤ 9223372036854775807),chk_t]
        rw [chk_of (room_of (by simp; omega) (by simp; omega)),List.take_succ_eq_append_getElem hv,List.map_append,ix_eq hv]
        rfl
      · rw [q50k]
        simp only [Nat.lt_irrefl,decide_false,cond_false,List.take_length,Order_ref h (set:=t.map Task.Name) (by simp; omega) hn,Option.bind_some,hcong]
        cases decide ((ordF t (fun _=>true) n []).length < t.length) <;> rfl
  · rw [loop_first (st:=fun v=>v) (E:=taskE t) (err:=some) (k:=q21k n t (fun _=>loopN (q50k t fun v6=>(agrafferef08_Order n t v6).bind fun y7=>bif decide (y7.length < t.length) then some 21 else some 0) n ([],0)) (fun _=>none) t.length) (len:=t.length) (fun back v hv _=>?_) (fun back _=>?_) n 0 (by omega) (by omega) (fun j h=>by omega),Nat.sub_zero,bne_t h0,cond_true,cond_true]
    · rw [q21k]
      simp only [hv,decide_true,cond_true,task_ref h hn hv,Option.bind_some,nI_of (by omega : v + 1 ≤ 9223372036854775807),chk_t]
    · rw [q21k,q21k]
      simp
end
section
set_option maxRecDepth 4000
open Go
def byPart (s : Str) (x : Stocked) : Bool:=x.Part == s
theorem FindStock_eq (n : Nat) (a0 : List Stocked) (s : Str) (hn : a0.length < n) (hl : a0.length < 9223372036854775807) : q45k n a0 s = some (findI (byPart s) a0):=by
  rw [q45k,withK_eq]
  rw [loop_find (l:=a0) (p:=byPart s) (yes:=fun v=>some ((v : Nat) : Int)) (no:=some (-1)) (fun back v=>by rw [agrafferef08_FindStock_L1]; rfl) n 0 (by omega) hl]
  simp only [List.drop_zero,findI]
  cases a0.findIdx? (byPart s) <;> simp
theorem stocked_eq (n : Nat) (a0 : List Stocked) (s : Str) (hn : a0.length < n) (hl : a0.length < 9223372036854775807) : restore_stocked n a0 s = some (findI (byPart s) a0):=by
  rw [restore_stocked,slices_IndexFunc_Stocked,withK_eq]
  rw [loop_find (l:=a0) (p:=byPart s) (yes:=fun v=>some ((v : Nat) : Int)) (no:=some (-1)) (fun back v=>by rw [slices_IndexFunc_Stocked_L1]; simp only [restore_stocked_f1,Option.bind_some]; rfl) n 0 (by omega) hl]
  simp only [List.drop_zero,findI]
  cases a0.findIdx? (byPart s) <;> simp
def stockE (a0 : List Stocked) (v : Nat) : Int :=
  bif !nameB (ix a0 v).Part then 4 else bif decide ((0 : Int) ≤ findI (byPart (ix a0 v).Part) (a0.take v)) then 5
  else bif (!((decide (0 ≤ (ix a0 v).Cents)) && (decide ((ix a0 v).Cents ≤ 1000000000)))) || (!((decide (0 ≤ (ix a0 v).Count)) && (decide ((ix a0 v).Count ≤ 10000)))) then 2 else 0
def stockC (a0 : List Stocked) : Int:=bif decide (60 < a0.length) then 8 else firstE (stockE a0) 0 a0.length
theorem CheckStock_res (n : Nat) (a0 : List Stocked) (hs : ∀ x ∈ a0,x.Part.length ≤ 20) (hn : 100 < n) : restore_CheckStock n a0 = some (stockC a0):=by
  rw [restore_CheckStock,stockC]
  by_cases hlen : 60 < a0.length
  · simp [hlen]
  simp only [hlen,decide_false,cond_false,withK_eq]
  rw [loop_first (st:=fun v=>v) (E:=stockE a0) (err:=some) (k:=some 0) (len:=a0.length) ?_ ?_ n 0 (by omega) (by omega) (fun j h=>by omega)]
  · rw [Nat.sub_zero]; exact bif_id
  · intro back v hv _
    rw [restore_CheckStock_L1]
    have h1:=hs _ (ix_mem hv)
    have hI:=isName_eq (ix a0 v).Part n (by omega) (by omega)
    have hF:=stocked_eq n (a0.take v) (ix a0 v).Part (by simp; omega) (by simp; omega)
    have hle : v ≤ a0.length:=by omega
    simp only [hv,hle,decide_true,cond_true,hI,Option.bind_some,hF,q53k,gcall_some_,nI_of (by omega : v + 1 ≤ 9223372036854775807),chk_t,stockE]
    cases nameB (ix a0 v).Part <;> cases decide ((0 : Int) ≤ findI (byPart (ix a0 v).Part) (a0.take v)) <;> simp only [Bool.not_true,Bool.not_false,cond_true,cond_false] <;> first | rfl | skip
    cases ((!((decide (0 ≤ (ix a0 v).Cents)) && (decide ((ix a0 v).Cents ≤ 1000000000)))) || (!((decide (0 ≤ (ix a0 v).Count)) && (decide ((ix a0 v).Count ≤ 10000))))) <;> rfl
  · intro back _
    rw [restore_CheckStock_L1]
    simp
end
section
set_option maxRecDepth 4000
open Go
variable {n : Nat}
@[simp] theorem gcall_t {α : Type} [Inhabited α] (x : Option α) : gcall true x = x:=rfl
@[simp] theorem gcall_f {α : Type} [Inhabited α] (x : Option α) : gcall false x = some default:=rfl
def textsB (l : List Str) (m : Int) : Bool:=!decide (m < (l.length : Int)) && !l.any fun s=>decide (20 < s.length)
theorem texts_eq (l : List Str) (m : Int) (hm : m ≤ 500) (hn : 1000 < n) : agraffelaw08_texts n l m = some (textsB l m):=by
  rw [agraffelaw08_texts,textsB]
  by_cases h : m < (l.length : Int)
  · simp [h]
  · simp only [h,decide_false,cond_false,withK_eq]
    rw [loop_any' (l:=l) (p:=fun s=>decide (20 < s.length)) (bad:=some false) (no:=some true) (fun back v hv=>?_) (fun back=>?_) n (by omega)]
    · cases l.any fun s=>decide (20 < s.length) <;> rfl
    · rw [agraffelaw08_texts_L1]; simp only [hv,decide_true,cond_true,nI_of (by omega : v + 1 ≤ 9223372036854775807),chk_t]
    · rw [agraffelaw08_texts_L1]; simp
theorem textsB_len {l : List Str} {m : Int} (h : textsB l m = true) : (l.length : Int) ≤ m:=by
  unfold textsB at h
  simp only [Bool.and_eq_true,Bool.not_eq_true',decide_eq_false_iff_not] at h
  omega
def badT (x : Task) : Bool:=((((decide (20 < x.Name.length)) || !textsB x.Needs 13) || decide (9 < x.OneOf.length)) || decide (13 < x.Parts.length)) || (x.OneOf.any (fun g=>!textsB g 9) || x.Parts.any (fun p=>decide (20 < p.Part.length)))
def fewB (t : List Task) : Bool:=!(((decide (9 < t.length)) && decide (t.length ≤ 60)) || decide (63 < t.length)) && !t.any badT
theorem Few_eq (t : List Task) (hn : 1000 < n) : agraffelaw08_Few n t = some (fewB t):=by
  rw [agraffelaw08_Few,fewB]
  cases hl : ((decide (9 < t.length)) && decide (t.length ≤ 60)) || decide (63 < t.length)
  · simp only [Bool.or_eq_false_iff,decide_eq_false_iff_not] at hl
    simp only [cond_false,withK_eq,Bool.not_false,Bool.true_and]
    rw [loop_any' (l:=t) (p:=badT) (bad:=some false) (no:=some true) (fun back v hv=>?_) (fun back=>?_) n (by omega)]
    · cases t.any badT <;> rfl
    · rw [agraffelaw08_Few_L3]
      simp only [hv,decide_true,cond_true,nI_of (by omega : v + 1 ≤ 9223372036854775807),chk_t,withK_eq,texts_eq (n:=n) (ix t v).Needs 13 (by omega) hn,gcall_some_,Option.bind_some]
      have e : ((((decide (20 < (ix t v).Name.length)) || !(bif !decide (20 < (ix t v).Name.length) then textsB (ix t v).Needs 13 else default)) || decide (9 < (ix t v).OneOf.length)) || decide (13 < (ix t v).Parts.length)) = ((((decide (20 < (ix t v).Name.length)) || !textsB (ix t v).Needs 13) || decide (9 < (ix t v).OneOf.length)) || decide (13 < (ix t v).Parts.length)):=by
        cases decide (20 < (ix t v).Name.length) <;> simp
      rw [e]
      unfold badT
      cases hb : ((((decide (20 < (ix t v).Name.length)) || !textsB (ix t v).Needs 13) || decide (9 < (ix t v).OneOf.length)) || decide (13 < (ix t v).Parts.length))
      · simp only [Bool.or_eq_false_iff,decide_eq_false_iff_not] at hb
        simp only [cond_false,Bool.false_or]
        rw [loop_any' (l:=(ix t v).OneOf) (p:=fun g=>!textsB g 9) (bad:=some false) (no:=bif (ix t v).Parts.any (fun p=>decide (20 < p.Part.length)) then some false else back (v + 1)) (fun back' v' hv'=>?_) (fun back'=>?_) n (by omega)]
        · cases (ix t v).OneOf.any fun g=>!textsB g 9 <;> rfl
        · rw [agraffelaw08_Few_L1]
          simp only [hv',decide_true,cond_true,chk_t,texts_eq (n:=n) (ix (ix t v).OneOf v') 9 (by omega) hn,Option.bind_some,nI_of (by omega : v' + 1 ≤ 9223372036854775807)]
        · rw [agraffelaw08_Few_L1]
          simp only [Nat.lt_irrefl,decide_false,cond_false]
          rw [loop_any' (l:=(ix t v).Parts) (p:=fun p=>decide (20 < p.Part.length)) (bad:=some false) (no:=back (v + 1)) (fun back' v' hv'=>?_) (fun back'=>?_) n (by omega)]
          · rw [agraffelaw08_Few_L2]
            simp only [hv',decide_true,cond_true,chk_t,nI_of (by omega : v' + 1 ≤ 9223372036854775807)]
          · rw [agraffelaw08_Few_L2]
            simp
      · simp
    · rw [agraffelaw08_Few_L3]; simp
  · simp
theorem few_ok {t : List Task} (h : fewB t = true) : OkT t:=by
  unfold fewB at h
  simp only [Bool.and_eq_true,Bool.not_eq_true',Bool.or_eq_false_iff,decide_eq_false_iff_not] at h
  obtain ⟨⟨_,hl⟩,hb⟩:=h
  rw [List.any_eq_false] at hb
  have key : ∀ x ∈ t,x.Name.length ≤ 20 ∧ textsB x.Needs 13 = true ∧ x.OneOf.length ≤ 9 ∧ x.Parts.length ≤ 13 ∧ (∀ g ∈ x.OneOf,textsB g 9 = true) ∧ ∀ p ∈ x.Parts,p.Part.length ≤ 20:=by
    intro x hx
    have h1:=hb x hx
    unfold badT at h1
    simp only [Bool.not_eq_true,Bool.or_eq_false_iff,decide_eq_false_iff_not,Bool.not_eq_false',List.any_eq_false,decide_eq_true_eq,Bool.not_eq_true'] at h1
    obtain ⟨⟨⟨⟨a,b⟩,c⟩,d⟩,e,f⟩:=h1
    refine ⟨by omega,b,by omega,by omega,fun g hg=>?_,fun p hp=>?_⟩
    · have:=e g hg
      simpa using this
    · have:=f p hp
      omega
  refine ⟨by omega,fun x hx=>(key x hx).1,fun x hx=>?_,fun x hx=>(key x hx).2.2.1,fun x hx g hg=>?_,fun x hx=>(key x hx).2.2.2.1,fun x hx=>(key x hx).2.2.2.2.2⟩
  · have:=textsB_len (key x hx).2.1; omega
  · have:=textsB_len ((key x hx).2.2.2.2.1 g hg); omega
end
section
set_option maxRecDepth 4000
open Go
variable {n : Nat}
theorem bLt_irr (a : Str) : bLt a a = false:=by
  induction a with
  | nil=>rfl
  | cons x a ih=>simp [bLt,Op.bytesLess] at ih ⊢; exact ih
theorem bLt_tri : ∀ (a b : Str),bLt a b = true ∨ a = b ∨ bLt b a = true
  | [],[]=>.inr (.inl rfl)
  | [],y :: b=>.inl (by simp [bLt,Op.bytesLess])
  | x :: a,[]=>.inr (.inr (by simp [bLt,Op.bytesLess]))
  | x :: a,y :: b=>by
    have ih:=bLt_tri a b
    simp only [bLt,Op.bytesLess] at ih ⊢
    by_cases h : x < y
    · simp [h]
    · by_cases g : y < x
      · simp [g]
      · have : x = y:=UInt8.le_antisymm (UInt8.not_lt.1 g) (UInt8.not_lt.1 h)
        subst this
        simpa [h] using ih
theorem bLt_trans : ∀ (a b c : Str),bLt a b = true → bLt b c = true → bLt a c = true
  | [],[],c,h,_=>by simp [bLt,Op.bytesLess] at h
  | [],y :: b,[],_,g=>by simp [bLt,Op.bytesLess] at g
  | [],y :: b,z :: c,_,_=>by simp [bLt,Op.bytesLess]
  | x :: a,[],c,h,_=>by simp [bLt,Op.bytesLess] at h
  | x :: a,y :: b,[],_,g=>by simp [bLt,Op.bytesLess] at g
  | x :: a,y :: b,z :: c,h,g=>by
    have ih:=bLt_trans a b c
    simp only [bLt,Op.bytesLess,Bool.or_eq_true,Bool.and_eq_true,decide_eq_true_eq,beq_iff_eq] at ih h g ⊢
    rcases h with h | ⟨h1,h2⟩
    · rcases g with g | ⟨g1,g2⟩
      · exact .inl (UInt8.lt_trans h g)
      · subst g1; exact .inl h
    · subst h1
      rcases g with g | ⟨g1,g2⟩
      · exact .inl g
      · exact .inr ⟨g1,ih h2 g2⟩
theorem bLt_asym {a b : Str} (h : bLt a b = true) : bLt b a = false:=by
  cases g : bLt b a with
  | false=>rfl
  | true=>have:=bLt_trans _ _ _ h g; rw [bLt_irr] at this; cases this
theorem bLt_not (a b : Str) : (!bLt a b) = (bLt b a || (b == a)):=by
  rcases bLt_tri a b with h | h | h
  · have g:=bLt_asym h
    have : (b == a) = false:=by
      rw [beq_eq_false_iff_ne]; rintro rfl; rw [bLt_irr] at h; cases h
    simp [h,g,this]
  · subst h; simp [bLt_irr]
  · simp [h,bLt_asym h]
def Asc (l : List Str) : Prop:=l.Pairwise fun a b=>bLt a b = true
theorem Asc.ext : ∀ {l m : List Str},Asc l → Asc m → (∀ s,s ∈ l ↔ s ∈ m) → l = m
  | [],[],_,_,_=>rfl
  | [],y :: m,_,_,h=>by have:=(h y).2 (by simp); simp at this
  | x :: l,[],_,_,h=>by have:=(h x).1 (by simp); simp at this
  | x :: l,y :: m,h1,h2,h=>by
    have g1:=List.pairwise_cons.1 h1
    have g2:=List.pairwise_cons.1 h2
    have e : x = y:=by
      have a1:=(h x).1 (by simp)
      have a2:=(h y).2 (by simp)
      rcases List.mem_cons.1 a1 with c | c
      · exact c
      · rcases List.mem_cons.1 a2 with d | d
        · exact d.symm
        · have u1:=g2.1 x c
          have u2:=g1.1 y d
          rw [bLt_asym u1] at u2; cases u2
    subst e
    congr 1
    refine Asc.ext g1.2 g2.2 fun s=>?_
    have hs:=h s
    simp only [List.mem_cons] at hs
    constructor
    · intro hl
      rcases hs.1 (.inr hl) with c | c
      · subst c; have:=g1.1 _ hl; rw [bLt_irr] at this; cases this
      · exact c
    · intro hl
      rcases hs.2 (.inr hl) with c | c
      · subst c; have:=g2.1 _ hl; rw [bLt_irr] at this; cases this
      · exact c
theorem Asc.of_ix {l : List Str} (h : ∀ v,1 ≤ v → v < l.length → bLt (ix l (v - 1)) (ix l v) = true) : Asc l:=by
  have key : ∀ d i,i + d + 1 < l.length → bLt (ix l i) (ix l (i + d + 1)) = true:=by
    intro d
    induction d with
    | zero=>intro i hi; exact h (i + 1) (by omega) hi
    | succ d ih=>intro i hi; exact bLt_trans _ _ _ (ih i (by omega)) (h (i + (d + 1) + 1) (by omega) hi)
  rw [Asc,List.pairwise_iff_getElem]
  intro i j hi hj hij
  have:=key (j - i - 1) i (by omega)
  rw [show i + (j - i - 1) + 1 = j by omega,ix_eq hi,ix_eq hj] at this
  exact this
theorem Asc.nodup {l : List Str} (h : Asc l) : l.Nodup:=by
  rw [List.nodup_iff_pairwise_ne]
  refine List.Pairwise.imp ?_ h
  rintro a b hab rfl
  rw [bLt_irr] at hab; cases hab
def setE1 (t : List Task) (l : List Str) (v : Nat) : Int:=bif !t.any (byName (ix l v)) then 6 else 0
def setE2 (l : List Str) (v : Nat) : Int:=bif !bLt (ix l (v - 1)) (ix l v) then 9 else 0
def setE (t : List Task) (l : List Str) : Int:=bif firstE (setE1 t l) 0 l.length != 0 then firstE (setE1 t l) 0 l.length else firstE (setE2 l) 1 (l.length - 1)
theorem set_loop2 {F : (Nat → Option Int) → Nat → Option Int} {l : List Str} (h1 : ∀ back v,1 ≤ v → v < l.length → F back v = bif !bLt (ix l (v - 1)) (ix l v) then some 9 else back (v + 1)) (h2 : ∀ back v,l.length ≤ v → F back v = some 0) (hl : l.length < n) : loopN F n 1 = some (firstE (setE2 l) 1 (l.length - 1)):=by
  have main : ∀ n v,1 ≤ v → l.length - v < n → loopN F n v = some (firstE (setE2 l) v (l.length - v)):=by
    intro n
    induction n with
    | zero=>intro v _ h; omega
    | succ n ih =>
      intro v hv hn
      rw [loopN_s]
      by_cases h : v < l.length
      · rw [h1 _ _ hv h,ih (v + 1) (by omega) (by omega),show l.length - v = (l.length - (v + 1)) + 1 by omega,firstE,setE2]
        cases !bLt (ix l (v - 1)) (ix l v) <;> simp
      · rw [h2 _ _ (by omega),show l.length - v = 0 by omega]; rfl
  exact main n 1 (by omega) (by omega)
theorem set_res {t : List Task} {l : List Str} (ht : t.length ≤ 900) (hl : l.length ≤ 900) (hn : 1000 < n) : restore_list_checkSet n t l = some (setE t l):=by
  rw [restore_list_checkSet]
  simp only [withK_eq]
  rw [set_loop2 (n:=n) (l:=l) (fun back v h1 h2=>?_) (fun back v h=>?_) (by omega),setE]
  · rw [loop_errs (n:=n) (E:=setE1 t l) (len:=l.length) (k:=firstE (setE2 l) 1 (l.length - 1)) (fun back v hv=>?_) (fun back=>?_) (by omega)]
    · rw [restore_list_checkSet_L1]
      simp only [hv,decide_true,cond_true,find_eq t (ix l v) (by omega : t.length < n) (by omega),Option.bind_some,findI_none,nI_of (by omega : v + 1 ≤ 9223372036854775807),chk_t,setE1]
      cases !t.any (byName (ix l v)) <;> rfl
    · rw [restore_list_checkSet_L1]; simp
  · have e : (((v : Nat) : Int) - 1).toNat = v - 1:=by omega
    rw [restore_list_checkSet_L2]
    simp only [h2,decide_true,cond_true,e,show v - 1 < l.length by omega,chk_t]
    rw [chk_of (inI_of (by omega) (by omega)),chk_of (inB_of (by omega) (by omega)),← bLt_not,chk_of (nI_of (by omega))]
  · rw [restore_list_checkSet_L2]
    simp [show ¬ v < l.length by omega]
theorem set_ok {t : List Task} {l : List Str} (h : setE t l = 0) : (∀ s ∈ l,t.any (byName s) = true) ∧ Asc l:=by
  unfold setE at h
  by_cases h1 : firstE (setE1 t l) 0 l.length = 0
  · rw [h1] at h
    simp only [bne_self_eq_false,cond_false] at h
    refine ⟨fun s hs=>?_,Asc.of_ix fun v h2 h3=>?_⟩
    · obtain ⟨i,hi,rfl⟩:=List.mem_iff_getElem.1 hs
      have:=firstE_zero h1 i (by omega) (by omega)
      unfold setE1 at this
      rw [ix_eq hi] at this
      cases h4 : t.any (byName l[i])
      · rw [h4] at this; simp at this
      · rfl
    · have:=firstE_zero h v (by omega) (by omega)
      unfold setE2 at this
      cases h4 : bLt (ix l (v - 1)) (ix l v)
      · rw [h4] at this; simp at this
      · rfl
  · rw [bne_t h1] at h
    exact absurd h h1
def taskOf (t : List Task) (s : Str) : Task:=ix t (findI (byName s) t).toNat
theorem known_ix {t : List Task} {s : Str} (h : t.any (byName s) = true) : inB (findI (byName s) t) t.length = true ∧ (findI (byName s) t).toNat < t.length ∧ taskOf t s ∈ t ∧ (taskOf t s).Name = s:=by
  have h0 : ¬ findI (byName s) t < 0:=by
    intro c
    have:=findI_none (byName s) t
    rw [h] at this
    simp [c] at this
  obtain ⟨a,b,c,_⟩:=findI_pos h0
  exact ⟨inB_of a b,b,ix_mem b,eq_of_beq c⟩
theorem sets_res {t : List Task} (h : OkT t) {ls : List (List Str)} (h1 : ls.length ≤ 900) (hl : ∀ l ∈ ls,l.length ≤ 900) (hn : 1000 < n) : restore_checkSets n t ls = some (bif tasksE n t != 0 then tasksE n t else firstE (fun v=>setE t (ix ls v)) 0 ls.length):=by
  have hlen:=h.len
  rw [restore_checkSets,CheckTasks_res h hn]
  simp only [Option.bind_some,withK_eq]
  rw [loop_errs (n:=n) (E:=fun v=>setE t (ix ls v)) (len:=ls.length) (k:=0) (fun back v hv=>?_) (fun back=>?_) (by omega),bif_int]
  · cases tasksE n t != 0 <;> rfl
  · rw [restore_checkSets_L1]
    simp only [hv,decide_true,cond_true,set_res (n:=n) (by omega : t.length ≤ 900) (hl _ (ix_mem hv)) hn,Option.bind_some,nI_of (by omega : v + 1 ≤ 9223372036854775807),chk_t]
  · rw [restore_checkSets_L1]; simp
end
section
set_option maxRecDepth 4000
open Go
variable {n : Nat}
theorem mem_ix {α : Type} [Inhabited α] {l : List α} {s : α} : s ∈ l ↔ ∃ k,k < l.length ∧ ix l k = s:=by
  rw [List.mem_iff_getElem]
  constructor
  · rintro ⟨i,hi,e⟩; exact ⟨i,hi,by rw [ix_eq hi,e]⟩
  · rintro ⟨i,hi,e⟩; exact ⟨i,hi,by rw [← ix_eq hi,e]⟩
def Nd (d : List Str) : Prop:=∀ p q,p < d.length → q < d.length → ix d p = ix d q → p = q
theorem Nd.of {d : List Str} (h : d.Nodup) : Nd d:=by
  intro p q hp hq e
  rw [ix_eq hp,ix_eq hq] at e
  exact (List.getElem_inj h).1 e
end
section
set_option maxRecDepth 4000
open Go
theorem loop_inv {σ R : Type} {F : (σ → Option R) → σ → Option R} {P : Nat → σ → Prop} {len : Nat} (h1 : ∀ back v s,v < len → P v s → ∃ s',P (v + 1) s' ∧ F back s = back s') : ∀ n v s,v ≤ len → len - v < n → P v s → ∃ s' back,P len s' ∧ loopN F n s = F back s':=by
  intro n
  induction n with
  | zero=>intro v s _ h; omega
  | succ n ih =>
    intro v s hv hn hp
    rw [loopN_s]
    by_cases h : v < len
    · obtain ⟨s',p,e⟩:=h1 (loopN F n) v s h hp
      rw [e]
      exact ih (v + 1) s' (by omega) (by omega) p
    · have : v = len:=by omega
      subst this
      exact ⟨s,loopN F n,hp,rfl⟩
end
section
set_option maxRecDepth 4000
open Go
variable {n : Nat}
def firstOf (x : Task) : List Str:=x.Needs ++ x.OneOf.map fun g=>ix g 0
def nx (t : List Task) (s : Str) : List Str:=firstOf (taskOf t s)
def Kn (t : List Task) (l : List Str) : Prop:=∀ s ∈ l,t.any (byName s) = true
def mk (ks : List Str) : List (Str × Bool):=ks.map fun s=>(s,true)
structure Tk (t : List Task) (A ks ks' : List Str) : Prop where
  nd : ks'.Nodup
  kn : Kn t ks'
  sub : ∀ x ∈ ks,x ∈ ks'
  seed : ∀ a ∈ A,a ∈ ks'
  cl : ∀ x ∈ ks',x ∈ ks ∨ ∀ y ∈ nx t x,y ∈ ks'
  least : ∀ C : Str → Prop,(∀ x,C x → ∀ y ∈ nx t x,C y) → (∀ a ∈ A,C a) → ∀ x ∈ ks',x ∈ ks ∨ C x
theorem Tk.refl {t : List Task} {ks : List Str} (h1 : ks.Nodup) (h2 : Kn t ks) : Tk t [] ks ks:=⟨h1,h2,fun _ h=>h,by simp,fun _ h=>.inl h,fun _ _ _ _ h=>.inl h⟩
theorem Tk.trans {t : List Task} {A B ks k1 k2 : List Str} (h : Tk t A ks k1) (g : Tk t B k1 k2) : Tk t (A ++ B) ks k2 where
  nd:=g.nd
  kn:=g.kn
  sub:=fun x hx=>g.sub x (h.sub x hx)
  seed:=fun a ha=>by
    rcases List.mem_append.1 ha with c | c
    · exact g.sub a (h.seed a c)
    · exact g.seed a c
  cl:=fun x hx=>by
    rcases g.cl x hx with c | c
    · rcases h.cl x c with d | d
      · exact .inl d
      · exact .inr fun y hy=>g.sub y (d y hy)
    · exact .inr c
  least:=fun C hC hA x hx=>by
    rcases g.least C hC (fun a ha=>hA a (by simp [ha])) x hx with c | c
    · exact h.least C hC (fun a ha=>hA a (by simp [ha])) x c
    · exact .inr c
theorem Tk.len {t : List Task} {A ks ks' : List Str} (h : Tk t A ks ks') : ks'.length ≤ t.length:=Inv.len ⟨h.nd,h.kn⟩
end
section
set_option maxRecDepth 4000
open Go
variable {n : Nat}
theorem erase_perm {α : Type} : ∀ (l : List α) (j : Nat) (x : α),l[j]? = some x → (x :: l.eraseIdx j).Perm l
  | [],j,x,h=>by simp at h
  | y :: l,0,x,h=>by
    simp only [List.getElem?_cons_zero,Option.some.injEq] at h
    subst h; exact List.Perm.refl _
  | y :: l,j + 1,x,h=>by
    simp only [List.getElem?_cons_succ] at h
    rw [List.eraseIdx_cons_succ]
    exact (List.Perm.swap y x _).trans ((erase_perm l j x h).cons y)
theorem Asc.snoc {l : List Str} {y : Str} (h : Asc l) (hy : ∀ x ∈ l,bLt x y = true) : Asc (l ++ [y]):=by
  rw [Asc,List.pairwise_append]
  exact ⟨h,by simp,fun a ha b hb=>by rw [List.mem_singleton] at hb; subst hb; exact hy a ha⟩
theorem Asc.take_lt {l : List Str} (h : Asc l) {v : Nat} (hv : v < l.length) : ∀ x ∈ l.take v,bLt x (ix l v) = true:=by
  intro x hx
  obtain ⟨i,hi,rfl⟩:=List.mem_iff_getElem.1 hx
  have hi2 : i < v ∧ i < l.length:=by
    have:=hi
    simp only [List.length_take] at this; omega
  rw [List.getElem_take,ix_eq hv]
  exact List.pairwise_iff_getElem.1 h i v hi2.2 hv hi2.1
theorem mem_take_succ {l : List Str} {v : Nat} (hv : v < l.length) {x : Str} : x ∈ l.take (v + 1) ↔ x ∈ l.take v ∨ x = ix l v:=by
  rw [List.take_succ_eq_append_getElem hv,List.mem_append,List.mem_singleton,ix_eq hv]
theorem put_spec {l : List Str} {s : Str} (ha : Asc l) (hs : s ∉ l) (hl : l.length ≤ 900) (hn : 1000 < n) : ∃ d,agrafferef08_Put n l s = some d ∧ Asc d ∧ (∀ x,x ∈ d ↔ x ∈ l ∨ x = s) ∧ d.length = l.length + 1:=by
  rw [agrafferef08_Put]
  simp only [withK_eq]
  obtain ⟨s2,back2,⟨out,dn,e3,p1,p2,p3,p4,p5⟩,r2⟩:=loop_inv (F:=q47k l s fun t=>match t with
      | (v8,v9)=>bif !v8 then chk (room 16 (v9 ++ ([s] : List Str)).length) (some (v9 ++ ([s] : List Str))) else some v9) (len:=l.length) (P:=fun v st=>∃ out dn,st = (out,dn,v) ∧ Asc out ∧ (∀ x,x ∈ out ↔ x ∈ l.take v ∨ (dn = true ∧ x = s)) ∧ (dn = false → ∀ x ∈ l.take v,bLt x s = true) ∧ (dn = true → ∀ u,v ≤ u → u < l.length → bLt s (ix l u) = true) ∧ out.length = v + (bif dn then 1 else 0)) (fun back v st hv hP=>by
    obtain ⟨out,dn,e,p1,p2,p3,p4,p5⟩:=hP
    subst e
    have hne : ix l v ≠ s:=fun c=>hs (c ▸ ix_mem hv)
    have hlt:=ha.take_lt hv
    have hol : out.length ≤ v + 1:=by rw [p5]; cases dn <;> simp
    cases dn with
    | true =>
      refine ⟨(out ++ [ix l v],true,v + 1),⟨_,_,rfl,p1.snoc fun x hx=>?_,fun x=>?_,fun c=>(by cases c),fun _ u h1 h2=>p4 rfl u (by omega) h2,?_⟩,?_⟩
      · rcases (p2 x).1 hx with c | ⟨_,c⟩
        · exact hlt x c
        · subst c; exact p4 rfl v (Nat.le_refl _) hv
      · rw [List.mem_append,List.mem_singleton,p2,mem_take_succ hv]
        constructor
        · rintro ((c | c) | c)
          · exact .inl (.inl c)
          · exact .inr c
          · exact .inl (.inr c)
        · rintro ((c | c) | c)
          · exact .inl (.inl c)
          · exact .inr c
          · exact .inl (.inr c)
      · simp only [cond_true] at p5 ⊢
        simp only [List.length_append,List.length_singleton]; omega
      · simp only [q47k,hv,decide_true,cond_true,withK_eq,Bool.not_true,Bool.false_and,cond_false]
        rw [chk_of (room_of (by simp; omega) (by simp; omega)),chk_of (nI_of (by omega))]
    | false =>
      have hb : ((ix l v) == s) = false:=by rw [beq_eq_false_iff_ne]; exact hne
      cases hc : bLt (ix l v) s with
      | true =>
        refine ⟨(out ++ [ix l v],false,v + 1),⟨_,_,rfl,p1.snoc fun x hx=>?_,fun x=>?_,fun _ x hx=>?_,fun c=>(by cases c),?_⟩,?_⟩
        · rcases (p2 x).1 hx with c | ⟨c,_⟩
          · exact hlt x c
          · cases c
        · rw [List.mem_append,List.mem_singleton,p2,mem_take_succ hv]
          simp
        · rcases (mem_take_succ hv).1 hx with c | c
          · exact p3 rfl x c
          · subst c; exact hc
        · simp only [cond_false] at p5 ⊢
          simp only [List.length_append,List.length_singleton]; omega
        · simp only [q47k,hv,decide_true,cond_true,withK_eq,hc,Bool.not_true,Bool.and_false,cond_false]
          rw [chk_of (room_of (by simp; omega) (by simp; omega)),chk_of (nI_of (by omega))]
      | false =>
        have hsy : bLt s (ix l v) = true:=by
          rcases bLt_tri s (ix l v) with c | c | c
          · exact c
          · exact absurd c.symm hne
          · rw [hc] at c; cases c
        have q1 : Asc (out ++ [s]):=p1.snoc fun x hx=>by
          rcases (p2 x).1 hx with c | ⟨c,_⟩
          · exact p3 rfl x c
          · cases c
        refine ⟨((out ++ [s]) ++ [ix l v],true,v + 1),⟨_,_,rfl,q1.snoc fun x hx=>?_,fun x=>?_,fun c=>(by cases c),fun _ u h1 h2=>?_,?_⟩,?_⟩
        · rcases List.mem_append.1 hx with c | c
          · rcases (p2 x).1 c with d | ⟨d,_⟩
            · exact hlt x d
            · cases d
          · rw [List.mem_singleton] at c; subst c; exact hsy
        · rw [List.mem_append,List.mem_append,List.mem_singleton,List.mem_singleton,p2,mem_take_succ hv]
          simp only [Bool.false_eq_true,false_and,or_false,true_and]
          constructor
          · rintro ((c | c) | c)
            · exact .inl (.inl c)
            · exact .inr c
            · exact .inl (.inr c)
          · rintro ((c | c) | c)
            · exact .inl (.inl c)
            · exact .inr c
            · exact .inl (.inr c)
        · have : bLt (ix l v) (ix l u) = true:=by
            rw [ix_eq hv,ix_eq h2]
            exact List.pairwise_iff_getElem.1 ha v u hv h2 (by omega)
          exact bLt_trans _ _ _ hsy this
        · simp only [cond_false] at p5
          simp only [cond_true,List.length_append,List.length_singleton]; omega
        · simp only [q47k,hv,decide_true,cond_true,withK_eq,hc,hb,Bool.not_false,Bool.and_self]
          rw [chk_of (room_of (by simp; omega) (by simp; omega)),chk_of (room_of (by simp; omega) (by simp; omega)),chk_of (nI_of (by omega))]) n 0 ([],false,0) (by omega) (by omega) ⟨[],false,rfl,List.Pairwise.nil,by simp,by simp,by simp,rfl⟩
  subst e3
  rw [r2]
  rw [List.take_length] at p2 p3
  simp only [q47k,Nat.lt_irrefl,decide_false,cond_false]
  cases dn with
  | true =>
    refine ⟨out,rfl,p1,fun x=>?_,by rw [p5]; rfl⟩
    rw [p2]; simp
  | false =>
    simp only [Bool.not_false,cond_true]
    have : out.length = l.length:=by rw [p5]; rfl
    rw [chk_of (room_of (by simp; omega) (by simp; omega))]
    refine ⟨out ++ [s],rfl,p1.snoc fun x hx=>?_,fun x=>?_,by simp [this]⟩
    · rcases (p2 x).1 hx with c | ⟨c,_⟩
      · exact p3 rfl x c
      · cases c
    · rw [List.mem_append,List.mem_singleton,p2]; simp
end
section
set_option maxRecDepth 4000
open Go
variable {n : Nat}
theorem task_facts {t : List Task} {i : Nat} (h : taskE t i = 0) : ¬ findI (byName (ix t i).Name) t < (i : Int) ∧ firstE (grpE t (ix t i).OneOf) 0 (ix t i).OneOf.length = 0:=by
  unfold taskE at h
  cases h1 : nameB (ix t i).Name
  · simp [h1] at h
  rw [h1] at h
  simp only [Bool.not_true,cond_false] at h
  cases h2 : decide (findI (byName (ix t i).Name) t < (i : Int))
  · rw [h2] at h
    simp only [cond_false] at h
    refine ⟨of_decide_eq_false h2,?_⟩
    cases h3 : (!((decide (0 ≤ (ix t i).Cents)) && (decide ((ix t i).Cents ≤ 1000000000)))) || (!((decide (0 ≤ (ix t i).Hours)) && (decide ((ix t i).Hours ≤ 10000))))
    · rw [h3] at h
      simp only [cond_false] at h
      cases h4 : large (ix t i)
      · rw [h4] at h
        simp only [cond_false] at h
        by_cases h5 : known t (ix t i).Needs = 0
        · simp only [h5,bne_self_eq_false,cond_false] at h
          by_cases h6 : firstE (grpE t (ix t i).OneOf) 0 (ix t i).OneOf.length = 0
          · exact h6
          · rw [bne_t h6,cond_true] at h; exact absurd h h6
        · rw [bne_t h5,cond_true] at h; exact absurd h h5
      · rw [h4] at h; simp at h
    · rw [h3] at h; simp at h
  · rw [h2] at h; simp at h
theorem tasks_zero {t : List Task} (h : tasksE n t = 0) : t.length ≤ 60 ∧ ∀ i,i < t.length → taskE t i = 0:=by
  unfold tasksE at h
  by_cases h1 : 60 < t.length
  · simp [h1] at h
  · simp only [h1,decide_false,cond_false] at h
    by_cases h2 : firstE (taskE t) 0 t.length = 0
    · exact ⟨by omega,fun i hi=>firstE_zero h2 i (by omega) (by omega)⟩
    · rw [bne_t h2,cond_true] at h; exact absurd h h2
theorem uniq_of {t : List Task} (h : tasksE n t = 0) {i : Nat} (hi : i < t.length) : taskOf t (ix t i).Name = ix t i:=by
  obtain ⟨_,h1⟩:=tasks_zero h
  have h2:=(task_facts (h1 i hi)).1
  have h3 : ¬ findI (byName (ix t i).Name) t < 0:=by omega
  obtain ⟨a,b,c,d⟩:=findI_pos h3
  by_cases e : (findI (byName (ix t i).Name) t).toNat = i
  · unfold taskOf; rw [e]
  · have:=d i (by omega)
    simp [byName] at this
structure Rs (t : List Task) (out0 out : List Str) : Prop where
  asc : Asc out
  kn : Kn t out
  sub : ∀ x ∈ out0,x ∈ out
  least : ∀ C : Str → Prop,(∀ x,C x → ∀ y ∈ nx t x,C y) → (∀ x ∈ out0,C x) → ∀ x ∈ out,C x
theorem Rs.refl {t : List Task} {out : List Str} (h1 : Asc out) (h2 : Kn t out) : Rs t out out:=⟨h1,h2,fun _ h=>h,fun _ _ h=>h⟩
theorem Rs.trans {t : List Task} {a b c : List Str} (h : Rs t a b) (g : Rs t b c) : Rs t a c:=⟨g.asc,g.kn,fun x hx=>g.sub x (h.sub x hx),fun C hC hA=>g.least C hC (h.least C hC hA)⟩
theorem Rs.len {t : List Task} {a b : List Str} (h : Rs t a b) : b.length ≤ t.length:=Inv.len ⟨h.asc.nodup,h.kn⟩
end
section
set_option maxRecDepth 4000
open Go
variable {n : Nat}
end
section
set_option maxRecDepth 4000
open Go
variable {n : Nat}
def Ordd (t : List Task) (inS : Str → Bool) (out : List Str) : Prop:=(∀ s ∈ out,inS s = true) ∧ ∀ i,i < out.length → ∀ s ∈ leads (taskOf t (ix out i)),inS s = true → s ∈ out.take i
theorem Ordd.step {t : List Task} (h0 : tasksE n t = 0) {inS : Str → Bool} {out : List Str} (h : Ordd t inS out) {i : Nat} (hi : i < t.length) (hr : rdy inS out (ix t i) = true) : Ordd t inS (out ++ [(ix t i).Name]):=by
  unfold rdy at hr
  simp only [Bool.and_eq_true,Bool.not_eq_true',List.any_eq_false] at hr
  obtain ⟨⟨r1,r2⟩,r3⟩:=hr
  refine ⟨fun s hs=>?_,fun j hj s hs hin=>?_⟩
  · rw [List.mem_append,List.mem_singleton] at hs
    rcases hs with hs | rfl
    · exact h.1 s hs
    · exact r1
  · simp only [List.length_append,List.length_singleton] at hj
    by_cases c : j < out.length
    · have e : ix (out ++ [(ix t i).Name]) j = ix out j:=by
        rw [ix_eq (by simp; omega),ix_eq c,List.getElem_append_left c]
      rw [e] at hs
      rw [List.take_append_of_le_length (by omega)]
      exact h.2 j c s hs hin
    · have : j = out.length:=by omega
      subst this
      have e : ix (out ++ [(ix t i).Name]) out.length = (ix t i).Name:=by
        rw [ix_eq (by simp)]; simp
      rw [e,uniq_of h0 hi] at hs
      have:=r3 s hs
      rw [hin] at this
      simp only [Bool.true_and,Bool.not_eq_true',Bool.not_eq_false] at this
      rw [List.take_left']
      · exact any_isS.1 (by simpa using this)
      · rfl
theorem Ordd.nil (t : List Task) (inS : Str → Bool) : Ordd t inS []:=⟨by simp,fun i hi=>by simp at hi⟩
end
section
set_option maxRecDepth 4000
open Go
def sm (f : Nat → Int) : Nat → Int
  | 0=>0
  | k + 1=>sm f k + f k
end
section
set_option maxRecDepth 4000
open Go
variable {n : Nat}
theorem lookup_put {β : Type} (x : Str) (v : β) (y : Str) : ∀ m : List (Str × β),List.lookup y (mPut x v m) = if y = x then some v else List.lookup y m
  | []=>by
    by_cases h : y = x
    · subst h; simp [mPut,List.lookup]
    · have : (y == x) = false:=by rw [beq_eq_false_iff_ne]; exact h
      simp [mPut,List.lookup,h,this]
  | (k,u) :: m=>by
    have ih:=lookup_put x v y m
    simp only [mPut]
    cases hk : (x == k) with
    | true =>
      have e : x = k:=eq_of_beq hk
      subst e
      simp only [List.lookup_cons]
      by_cases h : y = x
      · subst h; simp
      · have : (y == x) = false:=by rw [beq_eq_false_iff_ne]; exact h
        simp [this,h]
    | false =>
      simp only [List.lookup_cons,ih]
      by_cases h : y = x
      · subst h; simp [hk]
      · cases (y == k) <;> simp [h]
end
section
set_option maxRecDepth 4000
open Go
variable {α : Type} [Inhabited α]
def sw2 (l : List α) (i j : Nat) : List α:=(l.set i (ix l j)).set j (ix l i)
theorem sw2_len (l : List α) (i j : Nat) : (sw2 l i j).length = l.length:=by simp [sw2]
theorem ixSet {d : List α} {p j : Nat} {x : α} (hp : p < d.length) : ix (d.set p x) j = if p = j then x else ix d j:=by
  simp only [ix,List.getD,List.getElem?_set]
  by_cases h : p = j
  · subst h; simp [hp]
  · simp [h]
theorem sw2_ix {l : List α} {i j : Nat} (hi : i < l.length) (hj : j < l.length) (k : Nat) : ix (sw2 l i j) k = if k = j then ix l i else if k = i then ix l j else ix l k:=by
  unfold sw2
  rw [ixSet (by simpa using hj),ixSet hi]
  by_cases h : j = k
  · subst h; simp
  · by_cases g : i = k
    · subst g; simp [h,Ne.symm h]
    · simp [h,g,Ne.symm h,Ne.symm g]
inductive Rg (a b : Nat) : List α → List α → Prop
  | refl (l : List α) : Rg a b l l
  | step {l m : List α} (h : Rg a b l m) {i j : Nat} (hi : a ≤ i ∧ i < b) (hj : a ≤ j ∧ j < b) (hb : b ≤ m.length) : Rg a b l (sw2 m i j)
variable {a b c : Nat} {l m k : List α}
theorem Rg.trans (h : Rg a b l m) (g : Rg a b m k) : Rg a b l k:=by
  induction g with
  | refl=>exact h
  | step _ hi hj hb ih=>exact .step ih hi hj hb
theorem Rg.len (h : Rg a b l m) : m.length = l.length:=by
  induction h with
  | refl=>rfl
  | step _ _ _ _ ih=>rw [sw2_len,ih]
theorem Rg.mono {a' b' : Nat} (h : Rg a b l m) (ha : a' ≤ a) (hb : b ≤ b') (hl : b' ≤ l.length) : Rg a' b' l m:=by
  induction h with
  | refl=>exact .refl _
  | step h hi hj hb2 ih=>exact .step ih ⟨by omega,by omega⟩ ⟨by omega,by omega⟩ (by rw [h.len]; exact hl)
theorem Rg.out (h : Rg a b l m) : ∀ q,q < a ∨ b ≤ q → ix m q = ix l q:=by
  induction h with
  | refl=>exact fun _ _=>rfl
  | step h hi hj hb ih =>
    intro q hq
    rw [sw2_ix (by omega) (by omega),if_neg (by omega),if_neg (by omega)]
    exact ih q hq
theorem Rg.inn (h : Rg a b l m) : ∀ q,a ≤ q → q < b → ∃ p,a ≤ p ∧ p < b ∧ ix m q = ix l p:=by
  induction h with
  | refl=>exact fun q h1 h2=>⟨q,h1,h2,rfl⟩
  | @step m h i j hi hj hb ih =>
    intro q h1 h2
    rw [sw2_ix (by omega) (by omega)]
    by_cases e : q = j
    · rw [if_pos e]; exact ih i hi.1 hi.2
    · rw [if_neg e]
      by_cases f : q = i
      · rw [if_pos f]; exact ih j hj.1 hj.2
      · rw [if_neg f]; exact ih q h1 h2
theorem sw2_perm {i j : Nat} (hi : i < l.length) (hj : j < l.length) : (sw2 l i j).Perm l:=by
  unfold sw2
  rw [ix_eq hi,ix_eq hj]
  exact List.set_set_perm hi hj
theorem Rg.perm (h : Rg a b l m) : m.Perm l:=by
  induction h with
  | refl=>exact .refl _
  | step h hi hj hb ih=>exact (sw2_perm (by omega) (by omega)).trans ih
structure Ord (lt : α → α → Bool) : Prop where
  asym : ∀ x y,lt x y = true → lt y x = false
  letr : ∀ x y z,lt y x = false → lt z y = false → lt z x = false
theorem Ord.irr {β : Type} {lt : β → β → Bool} (h : Ord lt) (x : β) : lt x x = false:=by
  cases e : lt x x with
  | false=>rfl
  | true=>have:=h.asym x x e; rw [e] at this; exact this
variable {lt : α → α → Bool}
def Srt (lt : α → α → Bool) (l : List α) (a b : Nat) : Prop:=∀ i j,a ≤ i → i < j → j < b → lt (ix l j) (ix l i) = false
theorem Srt.mono {a' b' : Nat} (h : Srt lt l a b) (h1 : a ≤ a') (h2 : b' ≤ b) : Srt lt l a' b':=fun i j g1 g2 g3=>h i j (by omega) g2 (by omega)
theorem Srt.adj (o : Ord lt) (h : ∀ i,a < i → i < b → lt (ix l i) (ix l (i - 1)) = false) : Srt lt l a b:=by
  intro i j h1 h2 h3
  obtain ⟨d,rfl⟩ : ∃ d,j = i + 1 + d:=⟨j - i - 1,by omega⟩
  clear h2
  induction d with
  | zero=>exact h (i + 1) (by omega) (by omega)
  | succ d ih=>exact o.letr _ _ _ (ih (by omega)) (h (i + 1 + (d + 1)) (by omega) h3)
theorem loop_up {β R : Type} {F : (Int × β → Option R) → Int × β → Option R} {k : β → Option R} {b : Nat} {Inv : Nat → β → Prop} (hs : ∀ back i d,i < b → Inv i d → ∃ d',F back (((i : Nat) : Int),d) = back (((i + 1 : Nat) : Int),d') ∧ Inv (i + 1) d')
    (he : ∀ back d,Inv b d → F back (((b : Nat) : Int),d) = k d) : ∀ m i d,i ≤ b → b - i < m → Inv i d → ∃ d',Inv b d' ∧ loopN F m (((i : Nat) : Int),d) = k d':=by
  intro m
  induction m with
  | zero=>intro i d _ h; omega
  | succ m ih =>
    intro i d h1 h2 hI
    rw [loopN_s]
    by_cases e : i < b
    · obtain ⟨d',g1,g2⟩:=hs (loopN F m) i d e hI
      rw [g1]
      exact ih (i + 1) d' (by omega) (by omega) g2
    · have : i = b:=by omega
      subst this
      exact ⟨d,hI,he _ d hI⟩
theorem loop_down {β R : Type} {F : (Int × β → Option R) → Int × β → Option R} {k : β → Option R} {Inv : Nat → β → Prop} (hs : ∀ back i d,Inv (i + 1) d → ∃ d',F back (((i : Nat) : Int),d) = back (((i : Nat) : Int) - 1,d') ∧ Inv i d')
    (he : ∀ back d,Inv 0 d → F back (-1,d) = k d) : ∀ m i d,i < m → Inv i d → ∃ d',Inv 0 d' ∧ loopN F m (((i : Nat) : Int) - 1,d) = k d':=by
  intro m
  induction m with
  | zero=>intro i d h; omega
  | succ m ih =>
    intro i d h hI
    rw [loopN_s]
    cases i with
    | zero=>exact ⟨d,hI,he _ d hI⟩
    | succ i =>
      obtain ⟨d',g1,g2⟩:=hs (loopN F m) i d hI
      have e : (((i + 1 : Nat) : Int) - 1) = ((i : Nat) : Int):=by omega
      rw [e,g1]
      exact ih i d' (by omega) g2
theorem ins_in {R : Type} (o : Ord lt) {F : (Int × List α → Option R) → Int × List α → Option R} {k1 : List α → Option R} {a : Nat} (N : Nat) (Q : List α → Prop) (i : Nat) (hi : i < N) (hQ : ∀ d j,Q d → d.length = N → a < j → j ≤ i → Q (sw2 d j (j - 1)))
    (step : ∀ back (j : Nat) d,d.length = N → Q d → a ≤ j → j ≤ i → F back (((j : Nat) : Int),d) = bif decide (a < j) && lt (ix d j) (ix d (j - 1)) then back (((j - 1 : Nat) : Int),sw2 d j (j - 1)) else k1 d) :
    ∀ m j d,d.length = N → Q d → a ≤ j → j ≤ i → j - a < m → (∀ p q,a ≤ p → p < q → q ≤ i → p ≠ j → q ≠ j → lt (ix d q) (ix d p) = false) → (∀ q,j < q → q ≤ i → lt (ix d q) (ix d j) = false) → ∃ d',loopN F m (((j : Nat) : Int),d) = k1 d' ∧ Rg a (i + 1) d d' ∧ Srt lt d' a (i + 1):=by
  intro m
  induction m with
  | zero=>intro j d _ _ _ _ h; omega
  | succ m ih =>
    intro j d hd hq h1 h2 h3 hs hj
    rw [loopN_s,step _ j d hd hq h1 h2]
    by_cases c : a < j ∧ lt (ix d j) (ix d (j - 1)) = true
    · rw [c.2]
      simp only [c.1,decide_true,Bool.and_self,cond_true]
      have hx:=fun k=>sw2_ix (l:=d) (i:=j) (j:=j - 1) (by omega) (by omega) k
      have A : ∀ p q,a ≤ p → p < q → q ≤ i → p ≠ j - 1 → q ≠ j - 1 → lt (ix (sw2 d j (j - 1)) q) (ix (sw2 d j (j - 1)) p) = false:=by
        intro p q k1 k2 k3 k4 k5
        rw [hx q,hx p,if_neg k5,if_neg k4]
        by_cases e1 : q = j
        · rw [if_pos e1,if_neg (by omega)]
          exact hs p (j - 1) k1 (by omega) (by omega) (by omega) (by omega)
        · rw [if_neg e1]
          by_cases e2 : p = j
          · rw [if_pos e2]
            exact hs (j - 1) q (by omega) (by omega) k3 (by omega) e1
          · rw [if_neg e2]; exact hs p q k1 k2 k3 e2 e1
      have B : ∀ q,j - 1 < q → q ≤ i → lt (ix (sw2 d j (j - 1)) q) (ix (sw2 d j (j - 1)) (j - 1)) = false:=by
        intro q k1 k2
        rw [hx q,hx (j - 1),if_pos rfl,if_neg (by omega)]
        by_cases e1 : q = j
        · rw [if_pos e1]; exact o.asym _ _ c.2
        · rw [if_neg e1]; exact hj q (by omega) k2
      obtain ⟨d',g1,g2,g3⟩:=ih (j - 1) (sw2 d j (j - 1)) (by rw [sw2_len]; exact hd) (hQ d j hq hd c.1 h2) (by omega) (by omega) (by omega) A B
      exact ⟨d',g1,(Rg.step (.refl _) ⟨by omega,by omega⟩ ⟨by omega,by omega⟩ (by omega)).trans g2,g3⟩
    · have e : (decide (a < j) && lt (ix d j) (ix d (j - 1))) = false:=by
        by_cases c1 : a < j
        · cases c2 : lt (ix d j) (ix d (j - 1)) with
          | false=>simp
          | true=>exact absurd ⟨c1,c2⟩ c
        · simp [c1]
      rw [e,cond_false]
      refine ⟨d,rfl,.refl _,fun p q k1 k2 k3=>?_⟩
      by_cases e1 : p = j
      · subst e1; exact hj q k2 (by omega)
      · by_cases e2 : q = j
        · subst e2
          have hl : lt (ix d q) (ix d (q - 1)) = false:=by
            cases c2 : lt (ix d q) (ix d (q - 1)) with
            | false=>rfl
            | true=>exact absurd ⟨by omega,c2⟩ c
          by_cases e3 : p = q - 1
          · rw [e3]; exact hl
          · exact o.letr _ _ _ (hs p (q - 1) k1 (by omega) (by omega) e1 (by omega)) hl
        · exact hs p q k1 k2 (by omega) e1 e2
def Chl (p c : Nat) : Prop:=c = 2 * p + 1 ∨ c = 2 * p + 2
def Heap (lt : α → α → Bool) (d : List α) (f lo hi : Nat) : Prop:=∀ p c,lo ≤ p → Chl p c → c < hi → lt (ix d (f + p)) (ix d (f + c)) = false
theorem Heap.max (o : Ord lt) {d : List α} {f hi : Nat} (h : Heap lt d f 0 hi) : ∀ p,p < hi → lt (ix d f) (ix d (f + p)) = false:=by
  intro p
  induction p using Nat.strongRecOn with
  | _ p ih =>
    intro hp
    cases p with
    | zero=>exact o.irr _
    | succ p =>
      have:=h (p / 2) (p + 1) (Nat.zero_le _) (by unfold Chl; omega) hp
      exact o.letr _ _ _ (by exact this) (ih (p / 2) (by omega) (by omega))
theorem sift (o : Ord lt) {F : (Int × List α → Option (List α)) → Int × List α → Option (List α)} {f hi : Nat} (N : Nat) (hN : f + hi ≤ N)
    (step : ∀ back (r : Nat) d,d.length = N → r < hi → F back (((r : Nat) : Int),d) = bif decide (hi ≤ 2 * r + 1) then some d else
      bif !lt (ix d (f + r)) (ix d (f + bif decide (2 * r + 2 < hi) && lt (ix d (f + (2 * r + 1))) (ix d (f + (2 * r + 2))) then 2 * r + 2 else 2 * r + 1)) then some d else
        back (((bif decide (2 * r + 2 < hi) && lt (ix d (f + (2 * r + 1))) (ix d (f + (2 * r + 2))) then 2 * r + 2 else 2 * r + 1 : Nat) : Int),sw2 d (f + r) (f + bif decide (2 * r + 2 < hi) && lt (ix d (f + (2 * r + 1))) (ix d (f + (2 * r + 2))) then 2 * r + 2 else 2 * r + 1))) (lo : Nat) :
    ∀ m r d,d.length = N → r < hi → lo ≤ r → hi - r < m → (∀ p c,lo ≤ p → p ≠ r → Chl p c → c < hi → lt (ix d (f + p)) (ix d (f + c)) = false) → (∀ p c,lo ≤ p → Chl p r → Chl r c → c < hi → lt (ix d (f + p)) (ix d (f + c)) = false) → ∃ d',loopN F m (((r : Nat) : Int),d) = some d' ∧ Rg (f + lo) (f + hi) d d' ∧ Heap lt d' f lo hi:=by
  intro m
  induction m with
  | zero=>intro r d _ _ _ h; omega
  | succ m ih =>
    intro r d hd hr hlo hm h1 h2
    rw [loopN_s,step _ r d hd hr]
    by_cases c0 : hi ≤ 2 * r + 1
    · simp only [c0,decide_true,cond_true]
      refine ⟨d,rfl,.refl _,fun p c k1 k2 k3=>?_⟩
      by_cases e : p = r
      · subst e; unfold Chl at k2; omega
      · exact h1 p c k1 e k2 k3
    · simp only [c0,decide_false,cond_false]
      generalize hc : (bif decide (2 * r + 2 < hi) && lt (ix d (f + (2 * r + 1))) (ix d (f + (2 * r + 2))) then 2 * r + 2 else 2 * r + 1) = g
      have hg : Chl r g ∧ g < hi ∧ ∀ c,Chl r c → c < hi → lt (ix d (f + g)) (ix d (f + c)) = false:=by
        by_cases c1 : 2 * r + 2 < hi ∧ lt (ix d (f + (2 * r + 1))) (ix d (f + (2 * r + 2))) = true
        · rw [c1.2] at hc
          simp only [c1.1,decide_true,Bool.and_self,cond_true] at hc
          subst hc
          refine ⟨.inr rfl,c1.1,fun c k1 k2=>?_⟩
          rcases k1 with rfl | rfl
          · exact o.asym _ _ c1.2
          · exact o.irr _
        · have e : (decide (2 * r + 2 < hi) && lt (ix d (f + (2 * r + 1))) (ix d (f + (2 * r + 2)))) = false:=by
            by_cases k1 : 2 * r + 2 < hi
            · cases k2 : lt (ix d (f + (2 * r + 1))) (ix d (f + (2 * r + 2))) with
              | false=>simp
              | true=>exact absurd ⟨k1,k2⟩ c1
            · simp [k1]
          rw [e,cond_false] at hc
          subst hc
          refine ⟨.inl rfl,by omega,fun c k1 k2=>?_⟩
          rcases k1 with rfl | rfl
          · exact o.irr _
          · cases k3 : lt (ix d (f + (2 * r + 1))) (ix d (f + (2 * r + 2))) with
            | false=>rfl
            | true=>exact absurd ⟨k2,k3⟩ c1
      obtain ⟨g1,g2,g3⟩:=hg
      have hrg : r < g:=by unfold Chl at g1; omega
      cases hl : lt (ix d (f + r)) (ix d (f + g)) with
      | false =>
        simp only [Bool.not_false,cond_true]
        refine ⟨d,rfl,.refl _,fun p c k1 k2 k3=>?_⟩
        by_cases e : p = r
        · subst e; exact o.letr _ _ _ (g3 c k2 k3) hl
        · exact h1 p c k1 e k2 k3
      | true =>
        simp only [Bool.not_true,cond_false]
        have hx:=fun k=>sw2_ix (l:=d) (i:=f + r) (j:=f + g) (by omega) (by omega) k
        have A : ∀ p c,lo ≤ p → p ≠ g → Chl p c → c < hi → lt (ix (sw2 d (f + r) (f + g)) (f + p)) (ix (sw2 d (f + r) (f + g)) (f + c)) = false:=by
          intro p c k1 k2 k3 k4
          rw [hx (f + p),hx (f + c),if_neg (by omega)]
          by_cases e1 : p = r
          · subst e1
            rw [if_pos rfl]
            by_cases e2 : c = g
            · rw [if_pos (by omega)]; exact o.asym _ _ hl
            · rw [if_neg (by omega),if_neg (by unfold Chl at k3; omega)]; exact g3 c k3 k4
          · rw [if_neg (by omega)]
            by_cases e2 : c = g
            · exfalso; subst e2; unfold Chl at g1 k3; omega
            · rw [if_neg (by omega)]
              by_cases e3 : c = r
              · subst e3
                rw [if_pos rfl]
                exact h2 p g k1 k3 g1 g2
              · rw [if_neg (by omega)]; exact h1 p c k1 e1 k3 k4
        have B : ∀ p c,lo ≤ p → Chl p g → Chl g c → c < hi → lt (ix (sw2 d (f + r) (f + g)) (f + p)) (ix (sw2 d (f + r) (f + g)) (f + c)) = false:=by
          intro p c k1 k2 k3 k4
          have hpr : p = r:=by unfold Chl at g1 k2; omega
          subst hpr
          have hgc : g < c:=by unfold Chl at k3; omega
          rw [hx (f + p),hx (f + c),if_neg (by omega),if_pos rfl,if_neg (by omega),if_neg (by omega)]
          exact h1 g c (by omega) (by omega) k3 k4
        obtain ⟨d',q1,q2,q3⟩:=ih g (sw2 d (f + r) (f + g)) (by rw [sw2_len]; exact hd) g2 (by omega) (by omega) A B
        exact ⟨d',q1,(Rg.step (.refl _) ⟨by omega,by omega⟩ ⟨by omega,by omega⟩ (by omega)).trans q2,q3⟩
end
section
set_option maxRecDepth 4000
open Go
variable {α : Type} [Inhabited α] {lt : α → α → Bool}
def SiftOK (lt : α → α → Bool) (N f : Nat) (SD : List α → Nat → Nat → Option (List α)) : Prop :=
  ∀ d lo hi,d.length = N → f + hi ≤ N → lo < hi → Heap lt d f (lo + 1) hi → ∃ d',SD d lo hi = some d' ∧ Rg (f + lo) (f + hi) d d' ∧ Heap lt d' f lo hi
theorem heap_build (o : Ord lt) {N f L : Nat} {SD : List α → Nat → Nat → Option (List α)} (hSD : SiftOK lt N f SD) (hL : f + L ≤ N) (hL1 : 1 ≤ L) {F : (Int × List α → Option (List α)) → Int × List α → Option (List α)} {k1 : List α → Option (List α)}
    (step : ∀ back (i : Nat) d d',d.length = N → i < L → SD d i L = some d' → d'.length = N → F back (((i : Nat) : Int),d) = back (((i : Nat) : Int) - 1,d')) (he : ∀ back d,F back (-1,d) = k1 d) (d0 : List α) (hd0 : d0.length = N) {m : Nat} (hm : L < m) :
    ∃ d',Rg f (f + L) d0 d' ∧ Heap lt d' f 0 L ∧ loopN F m (Int.tdiv (((L : Nat) : Int) - 1) 2,d0) = k1 d':=by
  have e : Int.tdiv (((L : Nat) : Int) - 1) 2 = (((L - 1) / 2 + 1 : Nat) : Int) - 1:=by
    rw [Int.tdiv_eq_ediv_of_nonneg (by omega)]; omega
  rw [e]
  obtain ⟨d',⟨h1,h2⟩,h3⟩:=loop_down (F:=F) (k:=k1) (Inv:=fun i d=>Rg f (f + L) d0 d ∧ (i ≤ (L - 1) / 2 + 1 ∧ Heap lt d f i L)) (fun back i d ⟨g1,g2,g3⟩=>by
    have hl : d.length = N:=by rw [g1.len]; exact hd0
    have hi : i < L:=by omega
    obtain ⟨d',q1,q2,q3⟩:=hSD d i L hl hL hi g3
    have hl' : d'.length = N:=by rw [q2.len]; exact hl
    exact ⟨d',step back i d d' hl hi q1 hl',g1.trans (q2.mono (by omega) (by omega) (by omega)),by omega,q3⟩) (fun back d _=>he back d) m ((L - 1) / 2 + 1) d0 (by omega) ⟨.refl _,by omega,fun p c k1 k2 k3=>by unfold Chl at k2; omega⟩
  exact ⟨d',h1,h2.2,h3⟩
theorem heap_pop (o : Ord lt) {N f L : Nat} {SD : List α → Nat → Nat → Option (List α)} (hSD : SiftOK lt N f SD) (hS0 : ∀ d,SD d 0 0 = some d) (hL : f + L ≤ N) {F : (Int × List α → Option (List α)) → Int × List α → Option (List α)}
    (step : ∀ back (i : Nat) d d',d.length = N → i < L → SD (sw2 d f (f + i)) 0 i = some d' → d'.length = N → F back (((i : Nat) : Int),d) = back (((i : Nat) : Int) - 1,d')) (he : ∀ back d,F back (-1,d) = some d) (d0 : List α) (hd0 : d0.length = N) (hH : Heap lt d0 f 0 L) {m : Nat} (hm : L < m) :
    ∃ d',Rg f (f + L) d0 d' ∧ Srt lt d' f (f + L) ∧ loopN F m (((L : Nat) : Int) - 1,d0) = some d':=by
  obtain ⟨d',⟨h1,_,_,h2,_⟩,h3⟩:=loop_down (F:=F) (k:=some) (Inv:=fun i d=>Rg f (f + L) d0 d ∧ i ≤ L ∧ Heap lt d f 0 i ∧ Srt lt d (f + i) (f + L) ∧ ∀ p q,p < i → i ≤ q → q < L → lt (ix d (f + q)) (ix d (f + p)) = false) (fun back i d ⟨g1,g2,g3,g4,g5⟩=>by
    have hl : d.length = N:=by rw [g1.len]; exact hd0
    have hx:=fun k=>sw2_ix (l:=d) (i:=f) (j:=f + i) (by omega) (by omega) k
    have hl1 : (sw2 d f (f + i)).length = N:=by rw [sw2_len]; exact hl
    have hmax:=g3.max o
    have r1 : Rg f (f + L) d (sw2 d f (f + i)):=.step (.refl _) ⟨by omega,by omega⟩ ⟨by omega,by omega⟩ (by omega)
    have S : ∃ d',SD (sw2 d f (f + i)) 0 i = some d' ∧ Rg (f + 0) (f + i) (sw2 d f (f + i)) d' ∧ Heap lt d' f 0 i:=by
      by_cases hi : 0 < i
      · refine hSD _ 0 i hl1 (by omega) hi fun p c k1 k2 k3=>?_
        have hc : p < c:=by unfold Chl at k2; omega
        rw [hx (f + p),hx (f + c),if_neg (by omega),if_neg (by omega),if_neg (by omega),if_neg (by omega)]
        exact g3 p c (by omega) k2 (by omega)
      · have : i = 0:=by omega
        subst this
        exact ⟨_,hS0 _,.refl _,fun p c k1 k2 k3=>by omega⟩
    obtain ⟨d',q1,q2,q3⟩:=S
    have hl' : d'.length = N:=by rw [q2.len]; exact hl1
    refine ⟨d',step back i d d' hl (by omega) q1 hl',g1.trans (r1.trans (q2.mono (by omega) (by omega) (by omega))),by omega,q3,fun p q k1 k2 k3=>?_,fun p q k1 k2 k3=>?_⟩
    · rw [q2.out p (by omega),q2.out q (by omega),hx p,hx q,if_neg (show ¬ q = f + i by omega),if_neg (show ¬ q = f by omega)]
      by_cases e : p = f + i
      · rw [if_pos e]
        have:=g5 0 (q - f) (by omega) (by omega) (by omega)
        rw [show f + (q - f) = q by omega] at this
        exact this
      · rw [if_neg e,if_neg (by omega)]
        exact g4 p q (by omega) k2 k3
    · have old : ∃ p',p' < i + 1 ∧ ix d' (f + p) = ix d (f + p'):=by
        obtain ⟨p1,a1,a2,a3⟩:=q2.inn (f + p) (by omega) (by omega)
        rw [a3,hx p1,if_neg (by omega)]
        by_cases e : p1 = f
        · rw [if_pos e]; exact ⟨i,by omega,rfl⟩
        · rw [if_neg e]; exact ⟨p1 - f,by omega,by rw [show f + (p1 - f) = p1 by omega]⟩
      obtain ⟨p',b1,b2⟩:=old
      rw [b2,q2.out (f + q) (by omega),hx (f + q)]
      by_cases e : q = i
      · rw [if_pos (by omega)]
        exact hmax p' (by omega)
      · rw [if_neg (by omega),if_neg (by omega)]
        exact g5 p' q b1 (by omega) k3) (fun back d _=>he back d) m L d0 hm ⟨.refl _,Nat.le_refl _,hH,fun i j k1 k2 k3=>by omega,fun p q k1 k2 k3=>by omega⟩
  exact ⟨d',h1,h2,h3⟩
theorem scan_up {R : Type} {F : (Int → Option R) → Int → Option R} {k : Int → Option R} {J : Nat} (p : Nat → Bool) (N : Nat) (hJ : J ≤ N) (step : ∀ back (i : Nat),i ≤ N → F back ((i : Nat) : Int) = bif decide (i < J) && p i then back ((i + 1 : Nat) : Int) else k ((i : Nat) : Int)) :
    ∀ m i,i ≤ J → J - i < m → ∃ i',i ≤ i' ∧ i' ≤ J ∧ (∀ q,i ≤ q → q < i' → p q = true) ∧ (i' < J → p i' = false) ∧ loopN F m ((i : Nat) : Int) = k ((i' : Nat) : Int):=by
  intro m
  induction m with
  | zero=>intro i _ h; omega
  | succ m ih =>
    intro i h1 h2
    rw [loopN_s,step _ i (by omega)]
    by_cases c : i < J ∧ p i = true
    · simp only [c.1,c.2,decide_true,Bool.and_self,cond_true]
      obtain ⟨i',g1,g2,g3,g4,g5⟩:=ih (i + 1) (by omega) (by omega)
      refine ⟨i',by omega,g2,fun q k1 k2=>?_,g4,g5⟩
      by_cases e : q = i
      · rw [e]; exact c.2
      · exact g3 q (by omega) k2
    · have e : (decide (i < J) && p i) = false:=by
        by_cases c1 : i < J
        · cases c2 : p i with
          | false=>simp
          | true=>exact absurd ⟨c1,c2⟩ c
        · simp [c1]
      rw [e,cond_false]
      refine ⟨i,Nat.le_refl _,h1,fun q k1 k2=>by omega,fun hi=>?_,rfl⟩
      simpa [hi] using e
theorem scan_down {R : Type} {F : (Int → Option R) → Int → Option R} {k : Int → Option R} {i : Nat} (p : Nat → Bool) (N : Nat) (step : ∀ back (J : Nat),J ≤ N → F back (((J : Nat) : Int) - 1) = bif decide (i < J) && p (J - 1) then back (((J - 1 : Nat) : Int) - 1) else k (((J : Nat) : Int) - 1)) :
    ∀ m J,i ≤ J → J ≤ N → J - i < m → ∃ J',i ≤ J' ∧ J' ≤ J ∧ (∀ q,J' ≤ q → q < J → p q = true) ∧ (i < J' → p (J' - 1) = false) ∧ loopN F m (((J : Nat) : Int) - 1) = k (((J' : Nat) : Int) - 1):=by
  intro m
  induction m with
  | zero=>intro J _ _ h; omega
  | succ m ih =>
    intro J h1 hN h2
    rw [loopN_s,step _ J hN]
    by_cases c : i < J ∧ p (J - 1) = true
    · simp only [c.1,c.2,decide_true,Bool.and_self,cond_true]
      obtain ⟨J',g1,g2,g3,g4,g5⟩:=ih (J - 1) (by omega) (by omega) (by omega)
      refine ⟨J',g1,by omega,fun q k1 k2=>?_,g4,g5⟩
      by_cases e : q = J - 1
      · rw [e]; exact c.2
      · exact g3 q k1 (by omega)
    · have e : (decide (i < J) && p (J - 1)) = false:=by
        by_cases c1 : i < J
        · cases c2 : p (J - 1) with
          | false=>simp
          | true=>exact absurd ⟨c1,c2⟩ c
        · simp [c1]
      rw [e,cond_false]
      refine ⟨J,h1,Nat.le_refl _,fun q k1 k2=>by omega,fun hi=>?_,rfl⟩
      simpa [hi] using e
structure Pt (T : α → Bool) (a b N : Nat) (d0 : List α) (i J : Nat) (d : List α) : Prop where
  rg : Rg (a + 1) b d0 d
  len : d.length = N
  lo : a + 1 ≤ i
  mid : i ≤ J
  hi : J ≤ b
  bn : b ≤ N
  left : ∀ q,a + 1 ≤ q → q < i → T (ix d q) = true
  right : ∀ q,J ≤ q → q < b → T (ix d q) = false
theorem part_loop {R : Type} {T : α → Bool} {a b N : Nat} {d0 : List α} {F : (Int × Int × List α → Option R) → Int × Int × List α → Option R} {k : Nat → List α → Option R}
    (step : ∀ back i J d,Pt T a b N d0 i J d → ∃ i',i ≤ i' ∧ i' ≤ J ∧ (∀ q,i ≤ q → q < i' → T (ix d q) = true) ∧ (i' < J → T (ix d i') = false) ∧ ∃ J',i' ≤ J' ∧ J' ≤ J ∧ (∀ q,J' ≤ q → q < J → T (ix d q) = false) ∧ (i' < J' → T (ix d (J' - 1)) = true) ∧
      F back (((i : Nat) : Int),((J : Nat) : Int) - 1,d) = bif decide (J' ≤ i') then k i' d else back (((i' + 1 : Nat) : Int),((J' - 1 : Nat) : Int) - 1,sw2 d i' (J' - 1))) :
    ∀ m i J d,J - i < m → Pt T a b N d0 i J d → ∃ i' d',Pt T a b N d0 i' i' d' ∧ loopN F m (((i : Nat) : Int),((J : Nat) : Int) - 1,d) = k i' d':=by
  intro m
  induction m with
  | zero=>intro i J d h; omega
  | succ m ih =>
    intro i J d hm P
    obtain ⟨i',a1,a2,a3,a4,J',b1,b2,b3,b4,hF⟩:=step (loopN F m) i J d P
    rw [loopN_s,hF]
    have L : ∀ q,a + 1 ≤ q → q < i' → T (ix d q) = true:=fun q k1 k2=>by
      by_cases c : q < i
      · exact P.left q k1 c
      · exact a3 q (by omega) k2
    have Rr : ∀ q,J' ≤ q → q < b → T (ix d q) = false:=fun q k1 k2=>by
      by_cases c : J ≤ q
      · exact P.right q c k2
      · exact b3 q k1 (by omega)
    have p1:=P.lo; have p2:=P.hi; have p3:=P.len; have p4:=P.bn
    by_cases c : J' ≤ i'
    · have : J' = i':=by omega
      subst this
      simp only [Nat.le_refl,decide_true,cond_true]
      exact ⟨J',d,⟨P.rg,P.len,by omega,Nat.le_refl _,by omega,P.bn,L,Rr⟩,rfl⟩
    · simp only [c,decide_false,cond_false]
      have t1:=a4 (by omega)
      have t2:=b4 (by omega)
      have hne : i' ≠ J' - 1:=by
        intro e; rw [← e,t1] at t2; cases t2
      have hx:=fun k=>sw2_ix (l:=d) (i:=i') (j:=J' - 1) (by omega) (by omega) k
      refine ih (i' + 1) (J' - 1) (sw2 d i' (J' - 1)) (by omega) ⟨.step P.rg ⟨by omega,by omega⟩ ⟨by omega,by omega⟩ (by omega),by rw [sw2_len]; exact P.len,by omega,by omega,by omega,P.bn,fun q k1 k2=>?_,fun q k1 k2=>?_⟩
      · rw [hx q,if_neg (by omega)]
        by_cases e : q = i'
        · rw [if_pos e]; exact t2
        · rw [if_neg e]; exact L q k1 (by omega)
      · rw [hx q]
        by_cases e : q = J' - 1
        · rw [if_pos e]; exact t1
        · rw [if_neg e,if_neg (by omega)]; exact Rr q (by omega) k2
end
section
set_option maxRecDepth 4000
open Go
variable {n : Nat}
def pLt (a b : PartCount) : Bool:=bLt a.Part b.Part
def cmpV (a b : PartCount) : Int:=bif bLt a.Part b.Part then -1 else bif !(bLt a.Part b.Part || (a.Part == b.Part)) then 1 else 0
theorem cmpV_lt (a b : PartCount) : decide (cmpV a b < (0 : Int)) = pLt a b:=by
  unfold cmpV pLt
  cases bLt a.Part b.Part <;> cases (a.Part == b.Part) <;> rfl
theorem f1V (a b : PartCount) : q4k n a b = some (cmpV a b):=by
  rw [q4k,cmp_Compare_string]
  simp only [cmp_isNaN_string,Option.bind_some,BEq.rfl,Bool.not_true,cond_false,cmpV]
  cases bLt a.Part b.Part <;> cases (a.Part == b.Part) <;> rfl
theorem gq (c : Bool) (v : Int) : (c && decide ((bif c then v else default) < (0 : Int))) = (c && decide (v < 0)):=by
  cases c <;> rfl
theorem gqn (c : Bool) (v : Int) : (c && !decide ((bif c then v else default) < (0 : Int))) = (c && !decide (v < 0)):=by
  cases c <;> rfl
theorem ordStr : Ord pLt:=⟨fun x y h=>bLt_asym h,fun x y z h1 h2=>by
  unfold pLt at h1 h2 ⊢
  cases h : bLt z.Part x.Part with
  | false=>rfl
  | true =>
    rcases bLt_tri x.Part y.Part with g | g | g
    · rw [bLt_trans _ _ _ h g] at h2; cases h2
    · rw [g,h2] at h; cases h
    · rw [g] at h1; cases h1⟩
theorem withK_s {α β : Type} (k : α → Option β) (f : (α → Option β) → Option β) : withK k f = f k:=id rfl
theorem c_t {α : Type} (a b : α) : (bif true then a else b) = a:=id rfl
theorem c_f {α : Type} (a b : α) : (bif false then a else b) = b:=id rfl
theorem k_t {α : Type} (k : Option α) : chk true k = k:=id rfl
theorem dlt (a b : Nat) : decide ((a : Int) < (b : Int)) = decide (a < b):=by simp
theorem dle (a b : Nat) : decide ((a : Int) ≤ (b : Int)) = decide (a ≤ b):=by simp
theorem ins_step {k1 : List PartCount → Option (List PartCount)} {back : Int × List PartCount → Option (List PartCount)} {a j N : Nat} {d : List PartCount} (hN : N ≤ 900) (hd : d.length = N) (haj : a ≤ j) (hj : j < N) :
    q17k n (a : Int) k1 back (((j : Nat) : Int),d) = bif decide (a < j) && pLt (ix d j) (ix d (j - 1)) then back (((j - 1 : Nat) : Int),sw2 d j (j - 1)) else k1 d:=by
  have e1 : (((j : Nat) : Int) - 1).toNat = j - 1:=by omega
  simp only [q17k,e1,dlt,Int.toNat_natCast,f1V,gq,gqn,cmpV_lt,gcall_some_,Option.bind_some,BEq.rfl,Bool.not_true,Bool.false_and,Bool.false_or]
  by_cases h0 : a < j
  · simp only [h0,decide_true,Bool.not_true,Bool.false_or,Bool.true_and]
    (repeat rw [chk_of (by first | exact inI_of (by omega) (by omega) | exact inB_of (by omega) (by omega) | exact inI_of (by simp only [List.length_set]; omega) (by simp only [List.length_set]; omega) | exact inB_of (by omega) (by simp only [List.length_set,sw2_len]; omega) | exact decide_eq_true (by first | omega | (simp only [List.length_set,sw2_len]; omega)))])
    cases hb : pLt (ix d j) (ix d (j - 1)) with
    | true =>
      simp only [c_t]
      (repeat rw [chk_of (by first | exact inI_of (by omega) (by omega) | exact inB_of (by omega) (by omega) | exact inI_of (by simp only [List.length_set]; omega) (by simp only [List.length_set]; omega) | exact inB_of (by omega) (by simp only [List.length_set,sw2_len]; omega) | exact decide_eq_true (by first | omega | (simp only [List.length_set,sw2_len]; omega)))])
      rw [show ((j : Nat) : Int) - 1 = ((j - 1 : Nat) : Int) by omega]; rfl
    | false=>rfl
  · simp only [h0,decide_false,Bool.not_false,Bool.true_or,Bool.false_and,c_f,k_t]
theorem ins_ok {N : Nat} (hN : N ≤ 900) (hn : 1000 < n) {a b : Nat} (hA : a ≤ b) (hb : b ≤ N) {d : List PartCount} (hd : d.length = N) :
    ∃ d',q13k n d a b = some d' ∧ Rg a b d d' ∧ Srt pLt d' a b:=by
  by_cases hab : a + 1 ≤ b
  · unfold q13k
    rw [chk_of (by first | exact inI_of (by omega) (by omega) | exact inB_of (by omega) (by omega) | exact inI_of (by simp only [List.length_set]; omega) (by simp only [List.length_set]; omega) | exact inB_of (by omega) (by simp only [List.length_set,sw2_len]; omega) | exact decide_eq_true (by first | omega | (simp only [List.length_set,sw2_len]; omega))),show ((a : Nat) : Int) + 1 = ((a + 1 : Nat) : Int) by omega]
    obtain ⟨d',⟨h1,h2⟩,h3⟩:=loop_up (F:=q7k n a b) (k:=some) (b:=b) (Inv:=fun i e=>Rg a b d e ∧ Srt pLt e a i ∧ a ≤ i) (fun back i e hi ⟨g1,g2,g3⟩=>by
      have hl : e.length = N:=by rw [g1.len]; exact hd
      simp only [q7k,dlt,hi,decide_true,c_t,withK_s]
      obtain ⟨d',q1,q2,q3⟩:=ins_in (R:=List PartCount) ordStr (F:=q17k n a (fun v=>chk (inI (((i : Nat) : Int) + 1)) (back (((i : Nat) : Int) + 1,v)))) (k1:=fun v=>chk (inI (((i : Nat) : Int) + 1)) (back (((i : Nat) : Int) + 1,v))) (a:=a) N (fun _=>True) i (by omega) (fun _ _ _ _ _ _=>trivial) (fun back j e h1 _ h2 h3=>ins_step hN h1 h2 (by omega)) n i e hl trivial g3 (Nat.le_refl _) (by omega) (fun p q k1 k2 k3 k4 k5=>g2 p q k1 k2 (by omega)) (fun q k1 k2=>by omega)
      refine ⟨d',?_,g1.trans (q2.mono (Nat.le_refl _) (by omega) (by omega)),q3,by omega⟩
      rw [q1,chk_of (by first | exact inI_of (by omega) (by omega) | exact inB_of (by omega) (by omega) | exact inI_of (by simp only [List.length_set]; omega) (by simp only [List.length_set]; omega) | exact inB_of (by omega) (by simp only [List.length_set,sw2_len]; omega) | exact decide_eq_true (by first | omega | (simp only [List.length_set,sw2_len]; omega)))]; rfl) (fun back e _=>by
      simp [q7k]) n (a + 1) d hab (by omega) ⟨.refl _,fun i j k1 k2 k3=>by omega,by omega⟩
    exact ⟨d',h3,h1,h2.1⟩
  · refine ⟨d,?_,.refl _,fun i j k1 k2 k3=>by omega⟩
    unfold q13k
    rw [chk_of (by first | exact inI_of (by omega) (by omega) | exact inB_of (by omega) (by omega) | exact inI_of (by simp only [List.length_set]; omega) (by simp only [List.length_set]; omega) | exact inB_of (by omega) (by simp only [List.length_set,sw2_len]; omega) | exact decide_eq_true (by first | omega | (simp only [List.length_set,sw2_len]; omega)))]
    obtain ⟨m,rfl⟩ : ∃ m,n = m + 1:=⟨n - 1,by omega⟩
    rw [loopN_s]
    have : ¬ ((a : Int) + 1 < (b : Int)):=by omega
    simp [q7k,this]
theorem sift_step {back : Int × List PartCount → Option (List PartCount)} {f r hi N : Nat} {d : List PartCount} (hN : N ≤ 900) (hd : d.length = N) (hf : f + hi ≤ N) (hr : r < hi) :
    q16k n (hi : Int) (f : Int) back (((r : Nat) : Int),d) = bif decide (hi ≤ 2 * r + 1) then some d else
      bif !pLt (ix d (f + r)) (ix d (f + bif decide (2 * r + 2 < hi) && pLt (ix d (f + (2 * r + 1))) (ix d (f + (2 * r + 2))) then 2 * r + 2 else 2 * r + 1)) then some d else
        back (((bif decide (2 * r + 2 < hi) && pLt (ix d (f + (2 * r + 1))) (ix d (f + (2 * r + 2))) then 2 * r + 2 else 2 * r + 1 : Nat) : Int),sw2 d (f + r) (f + bif decide (2 * r + 2 < hi) && pLt (ix d (f + (2 * r + 1))) (ix d (f + (2 * r + 2))) then 2 * r + 2 else 2 * r + 1)):=by
  have e1 : (2 * ((r : Nat) : Int)) + 1 = ((2 * r + 1 : Nat) : Int):=by omega
  have e2 : ((2 * r + 1 : Nat) : Int) + 1 = ((2 * r + 2 : Nat) : Int):=by omega
  have e3 : ∀ x : Nat,((f : Int) + ((x : Nat) : Int)) = ((f + x : Nat) : Int):=fun x=>by omega
  have e4 : ((f + (2 * r + 1) : Nat) : Int) + 1 = ((f + (2 * r + 2) : Nat) : Int):=by omega
  rw [q16k]
  simp only [withK_s,e1,e2,e3,e4,dlt,dle,Int.toNat_natCast,f1V,gq,gqn,cmpV_lt,gcall_some_,Option.bind_some,BEq.rfl,Bool.not_true,Bool.false_and,Bool.false_or]
  rw [chk_of (by first | exact inI_of (by omega) (by omega) | exact inB_of (by omega) (by omega) | exact inI_of (by simp only [List.length_set]; omega) (by simp only [List.length_set]; omega) | exact inB_of (by omega) (by simp only [List.length_set,sw2_len]; omega) | exact decide_eq_true (by first | omega | (simp only [List.length_set,sw2_len]; omega))),chk_of (by first | exact inI_of (by omega) (by omega) | exact inB_of (by omega) (by omega) | exact inI_of (by simp only [List.length_set]; omega) (by simp only [List.length_set]; omega) | exact inB_of (by omega) (by simp only [List.length_set,sw2_len]; omega) | exact decide_eq_true (by first | omega | (simp only [List.length_set,sw2_len]; omega)))]
  by_cases c0 : hi ≤ 2 * r + 1
  · rw [decide_eq_true c0,c_t,c_t]
  · rw [decide_eq_false c0,c_f,c_f,chk_of (by first | exact inI_of (by omega) (by omega) | exact inB_of (by omega) (by omega) | exact inI_of (by simp only [List.length_set]; omega) (by simp only [List.length_set]; omega) | exact inB_of (by omega) (by simp only [List.length_set,sw2_len]; omega) | exact decide_eq_true (by first | omega | (simp only [List.length_set,sw2_len]; omega)))]
    have G : ∀ g : Nat,g < hi → r < g → (chk (inI ((f + r : Nat) : Int)) <| chk (inB ((f + r : Nat) : Int) d.length) <| chk (decide (f + r < d.length)) <| chk (inI ((f + g : Nat) : Int)) <| chk (inB ((f + g : Nat) : Int) d.length) <| chk (decide (f + g < d.length)) <| bif !pLt (ix d (f + r)) (ix d (f + g)) then some d else chk (decide (f + g < (List.set d (f + r) (ix d (f + g))).length)) <| back (((g : Nat) : Int),(List.set (List.set d (f + r) (ix d (f + g))) (f + g) (ix d (f + r)))))
        = bif !pLt (ix d (f + r)) (ix d (f + g)) then some d else back (((g : Nat) : Int),sw2 d (f + r) (f + g)):=fun g hg hrg=>by
      (repeat rw [chk_of (by first | exact inI_of (by omega) (by omega) | exact inB_of (by omega) (by omega) | exact inI_of (by simp only [List.length_set]; omega) (by simp only [List.length_set]; omega) | exact inB_of (by omega) (by simp only [List.length_set,sw2_len]; omega) | exact decide_eq_true (by first | omega | (simp only [List.length_set,sw2_len]; omega)))])
      cases pLt (ix d (f + r)) (ix d (f + g)) with
      | true=>simp only [Bool.not_true,c_f]; (repeat rw [chk_of (by first | exact inI_of (by omega) (by omega) | exact inB_of (by omega) (by omega) | exact inI_of (by simp only [List.length_set]; omega) (by simp only [List.length_set]; omega) | exact inB_of (by omega) (by simp only [List.length_set,sw2_len]; omega) | exact decide_eq_true (by first | omega | (simp only [List.length_set,sw2_len]; omega)))]); rfl
      | false=>rfl
    by_cases c1 : 2 * r + 2 < hi
    · simp only [c1,decide_true,Bool.not_true,Bool.false_or,Bool.true_and]
      rw [chk_of (by first | exact inI_of (by omega) (by omega) | exact inB_of (by omega) (by omega) | exact inI_of (by simp only [List.length_set]; omega) (by simp only [List.length_set]; omega) | exact inB_of (by omega) (by simp only [List.length_set,sw2_len]; omega) | exact decide_eq_true (by first | omega | (simp only [List.length_set,sw2_len]; omega))),chk_of (by first | exact inI_of (by omega) (by omega) | exact inB_of (by omega) (by omega) | exact inI_of (by simp only [List.length_set]; omega) (by simp only [List.length_set]; omega) | exact inB_of (by omega) (by simp only [List.length_set,sw2_len]; omega) | exact decide_eq_true (by first | omega | (simp only [List.length_set,sw2_len]; omega))),chk_of (by first | exact inI_of (by omega) (by omega) | exact inB_of (by omega) (by omega) | exact inI_of (by simp only [List.length_set]; omega) (by simp only [List.length_set]; omega) | exact inB_of (by omega) (by simp only [List.length_set,sw2_len]; omega) | exact decide_eq_true (by first | omega | (simp only [List.length_set,sw2_len]; omega))),chk_of (by first | exact inI_of (by omega) (by omega) | exact inB_of (by omega) (by omega) | exact inI_of (by simp only [List.length_set]; omega) (by simp only [List.length_set]; omega) | exact inB_of (by omega) (by simp only [List.length_set,sw2_len]; omega) | exact decide_eq_true (by first | omega | (simp only [List.length_set,sw2_len]; omega))),chk_of (by first | exact inI_of (by omega) (by omega) | exact inB_of (by omega) (by omega) | exact inI_of (by simp only [List.length_set]; omega) (by simp only [List.length_set]; omega) | exact inB_of (by omega) (by simp only [List.length_set,sw2_len]; omega) | exact decide_eq_true (by first | omega | (simp only [List.length_set,sw2_len]; omega))),chk_of (by first | exact inI_of (by omega) (by omega) | exact inB_of (by omega) (by omega) | exact inI_of (by simp only [List.length_set]; omega) (by simp only [List.length_set]; omega) | exact inB_of (by omega) (by simp only [List.length_set,sw2_len]; omega) | exact decide_eq_true (by first | omega | (simp only [List.length_set,sw2_len]; omega))),chk_of (by first | exact inI_of (by omega) (by omega) | exact inB_of (by omega) (by omega) | exact inI_of (by simp only [List.length_set]; omega) (by simp only [List.length_set]; omega) | exact inB_of (by omega) (by simp only [List.length_set,sw2_len]; omega) | exact decide_eq_true (by first | omega | (simp only [List.length_set,sw2_len]; omega)))]
      cases pLt (ix d (f + (2 * r + 1))) (ix d (f + (2 * r + 2))) with
      | true=>simp only [c_t]; exact G (2 * r + 2) c1 (by omega)
      | false=>simp only [c_f]; exact G (2 * r + 1) (by omega) (by omega)
    · simp only [c1,decide_false,Bool.not_false,Bool.true_or,Bool.false_and,c_f,k_t]
      exact G (2 * r + 1) (by omega) (by omega)
def sdS (n f : Nat) (d : List PartCount) (lo hi : Nat) : Option (List PartCount):=q8k n d (lo : Int) (hi : Int) (f : Int)
theorem sift_ok {N f : Nat} (hN : N ≤ 900) (hn : 1000 < n) : SiftOK pLt N f (sdS n f):=by
  intro d lo hi hd hf hlo hH
  obtain ⟨d',h1,h2,h3⟩:=sift ordStr (F:=q16k n (hi : Int) (f : Int)) (f:=f) (hi:=hi) N hf (fun back r e h1 h2=>sift_step hN h1 hf h2) lo n lo d hd hlo (Nat.le_refl _) (by omega) (fun p c k1 k2 k3 k4=>hH p c (by omega) k3 k4) (fun p c k1 k2 k3 k4=>by unfold Chl at k2; omega)
  exact ⟨d',h1,h2,h3⟩
theorem sift_0 {f : Nat} (hn : 1000 < n) (d : List PartCount) : sdS n f d 0 0 = some d:=by
  obtain ⟨m,rfl⟩ : ∃ m,n = m + 1:=⟨n - 1,by omega⟩
  unfold sdS q8k
  rw [loopN_s]
  simp only [q16k]
  rfl
theorem heap_ok {N : Nat} (hN : N ≤ 900) (hn : 1000 < n) {a b : Nat} (hA : a + 1 ≤ b) (hb : b ≤ N) {d : List PartCount} (hd : d.length = N) :
    ∃ d',q34k n d a b = some d' ∧ Rg a b d d' ∧ Srt pLt d' a b:=by
  obtain ⟨L,rfl⟩ : ∃ L,b = a + L:=⟨b - a,by omega⟩
  unfold q34k
  rw [show (((a + L : Nat) : Int) - ((a : Nat) : Int)) = ((L : Nat) : Int) by omega,chk_of (by first | exact inI_of (by omega) (by omega) | exact inB_of (by omega) (by omega) | exact inI_of (by simp only [List.length_set]; omega) (by simp only [List.length_set]; omega) | exact inB_of (by omega) (by simp only [List.length_set,sw2_len]; omega) | exact decide_eq_true (by first | omega | (simp only [List.length_set,sw2_len]; omega))),withK_s,chk_of (by first | exact inI_of (by omega) (by omega) | exact inB_of (by omega) (by omega) | exact inI_of (by simp only [List.length_set]; omega) (by simp only [List.length_set]; omega) | exact inB_of (by omega) (by simp only [List.length_set,sw2_len]; omega) | exact decide_eq_true (by first | omega | (simp only [List.length_set,sw2_len]; omega)))]
  have e0 : Int.tdiv (((L : Nat) : Int) - 1) 2 = (((L - 1) / 2 : Nat) : Int):=by
    rw [Int.tdiv_eq_ediv_of_nonneg (by omega)]; omega
  rw [chk_of (by rw [e0,inI_of (by omega) (by omega)]; rfl)]
  obtain ⟨d1,h1,h2,h3⟩:=heap_build ordStr (L:=L) (sift_ok (f:=a) hN hn) (by omega) (by omega) (F:=q38k n a ((a + L : Nat) : Int) (fun v5=>chk (inI (((L : Nat) : Int) - 1)) (loopN (q15k n a) n (((L : Nat) : Int) - 1,v5)))) (k1:=fun v5=>chk (inI (((L : Nat) : Int) - 1)) (loopN (q15k n a) n (((L : Nat) : Int) - 1,v5))) (fun back i e e' k1 k2 k3 k4=>by
    have k3' : q8k n e ((i : Nat) : Int) ((L : Nat) : Int) ((a : Nat) : Int) = some e':=k3
    have c : (0 : Int) ≤ ((i : Nat) : Int):=by omega
    simp only [q38k,show (((a + L : Nat) : Int) - ((a : Nat) : Int)) = ((L : Nat) : Int) by omega,k3',c,decide_true,c_t,Option.bind_some]
    rw [chk_of (by first | exact inI_of (by omega) (by omega) | exact inB_of (by omega) (by omega) | exact inI_of (by simp only [List.length_set]; omega) (by simp only [List.length_set]; omega) | exact inB_of (by omega) (by simp only [List.length_set,sw2_len]; omega) | exact decide_eq_true (by first | omega | (simp only [List.length_set,sw2_len]; omega))),chk_of (by first | exact inI_of (by omega) (by omega) | exact inB_of (by omega) (by omega) | exact inI_of (by simp only [List.length_set]; omega) (by simp only [List.length_set]; omega) | exact inB_of (by omega) (by simp only [List.length_set,sw2_len]; omega) | exact decide_eq_true (by first | omega | (simp only [List.length_set,sw2_len]; omega)))]) (fun back e=>rfl) d hd (m:=n) (by omega)
  rw [h3,chk_of (by first | exact inI_of (by omega) (by omega) | exact inB_of (by omega) (by omega) | exact inI_of (by simp only [List.length_set]; omega) (by simp only [List.length_set]; omega) | exact inB_of (by omega) (by simp only [List.length_set,sw2_len]; omega) | exact decide_eq_true (by first | omega | (simp only [List.length_set,sw2_len]; omega)))]
  have hl1 : d1.length = N:=by rw [h1.len]; exact hd
  obtain ⟨d2,g1,g2,g3⟩:=heap_pop ordStr (L:=L) (sift_ok (f:=a) hN hn) (sift_0 hn) (by omega) (F:=q15k n a) (fun back i e e' k1 k2 k3 k4=>by
    have k3' : q8k n (sw2 e a (a + i)) 0 ((i : Nat) : Int) ((a : Nat) : Int) = some e':=k3
    unfold sw2 at k3'
    have c : (0 : Int) ≤ ((i : Nat) : Int):=by omega
    have e3 : ((a : Int) + ((i : Nat) : Int)) = ((a + i : Nat) : Int):=by omega
    simp only [q15k,e3,Int.toNat_natCast,k3',c,decide_true,c_t,Option.bind_some]
    (repeat rw [chk_of (by first | exact inI_of (by omega) (by omega) | exact inB_of (by omega) (by omega) | exact inI_of (by simp only [List.length_set]; omega) (by simp only [List.length_set]; omega) | exact inB_of (by omega) (by simp only [List.length_set,sw2_len]; omega) | exact decide_eq_true (by first | omega | (simp only [List.length_set,sw2_len]; omega)))])) (fun back e=>rfl) d1 hl1 h2 (m:=n) (by omega)
  exact ⟨d2,g3,h1.trans g1,g2⟩
end
section
set_option maxRecDepth 4000
open Go
variable {n : Nat}
theorem order2_ok {N : Nat} {d : List PartCount} (hN : N ≤ 900) (hd : d.length = N) {i j : Nat} (hi : i < N) (hj : j < N) {c : Int} (h1 : 0 ≤ c) (h2 : c ≤ 1000) :
    ∃ (p q : Nat) (c' : Int),q19k n d (i : Int) (j : Int) c = some ((p : Int),(q : Int),c') ∧ ((p = i ∧ q = j) ∨ (p = j ∧ q = i)) ∧ c ≤ c' ∧ c' ≤ c + 1:=by
  unfold q19k
  simp only [Int.toNat_natCast,f1V,gq,gqn,cmpV_lt,Option.bind_some,BEq.rfl,Bool.not_true,Bool.false_and,Bool.false_or]
  (repeat rw [chk_of (by first | exact inI_of (by omega) (by omega) | exact inB_of (by omega) (by omega) | exact inI_of (by simp only [List.length_set]; omega) (by simp only [List.length_set]; omega) | exact inB_of (by omega) (by simp only [List.length_set,sw2_len]; omega) | exact decide_eq_true (by first | omega | (simp only [List.length_set,sw2_len]; omega)))])
  cases pLt (ix d j) (ix d i) with
  | true=>rw [c_t]; (repeat rw [chk_of (by first | exact inI_of (by omega) (by omega) | exact inB_of (by omega) (by omega) | exact inI_of (by simp only [List.length_set]; omega) (by simp only [List.length_set]; omega) | exact inB_of (by omega) (by simp only [List.length_set,sw2_len]; omega) | exact decide_eq_true (by first | omega | (simp only [List.length_set,sw2_len]; omega)))]); exact ⟨j,i,c + 1,rfl,.inr ⟨rfl,rfl⟩,by omega,by omega⟩
  | false=>rw [c_f]; exact ⟨i,j,c,rfl,.inl ⟨rfl,rfl⟩,by omega,by omega⟩
theorem median_ok {N : Nat} {d : List PartCount} (hN : N ≤ 900) (hd : d.length = N) {i j k : Nat} (hi : i < N) (hj : j < N) (hk : k < N) {c : Int} (h1 : 0 ≤ c) (h2 : c ≤ 900) :
    ∃ (p : Nat) (c' : Int),q30k n d (i : Int) (j : Int) (k : Int) c = some ((p : Int),c') ∧ (p = i ∨ p = j ∨ p = k) ∧ c ≤ c' ∧ c' ≤ c + 3:=by
  unfold q30k
  obtain ⟨p1,q1,c1,a1,a2,a3,a4⟩:=order2_ok (n:=n) hN hd hi hj h1 (by omega)
  rw [a1,Option.bind_some]
  obtain ⟨p2,q2,c2,b1,b2,b3,b4⟩:=order2_ok (n:=n) hN hd (i:=q1) (j:=k) (by omega) hk (c:=c1) (by omega) (by omega)
  rw [b1,Option.bind_some]
  obtain ⟨p3,q3,c3,g1,g2,g3,g4⟩:=order2_ok (n:=n) hN hd (i:=p1) (j:=p2) (by omega) (by omega) (c:=c2) (by omega) (by omega)
  rw [g1,Option.bind_some]
  exact ⟨q3,c3,rfl,by omega,by omega,by omega⟩
theorem medianAdj_ok {N : Nat} {d : List PartCount} (hN : N ≤ 900) (hd : d.length = N) {i : Nat} (h0 : 1 ≤ i) (hi : i + 1 < N) {c : Int} (h1 : 0 ≤ c) (h2 : c ≤ 900) :
    ∃ (p : Nat) (c' : Int),q5k n d (i : Int) c = some ((p : Int),c') ∧ (i - 1 ≤ p ∧ p ≤ i + 1) ∧ c ≤ c' ∧ c' ≤ c + 3:=by
  unfold q5k
  (repeat rw [chk_of (by first | exact inI_of (by omega) (by omega) | exact inB_of (by omega) (by omega) | exact inI_of (by simp only [List.length_set]; omega) (by simp only [List.length_set]; omega) | exact inB_of (by omega) (by simp only [List.length_set,sw2_len]; omega) | exact decide_eq_true (by first | omega | (simp only [List.length_set,sw2_len]; omega)))])
  rw [show ((i : Int) - 1) = ((i - 1 : Nat) : Int) by omega,show ((i : Int) + 1) = ((i + 1 : Nat) : Int) by omega]
  obtain ⟨p,c',a1,a2,a3,a4⟩:=median_ok (n:=n) hN hd (i:=i - 1) (j:=i) (k:=i + 1) (by omega) (by omega) hi h1 h2
  rw [a1,Option.bind_some]
  exact ⟨p,c',rfl,by omega,a3,a4⟩
theorem hint_ok (p : Nat) (c : Int) : ∃ h : Int,(bif c == (0 : Int) then some ((p : Int),(1 : Int)) else bif c == (12 : Int) then some ((p : Int),2) else some ((p : Int),0)) = some ((p : Int),h):=by
  cases c == (0 : Int) with
  | true=>exact ⟨1,rfl⟩
  | false =>
    cases c == (12 : Int) with
    | true=>exact ⟨2,rfl⟩
    | false=>exact ⟨0,rfl⟩
theorem choose_ok {N : Nat} {d : List PartCount} (hN : N ≤ 900) (hd : d.length = N) {a b : Nat} (h13 : a + 13 ≤ b) (hb : b ≤ N) :
    ∃ (p : Nat) (h : Int),q25k n d (a : Int) (b : Int) = some ((p : Int),h) ∧ a ≤ p ∧ p < b:=by
  obtain ⟨L,rfl⟩ : ∃ L,b = a + L:=⟨b - a,by omega⟩
  have e0 : (((a + L : Nat) : Int) - ((a : Nat) : Int)) = ((L : Nat) : Int):=by omega
  have e1 : Int.tdiv ((L : Nat) : Int) 4 = ((L / 4 : Nat) : Int):=by
    rw [Int.tdiv_eq_ediv_of_nonneg (by omega)]; omega
  obtain ⟨q,hq⟩ : ∃ q,q = L / 4:=⟨_,rfl⟩
  have f1 : (a : Int) + ((q : Nat) : Int) * 1 = ((a + q : Nat) : Int):=by omega
  have f2 : (a : Int) + ((q : Nat) : Int) * 2 = ((a + q * 2 : Nat) : Int):=by omega
  have f3 : (a : Int) + ((q : Nat) : Int) * 3 = ((a + q * 3 : Nat) : Int):=by omega
  unfold q25k
  simp only [e0,e1,← hq,withK_s,f1,f2,f3]
  rw [chk_of (by first | exact inI_of (by omega) (by omega) | exact inB_of (by omega) (by omega) | exact inI_of (by simp only [List.length_set]; omega) (by simp only [List.length_set]; omega) | exact inB_of (by omega) (by simp only [List.length_set,sw2_len]; omega) | exact decide_eq_true (by first | omega | (simp only [List.length_set,sw2_len]; omega))),chk_of (by rw [inI_of (by omega) (by omega)]; rfl)]
  (repeat rw [chk_of (by first | exact inI_of (by omega) (by omega) | exact inB_of (by omega) (by omega) | exact inI_of (by simp only [List.length_set]; omega) (by simp only [List.length_set]; omega) | exact inB_of (by omega) (by simp only [List.length_set,sw2_len]; omega) | exact decide_eq_true (by first | omega | (simp only [List.length_set,sw2_len]; omega)))])
  rw [decide_eq_true (show (8 : Int) ≤ ((L : Nat) : Int) by omega),c_t]
  by_cases h50 : 50 ≤ L
  · rw [decide_eq_true (show (50 : Int) ≤ ((L : Nat) : Int) by omega),c_t]
    obtain ⟨p1,c1,a1,a2,a3,a4⟩:=medianAdj_ok (n:=n) hN hd (i:=a + q) (by omega) (by omega) (c:=0) (by omega) (by omega)
    rw [a1,Option.bind_some]
    obtain ⟨p2,c2,b1,b2,b3,b4⟩:=medianAdj_ok (n:=n) hN hd (i:=a + q * 2) (by omega) (by omega) (c:=c1) (by omega) (by omega)
    rw [b1,Option.bind_some]
    obtain ⟨p3,c3,g1,g2,g3,g4⟩:=medianAdj_ok (n:=n) hN hd (i:=a + q * 3) (by omega) (by omega) (c:=c2) (by omega) (by omega)
    rw [g1,Option.bind_some]
    obtain ⟨p4,c4,k1,k2,k3,k4⟩:=median_ok (n:=n) hN hd (i:=p1) (j:=p2) (k:=p3) (by omega) (by omega) (by omega) (c:=c3) (by omega) (by omega)
    rw [k1,Option.bind_some]
    obtain ⟨h,hh⟩:=hint_ok p4 c4
    exact ⟨p4,h,hh,by omega,by omega⟩
  · rw [decide_eq_false (show ¬ (50 : Int) ≤ ((L : Nat) : Int) by omega),c_f]
    obtain ⟨p4,c4,k1,k2,k3,k4⟩:=median_ok (n:=n) hN hd (i:=a + q) (j:=a + q * 2) (k:=a + q * 3) (by omega) (by omega) (by omega) (c:=0) (by omega) (by omega)
    rw [k1,Option.bind_some]
    obtain ⟨h,hh⟩:=hint_ok p4 c4
    exact ⟨p4,h,hh,by omega,by omega⟩
theorem rev_loop {N a b : Nat} (hN : N ≤ 900) (hb : b ≤ N) : ∀ m i J (d : List PartCount),J - i < m → d.length = N → a ≤ i → J ≤ b → ∃ d',loopN q32k m (((i : Nat) : Int),((J : Nat) : Int) - 1,d) = some d' ∧ Rg a b d d':=by
  intro m
  induction m with
  | zero=>intro i J d h; omega
  | succ m ih =>
    intro i J d h hd ha hJ
    rw [loopN_s,q32k]
    by_cases c : i + 1 < J
    · rw [decide_eq_true (show ((i : Nat) : Int) < ((J : Nat) : Int) - 1 by omega),c_t]
      have e1 : (((J : Nat) : Int) - 1).toNat = J - 1:=by omega
      simp only [e1,Int.toNat_natCast]
      (repeat rw [chk_of (by first | exact inI_of (by omega) (by omega) | exact inB_of (by omega) (by omega) | exact inI_of (by simp only [List.length_set]; omega) (by simp only [List.length_set]; omega) | exact inB_of (by omega) (by simp only [List.length_set,sw2_len]; omega) | exact decide_eq_true (by first | omega | (simp only [List.length_set,sw2_len]; omega)))])
      rw [show ((i : Nat) : Int) + 1 = ((i + 1 : Nat) : Int) by omega,show ((J : Nat) : Int) - 1 - 1 = ((J - 1 : Nat) : Int) - 1 by omega]
      obtain ⟨d',g1,g2⟩:=ih (i + 1) (J - 1) (sw2 d i (J - 1)) (by omega) (by rw [sw2_len]; exact hd) (by omega) (by omega)
      exact ⟨d',g1,(Rg.step (.refl _) ⟨by omega,by omega⟩ ⟨by omega,by omega⟩ (by omega)).trans g2⟩
    · rw [decide_eq_false (show ¬ ((i : Nat) : Int) < ((J : Nat) : Int) - 1 by omega),c_f]
      exact ⟨d,rfl,.refl _⟩
theorem rev_ok {N a b : Nat} (hN : N ≤ 900) (hn : 1000 < n) (hb : b ≤ N) {d : List PartCount} (hd : d.length = N) :
    ∃ d',q24k n d (a : Int) (b : Int) = some d' ∧ Rg a b d d':=by
  unfold q24k
  (repeat rw [chk_of (by first | exact inI_of (by omega) (by omega) | exact inB_of (by omega) (by omega) | exact inI_of (by simp only [List.length_set]; omega) (by simp only [List.length_set]; omega) | exact inB_of (by omega) (by simp only [List.length_set,sw2_len]; omega) | exact decide_eq_true (by first | omega | (simp only [List.length_set,sw2_len]; omega)))])
  exact rev_loop hN hb n a b d (by omega) hd (Nat.le_refl _) (Nat.le_refl _)
theorem dle1 (i J : Nat) : decide ((i : Int) ≤ (J : Int) - 1) = decide (i < J):=decide_eq_decide.2 (by omega)
theorem dlt1 (i J : Nat) : decide ((J : Int) - 1 < (i : Int)) = decide (J ≤ i):=decide_eq_decide.2 (by omega)
theorem pt1 (J : Nat) : (((J : Nat) : Int) - 1).toNat = J - 1:=by omega
section
variable {R : Type} {N : Nat} (hN : N ≤ 900)
include hN
theorem part_L3 {k back : Int → Option (Int × (List PartCount) × Bool)} {a i J : Nat} {d : List PartCount} (hd : d.length = N) (ha : a < N) (hJ : J ≤ N) (hi : i ≤ N) :
    q23k n (a : Int) ((J : Int) - 1) d k back (i : Int) = bif decide (i < J) && pLt (ix d i) (ix d a) then back ((i + 1 : Nat) : Int) else k (i : Int):=by
  rw [q23k]
  simp only [dle1,Int.toNat_natCast,f1V,gq,gqn,cmpV_lt,gcall_some_,Option.bind_some,BEq.rfl,Bool.not_true,Bool.false_and,Bool.false_or]
  by_cases h0 : i < J
  · rw [decide_eq_true h0]; simp only [Bool.not_true,Bool.false_or,Bool.true_and]
    (repeat rw [chk_of (by first | exact inI_of (by omega) (by omega) | exact inB_of (by omega) (by omega) | exact inI_of (by simp only [List.length_set]; omega) (by simp only [List.length_set]; omega) | exact inB_of (by omega) (by simp only [List.length_set,sw2_len]; omega) | exact decide_eq_true (by first | omega | (simp only [List.length_set,sw2_len]; omega)))])
    cases pLt (ix d i) (ix d a) with
    | true=>rw [c_t,c_t]; rfl
    | false=>rw [c_f,c_f]
  · rw [decide_eq_false h0]; simp only [Bool.not_false,Bool.true_or,Bool.false_and,c_f,k_t]
theorem part_L4 {k back : Int → Option (Int × (List PartCount) × Bool)} {a i J : Nat} {d : List PartCount} (hd : d.length = N) (ha : a < N) (hJ : J ≤ N) :
    q14k n (a : Int) d (i : Int) k back ((J : Int) - 1) = bif decide (i < J) && !pLt (ix d (J - 1)) (ix d a) then back (((J - 1 : Nat) : Int) - 1) else k ((J : Int) - 1):=by
  rw [q14k]
  simp only [dle1,pt1,Int.toNat_natCast,f1V,gq,gqn,cmpV_lt,gcall_some_,Option.bind_some,BEq.rfl,Bool.not_true,Bool.false_and,Bool.false_or]
  by_cases h0 : i < J
  · rw [decide_eq_true h0]; simp only [Bool.not_true,Bool.false_or,Bool.true_and]
    (repeat rw [chk_of (by first | exact inI_of (by omega) (by omega) | exact inB_of (by omega) (by omega) | exact inI_of (by simp only [List.length_set]; omega) (by simp only [List.length_set]; omega) | exact inB_of (by omega) (by simp only [List.length_set,sw2_len]; omega) | exact decide_eq_true (by first | omega | (simp only [List.length_set,sw2_len]; omega)))])
    cases pLt (ix d (J - 1)) (ix d a) with
    | true=>rw [Bool.not_true,c_f,c_f]
    | false =>
      rw [Bool.not_false,c_t,c_t,show ((J : Nat) : Int) - 1 - 1 = ((J - 1 : Nat) : Int) - 1 by omega]
  · rw [decide_eq_false h0]; simp only [Bool.not_false,Bool.true_or,Bool.false_and,c_f,k_t]
theorem pteq_L1 {k back : Int → Option (Int × (List PartCount))} {a i J : Nat} {d : List PartCount} (hd : d.length = N) (ha : a < N) (hJ : J ≤ N) (hi : i ≤ N) :
    q26k n (a : Int) ((J : Int) - 1) d k back (i : Int) = bif decide (i < J) && !pLt (ix d a) (ix d i) then back ((i + 1 : Nat) : Int) else k (i : Int):=by
  rw [q26k]
  simp only [dle1,Int.toNat_natCast,f1V,gq,gqn,cmpV_lt,gcall_some_,Option.bind_some,BEq.rfl,Bool.not_true,Bool.false_and,Bool.false_or]
  by_cases h0 : i < J
  · rw [decide_eq_true h0]; simp only [Bool.not_true,Bool.false_or,Bool.true_and]
    (repeat rw [chk_of (by first | exact inI_of (by omega) (by omega) | exact inB_of (by omega) (by omega) | exact inI_of (by simp only [List.length_set]; omega) (by simp only [List.length_set]; omega) | exact inB_of (by omega) (by simp only [List.length_set,sw2_len]; omega) | exact decide_eq_true (by first | omega | (simp only [List.length_set,sw2_len]; omega)))])
    cases pLt (ix d a) (ix d i) with
    | true=>rw [Bool.not_true,c_f,c_f]
    | false=>rw [Bool.not_false,c_t,c_t]; rfl
  · rw [decide_eq_false h0]; simp only [Bool.not_false,Bool.true_or,Bool.false_and,c_f,k_t]
theorem pteq_L2 {k back : Int → Option (Int × (List PartCount))} {a i J : Nat} {d : List PartCount} (hd : d.length = N) (ha : a < N) (hJ : J ≤ N) :
    q27k n (a : Int) d (i : Int) k back ((J : Int) - 1) = bif decide (i < J) && pLt (ix d a) (ix d (J - 1)) then back (((J - 1 : Nat) : Int) - 1) else k ((J : Int) - 1):=by
  rw [q27k]
  simp only [dle1,pt1,Int.toNat_natCast,f1V,gq,gqn,cmpV_lt,gcall_some_,Option.bind_some,BEq.rfl,Bool.not_true,Bool.false_and,Bool.false_or]
  by_cases h0 : i < J
  · rw [decide_eq_true h0]; simp only [Bool.not_true,Bool.false_or,Bool.true_and]
    (repeat rw [chk_of (by first | exact inI_of (by omega) (by omega) | exact inB_of (by omega) (by omega) | exact inI_of (by simp only [List.length_set]; omega) (by simp only [List.length_set]; omega) | exact inB_of (by omega) (by simp only [List.length_set,sw2_len]; omega) | exact decide_eq_true (by first | omega | (simp only [List.length_set,sw2_len]; omega)))])
    cases pLt (ix d a) (ix d (J - 1)) with
    | true=>rw [c_t,c_t,show ((J : Nat) : Int) - 1 - 1 = ((J - 1 : Nat) : Int) - 1 by omega]
    | false=>rw [c_f,c_f]
  · rw [decide_eq_false h0]; simp only [Bool.not_false,Bool.true_or,Bool.false_and,c_f,k_t]
end
end
section
set_option maxRecDepth 4000
open Go
variable {n : Nat}
section
variable {α : Type} [Inhabited α] {T : α → Bool} {a b N i J : Nat} {d0 d : List α}
theorem Pt.next (P : Pt T a b N d0 i J d) {i' J' : Nat} (a1 : i ≤ i') (a2 : i' ≤ J) (a3 : ∀ q,i ≤ q → q < i' → T (ix d q) = true) (a4 : i' < J → T (ix d i') = false) (b1 : i' ≤ J') (b2 : J' ≤ J) (b3 : ∀ q,J' ≤ q → q < J → T (ix d q) = false) (b4 : i' < J' → T (ix d (J' - 1)) = true) :
    (J' ≤ i' → Pt T a b N d0 i' i' d) ∧ (¬ J' ≤ i' → Pt T a b N d0 (i' + 1) (J' - 1) (sw2 d i' (J' - 1))):=by
  have L : ∀ q,a + 1 ≤ q → q < i' → T (ix d q) = true:=fun q k1 k2=>by
    by_cases c : q < i
    · exact P.left q k1 c
    · exact a3 q (by omega) k2
  have Rr : ∀ q,J' ≤ q → q < b → T (ix d q) = false:=fun q k1 k2=>by
    by_cases c : J ≤ q
    · exact P.right q c k2
    · exact b3 q k1 (by omega)
  have p1:=P.lo; have p2:=P.hi; have p3:=P.len; have p4:=P.bn
  refine ⟨fun c=>?_,fun c=>?_⟩
  · have : J' = i':=by omega
    subst this
    exact ⟨P.rg,P.len,by omega,Nat.le_refl _,by omega,P.bn,L,Rr⟩
  · have t1:=a4 (by omega)
    have t2:=b4 (by omega)
    have hne : i' ≠ J' - 1:=by
      intro e; rw [← e,t1] at t2; cases t2
    have hx:=fun k=>sw2_ix (l:=d) (i:=i') (j:=J' - 1) (by omega) (by omega) k
    refine ⟨.step P.rg ⟨by omega,by omega⟩ ⟨by omega,by omega⟩ (by omega),by rw [sw2_len]; exact P.len,by omega,by omega,by omega,P.bn,fun q k1 k2=>?_,fun q k1 k2=>?_⟩
    · rw [hx q,if_neg (by omega)]
      by_cases e : q = i'
      · rw [if_pos e]; exact t2
      · rw [if_neg e]; exact L q k1 (by omega)
    · rw [hx q]
      by_cases e : q = J' - 1
      · rw [if_pos e]; exact t1
      · rw [if_neg e,if_neg (by omega)]; exact Rr q (by omega) k2
theorem Pt.fin {e : List α} (he : Rg a b e d0) (P : Pt T a b N d0 i i d) : a ≤ i - 1 ∧ i - 1 < N ∧ i - 1 < max b (a + 1) ∧ (a < b → i - 1 < b) ∧ Rg a b e d ∧ (a < b → Rg a b e (sw2 d (i - 1) a)) ∧ (a < b → ix (sw2 d (i - 1) a) (i - 1) = ix d0 a) ∧ (a < b → ∀ q,a ≤ q → q < i - 1 → T (ix (sw2 d (i - 1) a) q) = true) ∧ (a < b → ∀ q,i - 1 < q → q < b → T (ix (sw2 d (i - 1) a) q) = false):=by
  have p1:=P.lo; have p2:=P.hi; have p3:=P.len; have p4:=P.bn
  have hl : d0.length = N:=by rw [← P.rg.len]; exact P.len
  have r0 : Rg a b d0 d:=P.rg.mono (by omega) (Nat.le_refl _) (by omega)
  have hx:=fun k=>sw2_ix (l:=d) (i:=i - 1) (j:=a) (by omega) (by omega) k
  refine ⟨by omega,by omega,by omega,fun _=>by omega,he.trans r0,fun h=>.step (he.trans r0) ⟨by omega,by omega⟩ ⟨by omega,by omega⟩ (by omega),fun h=>?_,fun h q k1 k2=>?_,fun h q k1 k2=>?_⟩
  · rw [hx]
    by_cases c : i - 1 = a
    · rw [if_pos c,c]; exact P.rg.out a (by omega)
    · rw [if_neg c,if_pos rfl]; exact P.rg.out a (by omega)
  · rw [hx]
    by_cases c : q = a
    · rw [if_pos c]; exact P.left _ (by omega) (by omega)
    · rw [if_neg c,if_neg (by omega)]; exact P.left _ (by omega) (by omega)
  · rw [hx,if_neg (by omega),if_neg (by omega)]; exact P.right _ (by omega) (by omega)
theorem Pt.start {a b N : Nat} {d : List α} (hd : d.length = N) (hab : a < b) (hb : b ≤ N) : Pt T a b N d (a + 1) b d :=
  ⟨.refl _,hd,Nat.le_refl _,by omega,Nat.le_refl _,hb,fun q k1 k2=>by omega,fun q k1 k2=>by omega⟩
end
variable {N : Nat}
theorem nbP_f {b : Bool} (h : (!b) = true) : b = false:=by cases b with | true=>cases h | false=>rfl
theorem nb_t {b : Bool} (h : (!b) = false) : b = true:=by cases b with | true=>rfl | false=>cases h
theorem part_loop5 (hN : N ≤ 900) (hn : 1000 < n) {a b : Nat} (hab : a < b) {d0 : List PartCount} {k5 : Int × List PartCount → Option (Int × List PartCount × Bool)} : ∀ i J d,Pt (fun x=>pLt x (ix d0 a)) a b N d0 i J d →
    ∃ i' d',Pt (fun x=>pLt x (ix d0 a)) a b N d0 i' i' d' ∧ loopN (q37k n (a : Int) k5) n (((i : Nat) : Int),((J : Nat) : Int) - 1,d) = k5 (((i' : Nat) : Int) - 1,d'):=by
  intro i J d P
  refine part_loop (k:=fun i' d'=>k5 (((i' : Nat) : Int) - 1,d')) (fun back i J d P=>?_) n i J d (by have:=P.hi; have:=P.bn; omega) P
  have p1:=P.lo; have p2:=P.hi; have p3:=P.len; have p4:=P.bn
  have hp : ix d a = ix d0 a:=P.rg.out a (by omega)
  let K4 : Int → Int → Option (Int × List PartCount × Bool) := fun v23 v27 => bif decide (v27 < v23) then
            k5 (v27,d)
          else
            chk (inB v27 d.length) <|
            chk (decide (v27.toNat < d.length)) <|
            chk (inB v23 d.length) <|
            chk (decide (v23.toNat < d.length)) <|
            chk (decide (v27.toNat < (List.set d v23.toNat (ix d v27.toNat)).length)) <|
            chk (inI (v23 + 1)) <|
            chk (inI (v27 - 1)) <|
            back (v23 + 1,v27 - 1,(List.set (List.set d v23.toNat (ix d v27.toNat)) v27.toNat (ix d v23.toNat)))
  let K3 : Int → Option (Int × List PartCount × Bool):=fun v23=>loopN (q14k n (a : Int) d v23 (K4 v23)) n ((J : Int) - 1)
  obtain ⟨i',a1,a2,a3,a4,a5⟩:=scan_up (F:=q23k n (a : Int) ((J : Int) - 1) d K3) (k:=K3) (J:=J) (fun q=>pLt (ix d q) (ix d0 a)) N (by omega) (fun back i hi=>by
    rw [part_L3 hN p3 (by omega) (by omega) hi,hp]) n i P.mid (by omega)
  obtain ⟨J',b1,b2,b3,b4,b5⟩:=scan_down (F:=q14k n (a : Int) d ((i' : Nat) : Int) (K4 i')) (k:=K4 i') (i:=i') (fun q=>!pLt (ix d q) (ix d0 a)) N (fun back J hJ=>by
    rw [part_L4 hN p3 (by omega) hJ,hp]) n J a2 (by omega) (by omega)
  refine ⟨i',a1,a2,a3,a4,J',b1,b2,fun q k1 k2=>nbP_f (b3 q k1 k2),fun h=>nb_t (b4 h),?_⟩
  rw [q37k]
  refine (show _ = _ from a5).trans ((show K3 i' = _ from b5).trans ?_)
  show (bif decide (((J' : Nat) : Int) - 1 < ((i' : Nat) : Int)) then _ else _) = _
  rw [dlt1]
  by_cases c : J' ≤ i'
  · have : J' = i':=by omega
    rw [decide_eq_true c,c_t,c_t,this]
  · rw [decide_eq_false c,c_f,c_f]
    simp only [pt1,Int.toNat_natCast]
    (repeat rw [chk_of (by first | exact inI_of (by omega) (by omega) | exact inB_of (by omega) (by omega) | exact inI_of (by simp only [List.length_set]; omega) (by simp only [List.length_set]; omega) | exact inB_of (by omega) (by simp only [List.length_set,sw2_len]; omega) | exact decide_eq_true (by first | omega | (simp only [List.length_set,sw2_len]; omega)))])
    rw [show ((i' : Nat) : Int) + 1 = ((i' + 1 : Nat) : Int) by omega,show ((J' : Nat) : Int) - 1 - 1 = ((J' - 1 : Nat) : Int) - 1 by omega]; rfl
end
section
set_option maxRecDepth 4000
open Go
variable {n : Nat}
structure Up (p : Nat → Bool) (i J i' : Nat) : Prop where
  a1 : i ≤ i'
  a2 : i' ≤ J
  a3 : ∀ q,i ≤ q → q < i' → p q = true
  a4 : i' < J → p i' = false
structure Dn (p : Nat → Bool) (i J J' : Nat) : Prop where
  b1 : i ≤ J'
  b2 : J' ≤ J
  b3 : ∀ q,J' ≤ q → q < J → p q = true
  b4 : i < J' → p (J' - 1) = false
theorem Up.ex (p : Nat → Bool) {i J : Nat} (h : i ≤ J) : ∃ i',Up p i J i':=by
  obtain ⟨m,hm⟩ : ∃ m,m = J - i:=⟨_,rfl⟩
  induction m generalizing i with
  | zero=>exact ⟨i,Nat.le_refl _,h,fun q k1 k2=>by omega,fun k=>by omega⟩
  | succ m ih =>
    cases c : p i with
    | false=>exact ⟨i,Nat.le_refl _,h,fun q k1 k2=>by omega,fun _=>c⟩
    | true =>
      obtain ⟨i',g⟩:=ih (i:=i + 1) (by omega) (by omega)
      refine ⟨i',by have:=g.a1; omega,g.a2,fun q k1 k2=>?_,g.a4⟩
      by_cases e : q = i
      · rw [e]; exact c
      · exact g.a3 q (by omega) k2
theorem Dn.ex (p : Nat → Bool) {i J : Nat} (h : i ≤ J) : ∃ J',Dn p i J J':=by
  obtain ⟨m,hm⟩ : ∃ m,m = J - i:=⟨_,rfl⟩
  induction m generalizing J with
  | zero=>exact ⟨J,h,Nat.le_refl _,fun q k1 k2=>by omega,fun k=>by omega⟩
  | succ m ih =>
    cases c : p (J - 1) with
    | false=>exact ⟨J,h,Nat.le_refl _,fun q k1 k2=>by omega,fun _=>c⟩
    | true =>
      obtain ⟨J',g⟩:=ih (J:=J - 1) (by omega) (by omega)
      refine ⟨J',g.b1,by have:=g.b2; omega,fun q k1 k2=>?_,g.b4⟩
      by_cases e : q = J - 1
      · rw [e]; exact c
      · exact g.b3 q k1 (by omega)
theorem Up.run {R : Type} {F : (Int → Option R) → Int → Option R} {k : Int → Option R} {J : Nat} {p : Nat → Bool} {N : Nat} (hJ : J ≤ N) (step : ∀ back (i : Nat),i ≤ N → F back ((i : Nat) : Int) = bif decide (i < J) && p i then back ((i + 1 : Nat) : Int) else k ((i : Nat) : Int)) {m i i' : Nat} (h : Up p i J i') (hm : J - i < m) : loopN F m ((i : Nat) : Int) = k ((i' : Nat) : Int):=by
  obtain ⟨i2,g1,g2,g3,g4,g5⟩:=scan_up p N hJ step m i (Nat.le_trans h.a1 h.a2) hm
  rw [g5]
  have : i2 = i':=by
    rcases Nat.lt_trichotomy i2 i' with c | c | c
    · have h1:=h.a3 i2 g1 c
      have h2:=h.a2
      rw [g4 (by omega)] at h1; cases h1
    · exact c
    · have h1:=g3 i' h.a1 c
      rw [h.a4 (by omega)] at h1; cases h1
  rw [this]
theorem Dn.run {R : Type} {F : (Int → Option R) → Int → Option R} {k : Int → Option R} {i : Nat} {p : Nat → Bool} {N : Nat} (step : ∀ back (J : Nat),J ≤ N → F back (((J : Nat) : Int) - 1) = bif decide (i < J) && p (J - 1) then back (((J - 1 : Nat) : Int) - 1) else k (((J : Nat) : Int) - 1)) {m J J' : Nat} (h : Dn p i J J') (hJ : J ≤ N) (hm : J - i < m) : loopN F m (((J : Nat) : Int) - 1) = k (((J' : Nat) : Int) - 1):=by
  obtain ⟨J2,g1,g2,g3,g4,g5⟩:=scan_down p N step m J (Nat.le_trans h.b1 h.b2) hJ hm
  rw [g5]
  have : J2 = J':=by
    rcases Nat.lt_trichotomy J2 J' with c | c | c
    · have h1:=g3 (J' - 1) (by omega) (by have:=h.b2; omega)
      rw [h.b4 (by omega)] at h1; cases h1
    · exact c
    · have h1:=h.b3 (J2 - 1) (by omega) (by omega)
      have:=h.b1
      rw [g4 (by omega)] at h1; cases h1
  rw [this]
section
variable {N : Nat} (hN : N ≤ 900)
include hN
theorem part_L1 {k back : Int → Option (Int × (List PartCount) × Bool)} {a b p i : Nat} {d : List PartCount} (hd : d.length = N) (ha : a < N) (hp : p < N) (hb : b ≤ N) (hi : i ≤ N) :
    q35k n d (a : Int) (b : Int) (p : Int) k back (i : Int) = bif decide (i < b) && pLt (ix (sw2 d a p) i) (ix (sw2 d a p) a) then back ((i + 1 : Nat) : Int) else k (i : Int):=by
  have hs : (d.set a (ix d p)).set p (ix d a) = sw2 d a p:=rfl
  have hl : (sw2 d a p).length = N:=by rw [sw2_len]; exact hd
  rw [q35k]
  simp only [dle1,Int.toNat_natCast,f1V,gq,gqn,cmpV_lt,gcall_some_,Option.bind_some,BEq.rfl,Bool.not_true,Bool.false_and,Bool.false_or,hs]
  by_cases h0 : i < b
  · rw [decide_eq_true h0]; simp only [Bool.not_true,Bool.false_or,Bool.true_and]
    (repeat rw [chk_of (by first | exact inI_of (by omega) (by omega) | exact inB_of (by omega) (by omega) | exact inI_of (by simp only [List.length_set]; omega) (by simp only [List.length_set]; omega) | exact inB_of (by omega) (by simp only [List.length_set,sw2_len]; omega) | exact decide_eq_true (by first | omega | (simp only [List.length_set,sw2_len]; omega)))])
    cases pLt (ix (sw2 d a p) i) (ix (sw2 d a p) a) with
    | true=>rw [c_t,c_t]; rfl
    | false=>rw [c_f,c_f]
  · rw [decide_eq_false h0]; simp only [Bool.not_false,Bool.true_or,Bool.false_and,c_f,k_t]
theorem part_L2 {k back : Int → Option (Int × (List PartCount) × Bool)} {a p i J : Nat} {d : List PartCount} (hd : d.length = N) (ha : a < N) (hp : p < N) (hJ : J ≤ N) :
    q36k n d (a : Int) (p : Int) (i : Int) k back ((J : Int) - 1) = bif decide (i < J) && !pLt (ix (sw2 d a p) (J - 1)) (ix (sw2 d a p) a) then back (((J - 1 : Nat) : Int) - 1) else k ((J : Int) - 1):=by
  have hs : (d.set a (ix d p)).set p (ix d a) = sw2 d a p:=rfl
  have hl : (sw2 d a p).length = N:=by rw [sw2_len]; exact hd
  rw [q36k]
  simp only [dle1,pt1,Int.toNat_natCast,f1V,gq,gqn,cmpV_lt,gcall_some_,Option.bind_some,BEq.rfl,Bool.not_true,Bool.false_and,Bool.false_or,hs]
  by_cases h0 : i < J
  · rw [decide_eq_true h0]; simp only [Bool.not_true,Bool.false_or,Bool.true_and]
    (repeat rw [chk_of (by first | exact inI_of (by omega) (by omega) | exact inB_of (by omega) (by omega) | exact inI_of (by simp only [List.length_set]; omega) (by simp only [List.length_set]; omega) | exact inB_of (by omega) (by simp only [List.length_set,sw2_len]; omega) | exact decide_eq_true (by first | omega | (simp only [List.length_set,sw2_len]; omega)))])
    cases pLt (ix (sw2 d a p) (J - 1)) (ix (sw2 d a p) a) with
    | true=>rw [Bool.not_true,c_f,c_f]
    | false =>
      rw [Bool.not_false,c_t,c_t,show ((J : Nat) : Int) - 1 - 1 = ((J - 1 : Nat) : Int) - 1 by omega]
  · rw [decide_eq_false h0]; simp only [Bool.not_false,Bool.true_or,Bool.false_and,c_f,k_t]
theorem part_ok (hn : 1000 < n) {a b p : Nat} (ha : a ≤ p) (hp : p < b) (hb : b ≤ N) {d : List PartCount} (hd : d.length = N) :
    ∃ (m : Nat) (d' : List PartCount) (f : Bool),q20k n d (a : Int) (b : Int) (p : Int) = some ((m : Int),d',f) ∧ a ≤ m ∧ m < b ∧ Rg a b d d' ∧ (∀ q,a ≤ q → q < m → pLt (ix d' q) (ix d' m) = true) ∧ (∀ q,m < q → q < b → pLt (ix d' q) (ix d' m) = false):=by
  have hs : (d.set a (ix d p)).set p (ix d a) = sw2 d a p:=rfl
  have hl : (sw2 d a p).length = N:=by rw [sw2_len]; exact hd
  have r1 : Rg a b d (sw2 d a p):=.step (.refl _) ⟨by omega,by omega⟩ ⟨by omega,by omega⟩ (by omega)
  obtain ⟨d1,hd1⟩ : ∃ d1,d1 = sw2 d a p:=⟨_,rfl⟩
  have P0 : Pt (fun x=>pLt x (ix d1 a)) a b N d1 (a + 1) b d1:=Pt.start (by rw [hd1]; exact hl) (by omega) hb
  obtain ⟨i',u⟩:=Up.ex (fun q=>pLt (ix d1 q) (ix d1 a)) (i:=a + 1) (J:=b) (by omega)
  obtain ⟨J',v⟩:=Dn.ex (fun q=>!pLt (ix d1 q) (ix d1 a)) (i:=i') (J:=b) u.a2
  obtain ⟨nx1,nx2⟩:=P0.next u.a1 u.a2 u.a3 u.a4 v.b1 v.b2 (fun q k1 k2=>nbP_f (v.b3 q k1 k2)) (fun h=>nb_t (v.b4 h))
  unfold q20k
  (repeat rw [chk_of (by first | exact inI_of (by omega) (by omega) | exact inB_of (by omega) (by omega) | exact inI_of (by simp only [List.length_set]; omega) (by simp only [List.length_set]; omega) | exact inB_of (by omega) (by simp only [List.length_set,sw2_len]; omega) | exact decide_eq_true (by first | omega | (simp only [List.length_set,sw2_len]; omega)))])
  simp only [withK_s]
  rw [show (a : Int) + 1 = ((a + 1 : Nat) : Int) by omega,Up.run (J:=b) (N:=N) (p:=fun q=>pLt (ix (sw2 d a p) q) (ix (sw2 d a p) a)) hb (fun back i hi=>part_L1 hN (a:=a) (p:=p) hd (by omega) (by omega) hb hi) (hd1 ▸ u) (by omega)]
  rw [Dn.run (N:=N) (p:=fun q=>!pLt (ix (sw2 d a p) q) (ix (sw2 d a p) a)) (fun back J hJ=>part_L2 hN (a:=a) (p:=p) hd (by omega) (by omega) hJ) (hd1 ▸ v) hb (by omega)]
  have u1:=u.a1; have u2:=u.a2; have v1:=v.b1; have v2:=v.b2
  simp only [dlt1,pt1,Int.toNat_natCast,hs,← hd1]
  have hl1 : d1.length = N:=by rw [hd1]; exact hl
  have r1' : Rg a b d d1:=by rw [hd1]; exact r1
  by_cases c : J' ≤ i'
  · have : J' = i':=by omega
    subst this
    rw [decide_eq_true c,c_t]
    (repeat rw [chk_of (by first | exact inI_of (by omega) (by omega) | exact inB_of (by omega) (by omega) | exact inI_of (by simp only [List.length_set]; omega) (by simp only [List.length_set]; omega) | exact inB_of (by omega) (by simp only [List.length_set,sw2_len]; omega) | exact decide_eq_true (by first | omega | (simp only [List.length_set,sw2_len]; omega)))])
    obtain ⟨f1,f2,f3,f4,f5,f6,f7,f8,f9⟩:=(nx1 c).fin r1'
    refine ⟨J' - 1,sw2 d1 (J' - 1) a,true,by rw [show ((J' : Nat) : Int) - 1 = ((J' - 1 : Nat) : Int) by omega]; rfl,f1,f4 (by omega),f6 (by omega),?_,?_⟩
    · rw [f7 (by omega)]; exact f8 (by omega)
    · rw [f7 (by omega)]; exact f9 (by omega)
  · rw [decide_eq_false c,c_f]
    (repeat rw [chk_of (by first | exact inI_of (by omega) (by omega) | exact inB_of (by omega) (by omega) | exact inI_of (by simp only [List.length_set]; omega) (by simp only [List.length_set]; omega) | exact inB_of (by omega) (by simp only [List.length_set,sw2_len]; omega) | exact decide_eq_true (by first | omega | (simp only [List.length_set,sw2_len]; omega)))])
    rw [show ((i' : Nat) : Int) + 1 = ((i' + 1 : Nat) : Int) by omega,show ((J' : Nat) : Int) - 1 - 1 = ((J' - 1 : Nat) : Int) - 1 by omega]
    obtain ⟨i2,d2,P2,e2⟩:=part_loop5 hN hn (by omega) (k5:=fun x=>match x with | (v28,v29)=>chk (inB (a : Int) v29.length) (chk (decide (a < v29.length)) (chk (inB v28 v29.length) (chk (decide (v28.toNat < v29.length)) (chk (decide (a < (List.set v29 v28.toNat (ix v29 a)).length)) (some (v28,(List.set (List.set v29 v28.toNat (ix v29 a)) a (ix v29 v28.toNat)),false))))))) _ _ _ (nx2 c)
    refine ⟨i2 - 1,sw2 d2 (i2 - 1) a,false,?_,?_⟩
    · refine Eq.trans e2 ?_
      have q1:=P2.len; have q2:=P2.lo; have q3:=P2.hi
      simp only [pt1]
      (repeat rw [chk_of (by first | exact inI_of (by omega) (by omega) | exact inB_of (by omega) (by omega) | exact inI_of (by simp only [List.length_set]; omega) (by simp only [List.length_set]; omega) | exact inB_of (by omega) (by simp only [List.length_set,sw2_len]; omega) | exact decide_eq_true (by first | omega | (simp only [List.length_set,sw2_len]; omega)))])
      rw [show ((i2 : Nat) : Int) - 1 = ((i2 - 1 : Nat) : Int) by omega]; rfl
    · obtain ⟨f1,f2,f3,f4,f5,f6,f7,f8,f9⟩:=P2.fin r1'
      refine ⟨f1,f4 (by omega),f6 (by omega),?_,?_⟩
      · rw [f7 (by omega)]; exact f8 (by omega)
      · rw [f7 (by omega)]; exact f9 (by omega)
end
end
section
set_option maxRecDepth 4000
open Go
variable {n : Nat}
section
variable {N : Nat} (hN : N ≤ 900) (hn : 1000 < n)
include hN hn
theorem pteq_loop {a b : Nat} (hab : a < b) {d0 : List PartCount} {k3 : Int × List PartCount → Option (Int × List PartCount)} : ∀ i J d,Pt (fun x=>!pLt (ix d0 a) x) a b N d0 i J d →
    ∃ i' d',Pt (fun x=>!pLt (ix d0 a) x) a b N d0 i' i' d' ∧ loopN (q28k n (a : Int) k3) n (((i : Nat) : Int),((J : Nat) : Int) - 1,d) = k3 (((i' : Nat) : Int),d'):=by
  intro i J d P
  refine part_loop (k:=fun i' d'=>k3 (((i' : Nat) : Int),d')) (fun back i J d P=>?_) n i J d (by have:=P.hi; have:=P.bn; omega) P
  have p1:=P.lo; have p2:=P.hi; have p3:=P.len; have p4:=P.bn
  have hp : ix d a = ix d0 a:=P.rg.out a (by omega)
  obtain ⟨i',u⟩:=Up.ex (fun q=>!pLt (ix d a) (ix d q)) P.mid
  obtain ⟨J',v⟩:=Dn.ex (fun q=>pLt (ix d a) (ix d q)) u.a2
  have u1:=u.a1; have u2:=u.a2; have v1:=v.b1; have v2:=v.b2
  refine ⟨i',u1,u2,fun q k1 k2=>?_,fun h=>?_,J',v1,v2,fun q k1 k2=>?_,fun h=>?_,?_⟩
  · rw [← hp]; exact u.a3 q k1 k2
  · rw [← hp]; exact u.a4 h
  · rw [← hp,show pLt (ix d a) (ix d q) = true from v.b3 q k1 k2]; rfl
  · rw [← hp,show pLt (ix d a) (ix d (J' - 1)) = false from v.b4 h]; rfl
  · rw [q28k]
    simp only [withK_s]
    rw [Up.run (J:=J) (N:=N) (p:=fun q=>!pLt (ix d a) (ix d q)) (by omega) (fun back i hi=>pteq_L1 hN p3 (by omega) (by omega) hi) u (by omega),
      Dn.run (N:=N) (p:=fun q=>pLt (ix d a) (ix d q)) (fun back J hJ=>pteq_L2 hN p3 (by omega) hJ) v (by omega) (by omega),dlt1]
    by_cases c : J' ≤ i'
    · rw [decide_eq_true c,c_t,c_t]
    · rw [decide_eq_false c,c_f,c_f]
      simp only [pt1,Int.toNat_natCast]
      (repeat rw [chk_of (by first | exact inI_of (by omega) (by omega) | exact inB_of (by omega) (by omega) | exact inI_of (by simp only [List.length_set]; omega) (by simp only [List.length_set]; omega) | exact inB_of (by omega) (by simp only [List.length_set,sw2_len]; omega) | exact decide_eq_true (by first | omega | (simp only [List.length_set,sw2_len]; omega)))])
      rw [show ((i' : Nat) : Int) + 1 = ((i' + 1 : Nat) : Int) by omega,show ((J' : Nat) : Int) - 1 - 1 = ((J' - 1 : Nat) : Int) - 1 by omega]; rfl
theorem pteq_ok {a b p : Nat} (ha : a ≤ p) (hp : p < b) (hb : b ≤ N) {d : List PartCount} (hd : d.length = N) :
    ∃ (m : Nat) (d' : List PartCount),q11k n d (a : Int) (b : Int) (p : Int) = some ((m : Int),d') ∧ a < m ∧ m ≤ b ∧ Rg a b d d' ∧ (∀ q,a ≤ q → q < m → pLt (ix d p) (ix d' q) = false) ∧ (∀ q,m ≤ q → q < b → pLt (ix d p) (ix d' q) = true):=by
  have hs : (d.set a (ix d p)).set p (ix d a) = sw2 d a p:=rfl
  have hl : (sw2 d a p).length = N:=by rw [sw2_len]; exact hd
  have r1 : Rg a b d (sw2 d a p):=.step (.refl _) ⟨by omega,by omega⟩ ⟨by omega,by omega⟩ (by omega)
  have hpv : ix (sw2 d a p) a = ix d p:=by
    rw [sw2_ix (by omega) (by omega)]
    by_cases c : a = p
    · rw [if_pos c,c]
    · rw [if_neg c,if_pos rfl]
  obtain ⟨d1,hd1⟩ : ∃ d1,d1 = sw2 d a p:=⟨_,rfl⟩
  have P0 : Pt (fun x=>!pLt (ix d1 a) x) a b N d1 (a + 1) b d1:=Pt.start (by rw [hd1]; exact hl) (by omega) hb
  unfold q11k
  (repeat rw [chk_of (by first | exact inI_of (by omega) (by omega) | exact inB_of (by omega) (by omega) | exact inI_of (by simp only [List.length_set]; omega) (by simp only [List.length_set]; omega) | exact inB_of (by omega) (by simp only [List.length_set,sw2_len]; omega) | exact decide_eq_true (by first | omega | (simp only [List.length_set,sw2_len]; omega)))])
  simp only [withK_s]
  obtain ⟨i2,d2,P2,e2⟩:=pteq_loop hN hn (by omega) (k3:=fun x=>match x with | (v20,v21)=>some (v20,v21)) _ _ _ P0
  have q1:=P2.len; have q2:=P2.lo; have q3:=P2.hi
  refine ⟨i2,d2,?_,by omega,q3,?_,fun q k1 k2=>?_,fun q k1 k2=>?_⟩
  · rw [show (a : Int) + 1 = ((a + 1 : Nat) : Int) by omega]
    simp only [Int.toNat_natCast,hs,← hd1]
    exact e2
  · exact (hd1 ▸ r1 : Rg a b d d1).trans (P2.rg.mono (by omega) (Nat.le_refl _) (by rw [hd1]; omega))
  · rw [← hpv,← hd1]
    by_cases c : q = a
    · rw [c,P2.rg.out a (by omega)]; exact ordStr.irr _
    · exact nbP_f (P2.left q (by omega) k2)
  · rw [← hpv,← hd1]
    exact nb_t (P2.right q k1 k2)
end
theorem wrap_u {x : Int} (h : 0 ≤ x) (h2 : x < 18446744073709551616) : IntKind.u64.wrap x = x:=by
  show (if (false && decide (x % 2 ^ 64 ≥ 2 ^ 63)) = true then x % 2 ^ 64 - 2 ^ 64 else x % 2 ^ 64) = x
  rw [if_neg (by simp)]
  exact Int.emod_eq_of_lt h h2
theorem and_le (x m : Int) (h : 0 ≤ m) (h2 : m < 18446744073709551616) : 0 ≤ iAnd .u64 x m ∧ iAnd .u64 x m ≤ m:=by
  have e : ((BitVec.ofInt 64 x &&& BitVec.ofInt 64 m).toNat : Int) ≤ m:=by
    rw [BitVec.toNat_and]
    have h1 : (BitVec.ofInt 64 x).toNat &&& (BitVec.ofInt 64 m).toNat ≤ (BitVec.ofInt 64 m).toNat:=Nat.and_le_right
    have h3 : (BitVec.ofInt 64 m).toNat = m.toNat:=by
      rw [BitVec.toNat_ofInt,Int.emod_eq_of_lt h (by omega)]
    omega
  show 0 ≤ IntKind.u64.wrap ((BitVec.ofInt 64 x &&& BitVec.ofInt 64 m).toNat : Int) ∧ IntKind.u64.wrap ((BitVec.ofInt 64 x &&& BitVec.ofInt 64 m).toNat : Int) ≤ m
  rw [wrap_u (by omega) (by omega)]
  exact ⟨by omega,e⟩
def npOK (l : Nat) : Bool:=match q40k 0 (l : Int) with
  | some y=>decide (1 ≤ y) && decide (y ≤ 2 * (l : Int))
  | none=>false
def npAll : Nat → Bool
  | 0=>true
  | l + 1=>npOK (l + 1) && npAll l
theorem npAll_ok : npAll 900 = true:=by kernel_rfl
theorem npAll_at : ∀ m l,npAll m = true → 1 ≤ l → l ≤ m → npOK l = true:=by
  intro m
  induction m with
  | zero=>intro l h h1 h2; omega
  | succ m ih =>
    intro l h h1 h2
    obtain ⟨g1,g2⟩ : npOK (m + 1) = true ∧ npAll m = true:=by simpa [npAll] using h
    by_cases c : l = m + 1
    · rw [c]; exact g1
    · exact ih l g2 h1 (by omega)
theorem np_ok {l : Nat} (h1 : 1 ≤ l) (h2 : l ≤ 900) : ∃ y : Int,q40k n (l : Int) = some y ∧ 1 ≤ y ∧ y ≤ 2 * (l : Int):=by
  have h:=npAll_at 900 l npAll_ok h1 h2
  unfold npOK at h
  have e : q40k n (l : Int) = q40k 0 (l : Int):=rfl
  rw [e]
  cases g : q40k 0 (l : Int) with
  | none=>rw [g] at h; cases h
  | some y =>
    rw [g] at h
    have:=Bool.and_eq_true_iff.1 h
    exact ⟨y,rfl,of_decide_eq_true this.1,of_decide_eq_true this.2⟩
theorem brk_round {back : Int × Int × List PartCount → Option (List PartCount)} {N a L i : Nat} (hN : N ≤ 900) (hL : 8 ≤ L) (hb : a + L ≤ N) {y v5 : Int} (hy1 : 1 ≤ y) (hy2 : y ≤ 2 * (L : Int)) {d : List PartCount} (hd : d.length = N) (hi : i ≤ a + L / 4 * 2 + 1) :
    ∃ v5' j,q3k n (a : Int) ((a + L : Nat) : Int) y back (((i : Nat) : Int),v5,d) = back (((i + 1 : Nat) : Int),v5',sw2 d i j) ∧ a ≤ j ∧ j < a + L:=by
  have e0 : (((a + L : Nat) : Int) - ((a : Nat) : Int)) = ((L : Nat) : Int):=by omega
  have e1 : Int.tdiv ((L : Nat) : Int) 4 = ((L / 4 : Nat) : Int):=by
    rw [Int.tdiv_eq_ediv_of_nonneg (by omega)]; omega
  have e2 : IntKind.u64.wrap (y - 1) = y - 1:=wrap_u (by omega) (by omega)
  rw [q3k]
  simp only [e0,e1,e2,withK_s,slices_xorshift_Next,Option.bind_some]
  rw [chk_of (by first | exact inI_of (by omega) (by omega) | exact inB_of (by omega) (by omega) | exact inI_of (by simp only [List.length_set]; omega) (by simp only [List.length_set]; omega) | exact inB_of (by omega) (by simp only [List.length_set,sw2_len]; omega) | exact decide_eq_true (by first | omega | (simp only [List.length_set,sw2_len]; omega))),decide_eq_true (show ((i : Nat) : Int) ≤ (a : Int) + ((L / 4 : Nat) : Int) * 2 + 1 by omega),c_t]
  generalize iXor .u64 (iXor .u64 (iXor .u64 v5 (IntKind.u64.wrap (v5 * 2 ^ (min 13 64)))) (Int.fdiv (iXor .u64 v5 (IntKind.u64.wrap (v5 * 2 ^ (min 13 64)))) (2 ^ (min 7 64)))) (IntKind.u64.wrap ((iXor .u64 (iXor .u64 v5 (IntKind.u64.wrap (v5 * 2 ^ (min 13 64)))) (Int.fdiv (iXor .u64 v5 (IntKind.u64.wrap (v5 * 2 ^ (min 13 64)))) (2 ^ (min 7 64)))) * 2 ^ (min 17 64))) = x
  obtain ⟨g1,g2⟩:=and_le x (y - 1) (by omega) (by omega)
  generalize iAnd .u64 x (y - 1) = r at g1 g2
  rw [chk_of (by first | exact inI_of (by omega) (by omega) | exact inB_of (by omega) (by omega) | exact inI_of (by simp only [List.length_set]; omega) (by simp only [List.length_set]; omega) | exact inB_of (by omega) (by simp only [List.length_set,sw2_len]; omega) | exact decide_eq_true (by first | omega | (simp only [List.length_set,sw2_len]; omega)))]
  have K : ∀ v8 : Int, 0 ≤ v8 → v8 < (L : Int) → ∃ v5' j, (chk (inI ((a : Int) + v8)) <|
        chk (inB ((a : Int) + v8) d.length) <|
        chk (decide (((a : Int) + v8).toNat < d.length)) <|
        chk (inB ((i : Nat) : Int) d.length) <|
        chk (decide (((i : Nat) : Int).toNat < d.length)) <|
        chk (decide (((a : Int) + v8).toNat < (List.set d ((i : Nat) : Int).toNat (ix d (((a : Int) + v8).toNat))).length)) <|
        chk (inI (((i : Nat) : Int) + 1)) <|
        back (((i : Nat) : Int) + 1,x,(List.set (List.set d ((i : Nat) : Int).toNat (ix d (((a : Int) + v8).toNat))) (((a : Int) + v8).toNat) (ix d ((i : Nat) : Int).toNat)))) = back (((i + 1 : Nat) : Int),v5',sw2 d i j) ∧ a ≤ j ∧ j < a + L:=by
    intro v8 h1 h2
    obtain ⟨j,hj⟩ : ∃ j : Nat,(a : Int) + v8 = (j : Int):=⟨((a : Int) + v8).toNat,by omega⟩
    refine ⟨x,j,?_,by omega,by omega⟩
    simp only [hj,Int.toNat_natCast]
    (repeat rw [chk_of (by first | exact inI_of (by omega) (by omega) | exact inB_of (by omega) (by omega) | exact inI_of (by simp only [List.length_set]; omega) (by simp only [List.length_set]; omega) | exact inB_of (by omega) (by simp only [List.length_set,sw2_len]; omega) | exact decide_eq_true (by first | omega | (simp only [List.length_set,sw2_len]; omega)))])
    rfl
  by_cases c : (L : Int) ≤ r
  · rw [decide_eq_true c,c_t,chk_of (by first | exact inI_of (by omega) (by omega) | exact inB_of (by omega) (by omega) | exact inI_of (by simp only [List.length_set]; omega) (by simp only [List.length_set]; omega) | exact inB_of (by omega) (by simp only [List.length_set,sw2_len]; omega) | exact decide_eq_true (by first | omega | (simp only [List.length_set,sw2_len]; omega)))]
    exact K (r - (L : Int)) (by omega) (by omega)
  · rw [decide_eq_false c,c_f]
    exact K r g1 (by omega)
theorem brk_ok {N a b : Nat} (hN : N ≤ 900) (hn : 1000 < n) (h13 : a + 13 ≤ b) (hb : b ≤ N) {d : List PartCount} (hd : d.length = N) :
    ∃ d',q22k n d (a : Int) (b : Int) = some d' ∧ Rg a b d d':=by
  obtain ⟨L,rfl⟩ : ∃ L,b = a + L:=⟨b - a,by omega⟩
  have e0 : (((a + L : Nat) : Int) - ((a : Nat) : Int)) = ((L : Nat) : Int):=by omega
  have e1 : Int.tdiv ((L : Nat) : Int) 4 = ((L / 4 : Nat) : Int):=by
    rw [Int.tdiv_eq_ediv_of_nonneg (by omega)]; omega
  obtain ⟨y,hy,hy1,hy2⟩:=np_ok (n:=n) (l:=L) (by omega) (by omega)
  unfold q22k
  simp only [e0,e1]
  rw [chk_of (by first | exact inI_of (by omega) (by omega) | exact inB_of (by omega) (by omega) | exact inI_of (by simp only [List.length_set]; omega) (by simp only [List.length_set]; omega) | exact inB_of (by omega) (by simp only [List.length_set,sw2_len]; omega) | exact decide_eq_true (by first | omega | (simp only [List.length_set,sw2_len]; omega))),decide_eq_true (show (8 : Int) ≤ ((L : Nat) : Int) by omega),c_t,hy,Option.bind_some,chk_of (by rw [inI_of (by omega) (by omega)]; rfl)]
  (repeat rw [chk_of (by first | exact inI_of (by omega) (by omega) | exact inB_of (by omega) (by omega) | exact inI_of (by simp only [List.length_set]; omega) (by simp only [List.length_set]; omega) | exact inB_of (by omega) (by simp only [List.length_set,sw2_len]; omega) | exact decide_eq_true (by first | omega | (simp only [List.length_set,sw2_len]; omega)))])
  have R : ∀ m i v5 (e : List PartCount),a + L / 4 * 2 + 2 - i < m → a ≤ i → i ≤ a + L / 4 * 2 + 2 → e.length = N → ∃ d',loopN (q3k n (a : Int) ((a + L : Nat) : Int) y) m (((i : Nat) : Int),v5,e) = some d' ∧ Rg a (a + L) e d':=by
    intro m
    induction m with
    | zero=>intro i v5 e h; omega
    | succ m ih =>
      intro i v5 e h1 h2 h3 he
      rw [loopN_s]
      by_cases c : i ≤ a + L / 4 * 2 + 1
      · obtain ⟨v5',j,g1,g2,g3⟩:=brk_round (n:=n) (back:=loopN (q3k n (a : Int) ((a + L : Nat) : Int) y) m) hN (by omega) hb hy1 hy2 (v5:=v5) he c
        rw [g1]
        obtain ⟨d',k1,k2⟩:=ih (i + 1) v5' (sw2 e i j) (by omega) (by omega) (by omega) (by rw [sw2_len]; exact he)
        exact ⟨d',k1,(Rg.step (.refl _) ⟨by omega,by omega⟩ ⟨by omega,by omega⟩ (by omega)).trans k2⟩
      · refine ⟨e,?_,.refl _⟩
        rw [q3k]
        simp only [e0,e1]
        rw [chk_of (by first | exact inI_of (by omega) (by omega) | exact inB_of (by omega) (by omega) | exact inI_of (by simp only [List.length_set]; omega) (by simp only [List.length_set]; omega) | exact inB_of (by omega) (by simp only [List.length_set,sw2_len]; omega) | exact decide_eq_true (by first | omega | (simp only [List.length_set,sw2_len]; omega))),decide_eq_false (show ¬ ((i : Nat) : Int) ≤ (a : Int) + ((L / 4 : Nat) : Int) * 2 + 1 by omega),c_f]
  rw [show (a : Int) + ((L / 4 : Nat) : Int) * 2 - 1 = ((a + L / 4 * 2 - 1 : Nat) : Int) by omega]
  exact R n (a + L / 4 * 2 - 1) _ d (by omega) (by omega) (by omega) hd
end
end Go.Proofs.YtifabpmjiphhdaaGreat.As
