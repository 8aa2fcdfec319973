/- What the functions compute, on plain data, and what follows from it, part 1: no condition. -/
import Derived.Test.YtcdcpambkdlhjaaGreatGround2
namespace Go.Proofs.YtcdcpambkdlhjaaGreat.As
open Go
section
set_option maxRecDepth 4000
open Go
structure Stocked where
  Part : Str
  Cents : Int
  Count : Int
  deriving Inhabited, DecidableEq
def eStocked (x : Stocked) : V := .agg [vt x.Part, vi x.Cents, vi x.Count]
theorem eStocked_frz (x : Stocked) : (eStocked x).frz = true := rfl
theorem eStocked_frzE (x : Stocked) : frzE (eStocked x) = true := rfl
structure PartPromise where
  Instrument : Str
  Part : Str
  Count : Int
  deriving Inhabited, DecidableEq
def ePartPromise (x : PartPromise) : V := .agg [vt x.Instrument, vt x.Part, vi x.Count]
theorem ePartPromise_frz (x : PartPromise) : (ePartPromise x).frz = true := rfl
theorem ePartPromise_frzE (x : PartPromise) : frzE (ePartPromise x) = true := rfl
structure PartCount where
  Part : Str
  Count : Int
  deriving Inhabited, DecidableEq
def ePartCount (x : PartCount) : V := .agg [vt x.Part, vi x.Count]
theorem ePartCount_frz (x : PartCount) : (ePartCount x).frz = true := rfl
theorem ePartCount_frzE (x : PartCount) : frzE (ePartCount x) = true := rfl
def agraffelaw08_awake (n : Nat) : Option Bool := some true
def agraffelaw08_stocked_L1 (a0 : List Stocked) (k1 : (Unit → Option Bool)) (back : Nat → Option Bool) : Nat → Option Bool
  | v1 =>
  bif decide (v1 < a0.length) then
    bif decide (20 < (((ix a0 v1).Part).length)) then
      some false
    else
      chk (nI (v1 + 1)) <|
      back (v1 + 1)
  else
    k1 ()
def agraffelaw08_stocked (n : Nat) (a0 : List Stocked) : Option Bool :=
  bif ((decide (8 < a0.length)) && (decide (a0.length ≤ 60))) || (decide (63 < a0.length)) then
    some false
  else
    withK (fun (_ : Unit) =>
        some true) fun k1 =>
    loopN (agraffelaw08_stocked_L1 a0 k1) n 0
def agraffelaw08_promised_L1 (a0 : List PartPromise) (k1 : (Unit → Option Bool)) (back : Nat → Option Bool) : Nat → Option Bool
  | v1 =>
  bif decide (v1 < a0.length) then
    bif (decide (20 < (((ix a0 v1).Instrument).length))) || (decide (20 < (((ix a0 v1).Part).length))) then
      some false
    else
      chk (nI (v1 + 1)) <|
      back (v1 + 1)
  else
    k1 ()
def agraffelaw08_promised (n : Nat) (a0 : List PartPromise) : Option Bool :=
  bif ((decide (12 < a0.length)) && (decide (a0.length ≤ 200))) || (decide (203 < a0.length)) then
    some false
  else
    withK (fun (_ : Unit) =>
        some true) fun k1 =>
    loopN (agraffelaw08_promised_L1 a0 k1) n 0
def agraffelaw08_stock (n : Nat) (a0 : List Stocked) : Option Unit :=
  chk (room 32 a0.length) <|
  some ()
def agraffelaw08_promises (n : Nat) (a0 : List PartPromise) : Option Unit :=
  chk (room 40 a0.length) <|
  some ()
def restore_isName_L1 (a0 : Str) (k1 : (Unit → Option Bool)) (back : Nat → Option Bool) : Nat → Option Bool
  | v1 =>
  bif decide (v1 < a0.length) then
    bif (!(((decide ((97 : Int) ≤ (((ix a0 v1).toNat : Nat) : Int))) && (decide ((((ix a0 v1).toNat : Nat) : Int) ≤ (122 : Int)))) || ((decide ((65 : Int) ≤ (((ix a0 v1).toNat : Nat) : Int))) && (decide ((((ix a0 v1).toNat : Nat) : Int) ≤ (90 : Int)))))) && ((decide (v1 = 0)) || (((((ix a0 v1).toNat : Nat) : Int) != (45 : Int)) && ((decide ((((ix a0 v1).toNat : Nat) : Int) < (48 : Int))) || (decide ((57 : Int) < (((ix a0 v1).toNat : Nat) : Int)))))) then
      some false
    else
      chk (nI (v1 + 1)) <|
      back (v1 + 1)
  else
    k1 ()
def restore_isName (n : Nat) (a0 : Str) : Option Bool :=
  withK (fun (_ : Unit) =>
      some ((!(a0 == ([] : Str))) && (decide (a0.length ≤ 12)))) fun k1 =>
  loopN (restore_isName_L1 a0 k1) n 0
def restore_stocked_f1 (n : Nat) (a0 : Stocked) (a1 : Str) : Option Unit :=
  some ()
def slices_IndexFunc_Stocked_L1 (n : Nat) (a0 : List Stocked) (a1 : Str) (k1 : (Unit → Option Int)) (back : Nat → Option Int) : Nat → Option Int
  | v2 =>
  bif decide (v2 < a0.length) then
    (restore_stocked_f1 n (ix a0 v2) a1).bind fun y3 =>
    bif ((ix a0 v2).Part == a1) then
      some ((v2 : Nat) : Int)
    else
      chk (nI (v2 + 1)) <|
      back (v2 + 1)
  else
    k1 ()
def slices_IndexFunc_Stocked (n : Nat) (a0 : List Stocked) (a1 : Str) : Option Int :=
  withK (fun (_ : Unit) =>
      some (-1)) fun k1 =>
  loopN (slices_IndexFunc_Stocked_L1 n a0 a1 k1) n 0
def restore_stocked (n : Nat) (a0 : List Stocked) (a1 : Str) : Option Int :=
  (slices_IndexFunc_Stocked n a0 a1).bind fun y1 =>
  some y1
def restore_within (n : Nat) (a0 : Int) (a1 : Int) (a2 : Int) : Option Unit :=
  some ()
def restore_CheckStock_L1 (n : Nat) (a0 : List Stocked) (k1 : (Unit → Option Int)) (back : Nat → Option Int) : Nat → Option Int
  | v5 =>
  bif decide (v5 < a0.length) then
    (restore_isName n ((ix a0 v5).Part)).bind fun y6 =>
    bif !y6 then
      some 4
    else
      chk (decide (v5 ≤ a0.length)) <|
      (restore_stocked n (List.take v5 a0) ((ix a0 v5).Part)).bind fun y7 =>
      bif decide ((0 : Int) ≤ y7) then
        some 5
      else
        (restore_within n ((ix a0 v5).Cents) 0 1000000000).bind fun y8 =>
        (gcall (!(!((decide (0 ≤ ((ix a0 v5).Cents))) && (decide (((ix a0 v5).Cents) ≤ 1000000000))))) (restore_within n ((ix a0 v5).Count) 0 10000)).bind fun y9 =>
        bif (!((decide (0 ≤ ((ix a0 v5).Cents))) && (decide (((ix a0 v5).Cents) ≤ 1000000000)))) || (!((decide (0 ≤ ((ix a0 v5).Count))) && (decide (((ix a0 v5).Count) ≤ 10000)))) then
          some 2
        else
          chk (nI (v5 + 1)) <|
          back (v5 + 1)
  else
    k1 ()
def restore_CheckStock (n : Nat) (a0 : List Stocked) : Option Int :=
  bif decide (60 < a0.length) then
    some 8
  else
    withK (fun (_ : Unit) =>
        some 0) fun k1 =>
    loopN (restore_CheckStock_L1 n a0 k1) n 0
def restore_shelf_take (n : Nat) (a0 : List Stocked) (a1 : List Int) (a2 : PartPromise) : Option (Int × (List Int)) :=
  (restore_stocked n a0 a2.Part).bind fun y1 =>
  (restore_isName n a2.Instrument).bind fun y2 =>
  bif !y2 then
    some (4, a1)
  else
    bif decide (y1 < (0 : Int)) then
      some (6, a1)
    else
      (restore_within n a2.Count 1 10000).bind fun y3 =>
      bif !((decide (1 ≤ a2.Count)) && (decide (a2.Count ≤ 10000))) then
        some (2, a1)
      else
        chk (inB y1 a1.length) <|
        chk (decide (y1.toNat < a1.length)) <|
        bif decide ((ix a1 y1.toNat) < a2.Count) then
          some (20, a1)
        else
          chk (inI ((ix a1 y1.toNat) - a2.Count)) <|
          some (0, (List.set a1 y1.toNat ((ix a1 y1.toNat) - a2.Count)))
def restore_shelfOf_L2 (n : Nat) (a0 : List Stocked) (a1 : List PartPromise) (k2 : ((List Int) → Option (Int ⊕ (List Int)))) (back : Nat × (List Int) → Option (Int ⊕ (List Int))) : Nat × (List Int) → Option (Int ⊕ (List Int))
  | (v6, v7) =>
  bif decide (v6 < a1.length) then
    (restore_shelf_take n a0 v7 (ix a1 v6)).bind fun y8 =>
    chk (decide (v7.length = y8.2.length)) <|
    bif (y8.1 != (0 : Int)) then
      some (.inl y8.1)
    else
      chk (nI (v6 + 1)) <|
      back (v6 + 1, y8.2)
  else
    k2 v7
def restore_shelfOf_L1 (a0 : List Stocked) (k1 : ((List Int) → Option (Int ⊕ (List Int)))) (back : Nat × (List Int) → Option (Int ⊕ (List Int))) : Nat × (List Int) → Option (Int ⊕ (List Int))
  | (v2, v3) =>
  bif decide (v2 < a0.length) then
    chk (room 8 (v3 ++ ([(ix a0 v2).Count] : List Int)).length) <|
    chk (nI (v2 + 1)) <|
    back (v2 + 1, (v3 ++ ([(ix a0 v2).Count] : List Int)))
  else
    k1 v3
def restore_shelfOf (n : Nat) (a0 : List Stocked) (a1 : List PartPromise) : Option (Int ⊕ (List Int)) :=
  (restore_CheckStock n a0).bind fun y1 =>
  bif (y1 != (0 : Int)) then
    some (.inl y1)
  else
    bif decide (200 < a1.length) then
      some (.inl 8)
    else
      withK (fun (v4 : (List Int)) =>
          withK (fun (v9 : (List Int)) =>
              some (.inr v9)) fun k2 =>
          loopN (restore_shelfOf_L2 n a0 a1 k2) n (0, v4)) fun k1 =>
      loopN (restore_shelfOf_L1 a0 k1) n (0, ([] : List Int))
def restore_shelf_take_2 (n : Nat) (a0 : PartPromise) : Option Unit :=
  none
def slices_Clone_PartPromise (n : Nat) (a0 : List PartPromise) : Option (List PartPromise) :=
  nilK (a0.isEmpty) fun b1 =>
  bif b1 then
    some ([] : List PartPromise)
  else
    chk (room 40 a0.length) <|
    some a0
def restore_AddPromise (n : Nat) (a0 : List Stocked) (a1 : List PartPromise) (a2 : PartPromise) : Option (Int × (List PartPromise)) :=
  withK (fun (v4 : Int) =>
      bif (v4 != (0 : Int)) then
        some (v4, ([] : List PartPromise))
      else
        bif decide (a1.length = 200) then
          some (8, ([] : List PartPromise))
        else
          none) fun k1 =>
  withK (fun (v5 : (List Int)) =>
      bif decide (a1.length = 200) then
        some (8, ([] : List PartPromise))
      else
        (restore_shelf_take n a0 v5 a2).bind fun y6 =>
        chk (decide (v5.length = y6.2.length)) <|
        bif (y6.1 != (0 : Int)) then
          some (y6.1, ([] : List PartPromise))
        else
          (slices_Clone_PartPromise n a1).bind fun y7 =>
          chk (room 40 (y7 ++ ([a2] : List PartPromise)).length) <|
          some (0, (y7 ++ ([a2] : List PartPromise)))) fun k2 =>
  (restore_shelfOf n a0 a1).bind fun y1 =>
  match y1 with
  | .inl y1 =>
    k1 y1
  | .inr y1 =>
    k2 y1
def restore_LeftOf_L1 (a0 : List Stocked) (v5 : List Int) (k3 : ((List PartCount) → Option (Int × (List PartCount)))) (back : (List PartCount) × Nat → Option (Int × (List PartCount))) : (List PartCount) × Nat → Option (Int × (List PartCount))
  | (v6, v7) =>
  bif decide (v7 < v5.length) then
    chk (decide (v7 < a0.length)) <|
    chk (room 24 (v6 ++ ([(PartCount.mk ((ix a0 v7).Part) (ix v5 v7))] : List PartCount)).length) <|
    chk (nI (v7 + 1)) <|
    back ((v6 ++ ([(PartCount.mk ((ix a0 v7).Part) (ix v5 v7))] : List PartCount)), v7 + 1)
  else
    k3 v6
def restore_LeftOf (n : Nat) (a0 : List Stocked) (a1 : List PartPromise) : Option (Int × (List PartCount)) :=
  withK (fun (v4 : Int) =>
      bif (v4 != (0 : Int)) then
        some (v4, ([] : List PartCount))
      else
        none) fun k1 =>
  withK (fun (v5 : (List Int)) =>
      withK (fun (v8 : (List PartCount)) =>
          some (0, v8)) fun k3 =>
      loopN (restore_LeftOf_L1 a0 v5 k3) n (([] : List PartCount), 0)) fun k2 =>
  (restore_shelfOf n a0 a1).bind fun y1 =>
  match y1 with
  | .inl y1 =>
    k1 y1
  | .inr y1 =>
    k2 y1
def agraffebase_isLetter (n : Nat) (a0 : Int) : Option Unit :=
  some ()
def agraffebase_isDigit (n : Nat) (a0 : Int) : Option Unit :=
  some ()
def agraffebase_IsName_L1 (n : Nat) (a0 : Str) (k1 : (Unit → Option Bool)) (back : Nat → Option Bool) : Nat → Option Bool
  | v4 =>
  bif decide (v4 < a0.length) then
    (agraffebase_isLetter n (((List.getD a0 v4 0).toNat : Nat) : Int)).bind fun y5 =>
    (gcall (!(((decide ((97 : Int) ≤ (((List.getD a0 v4 0).toNat : Nat) : Int))) && (decide ((((List.getD a0 v4 0).toNat : Nat) : Int) ≤ (122 : Int)))) || ((decide ((65 : Int) ≤ (((List.getD a0 v4 0).toNat : Nat) : Int))) && (decide ((((List.getD a0 v4 0).toNat : Nat) : Int) ≤ (90 : Int)))))) (agraffebase_isDigit n (((List.getD a0 v4 0).toNat : Nat) : Int))).bind fun y6 =>
    bif ((!(((decide ((97 : Int) ≤ (((List.getD a0 v4 0).toNat : Nat) : Int))) && (decide ((((List.getD a0 v4 0).toNat : Nat) : Int) ≤ (122 : Int)))) || ((decide ((65 : Int) ≤ (((List.getD a0 v4 0).toNat : Nat) : Int))) && (decide ((((List.getD a0 v4 0).toNat : Nat) : Int) ≤ (90 : Int)))))) && (!((decide ((48 : Int) ≤ (((List.getD a0 v4 0).toNat : Nat) : Int))) && (decide ((((List.getD a0 v4 0).toNat : Nat) : Int) ≤ (57 : Int)))))) && ((((List.getD a0 v4 0).toNat : Nat) : Int) != (45 : Int)) then
      some false
    else
      chk (nI (v4 + 1)) <|
      back (v4 + 1)
  else
    k1 ()
def agraffebase_IsName (n : Nat) (a0 : Str) : Option Bool :=
  chk (!(!((decide (a0.length = 0)) || (decide (12 < a0.length)))) || decide (0 < a0.length)) <|
  (gcall (!((decide (a0.length = 0)) || (decide (12 < a0.length)))) (agraffebase_isLetter n (((List.getD a0 0 0).toNat : Nat) : Int))).bind fun y1 =>
  bif ((decide (a0.length = 0)) || (decide (12 < a0.length))) || (!(((decide ((97 : Int) ≤ (((List.getD a0 0 0).toNat : Nat) : Int))) && (decide ((((List.getD a0 0 0).toNat : Nat) : Int) ≤ (122 : Int)))) || ((decide ((65 : Int) ≤ (((List.getD a0 0 0).toNat : Nat) : Int))) && (decide ((((List.getD a0 0 0).toNat : Nat) : Int) ≤ (90 : Int)))))) then
    some false
  else
    withK (fun (_ : Unit) =>
        some true) fun k1 =>
    loopN (agraffebase_IsName_L1 n a0 k1) n 0
def agrafferef08_FindStock_L1 (a0 : List Stocked) (a1 : Str) (k1 : (Unit → Option Int)) (back : Nat → Option Int) : Nat → Option Int
  | v1 =>
  bif decide (v1 < a0.length) then
    bif (((ix a0 v1).Part) == a1) then
      some ((v1 : Nat) : Int)
    else
      chk (nI (v1 + 1)) <|
      back (v1 + 1)
  else
    k1 ()
def agrafferef08_FindStock (n : Nat) (a0 : List Stocked) (a1 : Str) : Option Int :=
  withK (fun (_ : Unit) =>
      some (-1)) fun k1 =>
  loopN (agrafferef08_FindStock_L1 a0 a1 k1) n 0
def agraffebase_Within (n : Nat) (a0 : Int) (a1 : Int) (a2 : Int) : Option Unit :=
  some ()
def agrafferef08_CheckStock_L1 (n : Nat) (a0 : List Stocked) (k1 : (Unit → Option Int)) (back : Nat → Option Int) : Nat → Option Int
  | v5 =>
  bif decide (v5 < a0.length) then
    (agraffebase_IsName n ((ix a0 v5).Part)).bind fun y6 =>
    bif !y6 then
      some 4
    else
      chk (decide (v5 ≤ a0.length)) <|
      (agrafferef08_FindStock n (List.take v5 a0) ((ix a0 v5).Part)).bind fun y7 =>
      bif decide ((0 : Int) ≤ y7) then
        some 5
      else
        (agraffebase_Within n ((ix a0 v5).Cents) 0 1000000000).bind fun y8 =>
        (gcall (!(!((decide (0 ≤ ((ix a0 v5).Cents))) && (decide (((ix a0 v5).Cents) ≤ 1000000000))))) (agraffebase_Within n ((ix a0 v5).Count) 0 10000)).bind fun y9 =>
        bif (!((decide (0 ≤ ((ix a0 v5).Cents))) && (decide (((ix a0 v5).Cents) ≤ 1000000000)))) || (!((decide (0 ≤ ((ix a0 v5).Count))) && (decide (((ix a0 v5).Count) ≤ 10000)))) then
          some 2
        else
          chk (nI (v5 + 1)) <|
          back (v5 + 1)
  else
    k1 ()
def agrafferef08_CheckStock (n : Nat) (a0 : List Stocked) : Option Int :=
  bif decide (60 < a0.length) then
    some 8
  else
    withK (fun (_ : Unit) =>
        some 0) fun k1 =>
    loopN (agrafferef08_CheckStock_L1 n a0 k1) n 0
def agrafferef08_promised_L1 (a0 : List PartPromise) (a1 : Str) (k2 : (Int → Option Int)) (back : Int × Nat → Option Int) : Int × Nat → Option Int
  | (v2, v3) =>
  bif decide (v3 < a0.length) then
    withK (fun (v4 : Int) =>
        chk (nI (v3 + 1)) <|
        back (v4, v3 + 1)) fun k1 =>
    bif (((ix a0 v3).Part) == a1) then
      chk (inI (v2 + ((ix a0 v3).Count))) <|
      k1 (v2 + ((ix a0 v3).Count))
    else
      k1 v2
  else
    k2 v2
def agrafferef08_promised (n : Nat) (a0 : List PartPromise) (a1 : Str) : Option Int :=
  withK (fun (v5 : Int) =>
      some v5) fun k2 =>
  loopN (agrafferef08_promised_L1 a0 a1 k2) n (0, 0)
def agrafferef08_CheckPromises_L1 (n : Nat) (a0 : List Stocked) (a1 : List PartPromise) (k1 : (Unit → Option Int)) (back : Nat → Option Int) : Nat → Option Int
  | v6 =>
  bif decide (v6 < a1.length) then
    (agraffebase_IsName n ((ix a1 v6).Instrument)).bind fun y7 =>
    bif !y7 then
      some 4
    else
      (agrafferef08_FindStock n a0 ((ix a1 v6).Part)).bind fun y8 =>
      bif decide (y8 < (0 : Int)) then
        some 6
      else
        (agraffebase_Within n ((ix a1 v6).Count) 1 10000).bind fun y9 =>
        bif !((decide (1 ≤ ((ix a1 v6).Count))) && (decide (((ix a1 v6).Count) ≤ 10000))) then
          some 2
        else
          chk (nI (v6 + 1)) <|
          chk (decide (v6 + 1 ≤ a1.length)) <|
          (agrafferef08_promised n (List.take (v6 + 1) a1) ((ix a1 v6).Part)).bind fun y10 =>
          chk (inB y8 a0.length) <|
          chk (decide (y8.toNat < a0.length)) <|
          bif decide (((ix a0 y8.toNat).Count) < y10) then
            some 20
          else
            back (v6 + 1)
  else
    k1 ()
def agrafferef08_CheckPromises (n : Nat) (a0 : List Stocked) (a1 : List PartPromise) : Option Int :=
  (agrafferef08_CheckStock n a0).bind fun y1 =>
  bif (y1 != (0 : Int)) then
    some y1
  else
    bif decide (200 < a1.length) then
      some 8
    else
      withK (fun (_ : Unit) =>
          some 0) fun k1 =>
      loopN (agrafferef08_CheckPromises_L1 n a0 a1 k1) n 0
def agrafferef08_promised_2_L1 (a0 : List PartPromise) (a1 : Nat) (a2 : Nat) (a3 : Str) (k2 : (Int → Option Int)) (back : Int × Nat → Option Int) : Int × Nat → Option Int
  | (v2, v3) =>
  bif decide (v3 < a2) then
    withK (fun (v4 : Int) =>
        chk (nI (v3 + 1)) <|
        back (v4, v3 + 1)) fun k1 =>
    chk (decide (a1 + v3 < a0.length)) <|
    bif (((ix a0 (a1 + v3)).Part) == a3) then
      chk (inI (v2 + ((ix a0 (a1 + v3)).Count))) <|
      k1 (v2 + ((ix a0 (a1 + v3)).Count))
    else
      k1 v2
  else
    k2 v2
def agrafferef08_promised_2 (n : Nat) (a0 : List PartPromise) (a1 : Nat) (a2 : Nat) (a3 : Str) : Option Int :=
  withK (fun (v5 : Int) =>
      some v5) fun k2 =>
  loopN (agrafferef08_promised_2_L1 a0 a1 a2 a3 k2) n (0, 0)
def agrafferef08_CheckPromises_2_L1 (n : Nat) (a0 : List Stocked) (a1 : List PartPromise) (k1 : (Unit → Option Int)) (back : Nat → Option Int) : Nat → Option Int
  | v6 =>
  bif decide (v6 < a1.length) then
    (agraffebase_IsName n ((ix a1 v6).Instrument)).bind fun y7 =>
    bif !y7 then
      some 4
    else
      (agrafferef08_FindStock n a0 ((ix a1 v6).Part)).bind fun y8 =>
      bif decide (y8 < (0 : Int)) then
        some 6
      else
        (agraffebase_Within n ((ix a1 v6).Count) 1 10000).bind fun y9 =>
        bif !((decide (1 ≤ ((ix a1 v6).Count))) && (decide (((ix a1 v6).Count) ≤ 10000))) then
          some 2
        else
          chk (nI (v6 + 1)) <|
          chk (decide (v6 + 1 ≤ a1.length)) <|
          (agrafferef08_promised_2 n a1 0 (v6 + 1) ((ix a1 v6).Part)).bind fun y10 =>
          chk (inB y8 a0.length) <|
          chk (decide (y8.toNat < a0.length)) <|
          bif decide (((ix a0 y8.toNat).Count) < y10) then
            some 20
          else
            back (v6 + 1)
  else
    k1 ()
def agrafferef08_CheckPromises_2 (n : Nat) (a0 : List Stocked) (a1 : List PartPromise) : Option Int :=
  (agrafferef08_CheckStock n a0).bind fun y1 =>
  bif (y1 != (0 : Int)) then
    some y1
  else
    bif decide (200 < a1.length) then
      some 8
    else
      withK (fun (_ : Unit) =>
          some 0) fun k1 =>
      loopN (agrafferef08_CheckPromises_2_L1 n a0 a1 k1) n 0
def agrafferef08_AddPromise (n : Nat) (a0 : List Stocked) (a1 : List PartPromise) (a2 : PartPromise) : Option (Int × (List PartPromise)) :=
  (agrafferef08_CheckPromises n a0 a1).bind fun y1 =>
  bif (y1 != (0 : Int)) then
    some (y1, ([] : List PartPromise))
  else
    chk (room 40 a1.length) <|
    chk (room 40 (a1 ++ ([a2] : List PartPromise)).length) <|
    (agrafferef08_CheckPromises_2 n a0 (a1 ++ ([a2] : List PartPromise))).bind fun y2 =>
    bif (y2 != (0 : Int)) then
      some (y2, ([] : List PartPromise))
    else
      some (0, (a1 ++ ([a2] : List PartPromise)))
def restore_CheckPromises (n : Nat) (a0 : List Stocked) (a1 : List PartPromise) : Option Int :=
  withK (fun (v2 : Int) =>
      some v2) fun k1 =>
  (restore_shelfOf n a0 a1).bind fun y1 =>
  match y1 with
  | .inl y1 =>
    k1 y1
  | .inr y1 =>
    k1 0
def agraffelaw08_samePromises_L1 (a0 : List PartPromise) (a1 : List PartPromise) (k1 : (Unit → Option Bool)) (back : Nat → Option Bool) : Nat → Option Bool
  | v1 =>
  bif decide (v1 < a0.length) then
    chk (decide (v1 < a1.length)) <|
    bif (!((((ix a0 v1).Instrument) == ((ix a1 v1).Instrument)) && ((((ix a0 v1).Part) == ((ix a1 v1).Part)) && ((((ix a0 v1).Count) == ((ix a1 v1).Count)) && true)))) then
      some false
    else
      chk (nI (v1 + 1)) <|
      back (v1 + 1)
  else
    k1 ()
def agraffelaw08_samePromises (n : Nat) (a0 : List PartPromise) (a1 : List PartPromise) : Option Bool :=
  bif !decide (a0.length = a1.length) then
    some false
  else
    withK (fun (_ : Unit) =>
        some true) fun k1 =>
    loopN (agraffelaw08_samePromises_L1 a0 a1 k1) n 0
def agrafferef08_LeftOf_L1 (n : Nat) (a0 : List Stocked) (a1 : List PartPromise) (k1 : ((List PartCount) → Option (List PartCount))) (back : (List PartCount) × Nat → Option (List PartCount)) : (List PartCount) × Nat → Option (List PartCount)
  | (v2, v3) =>
  bif decide (v3 < a0.length) then
    (agrafferef08_promised n a1 ((ix a0 v3).Part)).bind fun y4 =>
    chk (inI (((ix a0 v3).Count) - y4)) <|
    chk (room 24 (v2 ++ ([(PartCount.mk ((ix a0 v3).Part) (((ix a0 v3).Count) - y4))] : List PartCount)).length) <|
    chk (nI (v3 + 1)) <|
    back ((v2 ++ ([(PartCount.mk ((ix a0 v3).Part) (((ix a0 v3).Count) - y4))] : List PartCount)), v3 + 1)
  else
    k1 v2
def agrafferef08_LeftOf (n : Nat) (a0 : List Stocked) (a1 : List PartPromise) : Option (List PartCount) :=
  withK (fun (v5 : (List PartCount)) =>
      some v5) fun k1 =>
  loopN (agrafferef08_LeftOf_L1 n a0 a1 k1) n (([] : List PartCount), 0)
def agraffelaw08_sameCounts_L1 (a0 : List PartCount) (a1 : List PartCount) (k1 : (Unit → Option Bool)) (back : Nat → Option Bool) : Nat → Option Bool
  | v1 =>
  bif decide (v1 < a0.length) then
    chk (decide (v1 < a1.length)) <|
    bif (!((((ix a0 v1).Part) == ((ix a1 v1).Part)) && ((((ix a0 v1).Count) == ((ix a1 v1).Count)) && true))) then
      some false
    else
      chk (nI (v1 + 1)) <|
      back (v1 + 1)
  else
    k1 ()
def agraffelaw08_sameCounts (n : Nat) (a0 : List PartCount) (a1 : List PartCount) : Option Bool :=
  bif !decide (a0.length = a1.length) then
    some false
  else
    withK (fun (_ : Unit) =>
        some true) fun k1 =>
    loopN (agraffelaw08_sameCounts_L1 a0 a1 k1) n 0
def agraffelaw08_RestorePromises_L1 (a0 : List Stocked) (a1 : List PartPromise) (v25 : Nat) (k3 : (Int → Option Bool)) (back : Int × Nat → Option Bool) : Int × Nat → Option Bool
  | (v27, v28) =>
  bif decide (v28 < a1.length) then
    withK (fun (v29 : Int) =>
        chk (nI (v28 + 1)) <|
        back (v29, v28 + 1)) fun k2 =>
    bif (((ix a1 v28).Part) == ((ix a0 v25).Part)) then
      chk (inI (v27 + ((ix a1 v28).Count))) <|
      k2 (v27 + ((ix a1 v28).Count))
    else
      k2 v27
  else
    k3 v27
def agraffelaw08_RestorePromises_L2 (n : Nat) (a0 : List Stocked) (a1 : List PartPromise) (y11 : Int × (List PartCount)) (k4 : (Unit → Option Bool)) (back : Nat → Option Bool) : Nat → Option Bool
  | v25 =>
  bif decide (v25 < a0.length) then
    chk (decide (v25 < y11.2.length)) <|
    withK (fun (v30 : Int) =>
        bif (v30 != ((ix a0 v25).Count)) || (decide (((ix y11.2 v25).Count) < (0 : Int))) then
          some false
        else
          chk (nI (v25 + 1)) <|
          back (v25 + 1)) fun k3 =>
    loopN (agraffelaw08_RestorePromises_L1 a0 a1 v25 k3) n ((ix y11.2 v25).Count, 0)
  else
    k4 ()
def agraffelaw08_RestorePromises (n : Nat) (a0 : List Stocked) (a1 : List PartPromise) (a2 : PartPromise) : Option Bool :=
  (agraffelaw08_awake n).bind fun y1 =>
  bif !y1 then
    some false
  else
    withK (fun (v5 : Bool) =>
        bif v5 then
          some true
        else
          (agraffelaw08_stock n a0).bind fun y6 =>
          (agraffelaw08_promises n a1).bind fun y7 =>
          (restore_AddPromise n a0 a1 a2).bind fun y8 =>
          (agraffelaw08_stock n a0).bind fun y9 =>
          (agraffelaw08_promises n a1).bind fun y10 =>
          (restore_LeftOf n a0 a1).bind fun y11 =>
          (agrafferef08_AddPromise n a0 a1 a2).bind fun y12 =>
          (agrafferef08_CheckPromises n a0 a1).bind fun y13 =>
          (agraffelaw08_stock n a0).bind fun y14 =>
          (agraffelaw08_promises n a1).bind fun y15 =>
          (restore_CheckPromises n a0 a1).bind fun y16 =>
          (gcall (!((y16 != y13) || (y8.1 != y12.1))) (agraffelaw08_samePromises n y8.2 y12.2)).bind fun y17 =>
          bif ((y16 != y13) || (y8.1 != y12.1)) || (!y17) then
            some false
          else
            bif (y13 != (0 : Int)) then
              some ((y11.1 == y13) && (decide (y11.2.length = 0)))
            else
              (gcall (!(y11.1 != (0 : Int))) (agrafferef08_LeftOf n a0 a1)).bind fun y18 =>
              (gcall (!(y11.1 != (0 : Int))) (agraffelaw08_sameCounts n y11.2 y18)).bind fun y19 =>
              bif (y11.1 != (0 : Int)) || (!y19) then
                some false
              else
                withK (fun (_ : Unit) =>
                    some true) fun k4 =>
                loopN (agraffelaw08_RestorePromises_L2 n a0 a1 y11 k4) n 0) fun k1 =>
    (agraffelaw08_stocked n a0).bind fun y2 =>
    (gcall (!(!y2)) (agraffelaw08_promised n a1)).bind fun y3 =>
    bif !((!y2) || (!y3)) then
      (agraffelaw08_promised n ([a2] : List PartPromise)).bind fun y4 =>
      k1 (((!y2) || (!y3)) || (!y4))
    else
      k1 (((!y2) || (!y3)) || false)
end
section
set_option maxRecDepth 4000
open Go
theorem loopN_s {α β : Type} (F : (α → Option β) → α → Option β) (n : Nat) (t : α) : loopN F (n + 1) t = F (loopN F n) t := rfl
@[simp] theorem chk_t {α : Type} (k : Option α) : chk true k = k := rfl
theorem chk_of {α : Type} {b : Bool} {k : Option α} (h : b = true) : chk b k = k := by subst h; rfl
@[simp] theorem withK_eq {α β : Type} (j : α → Option β) (f : (α → Option β) → Option β) : withK j f = f j := rfl
@[simp] theorem gcall_some_ {α : Type} [Inhabited α] (g : Bool) (x : α) : (gcall g (some x)) = some (bif g then x else default) := by cases g <;> rfl
theorem nI_of {n : Nat} (h : n ≤ 9223372036854775807) : nI n = true := by simp [nI, h]
theorem inI_of {n : Int} (h : -9223372036854775808 ≤ n) (h2 : n ≤ 9223372036854775807) : inI n = true := by simp [inI, h, h2]
theorem room_of {b n : Nat} (h : n * b ≤ 140737488355328) (h2 : n ≤ 9223372036854775807) : room b n = true := by simp [room, h, h2]
theorem inB_of {q : Int} {n : Nat} (h : 0 ≤ q) (h2 : q.toNat < n) : inB q n = true := by simp [inB, h, h2]
theorem inC_of {q : Int} {n : Nat} (h : 0 ≤ q) (h2 : q.toNat ≤ n) : inC q n = true := by simp [inC, h, h2]
theorem drop_ix {α : Type} [Inhabited α] {l : List α} {v : Nat} (h : v < l.length) : l.drop v = ix l v :: l.drop (v + 1) := by
  rw [ix_eq h]; exact List.drop_eq_getElem_cons h
theorem drop_nil {α : Type} {l : List α} {v : Nat} (h : ¬ v < l.length) : l.drop v = [] := List.drop_eq_nil_of_le (by omega)
def isL (c : UInt8) : Bool := (decide ((97 : Int) ≤ ((c.toNat : Nat) : Int)) && decide (((c.toNat : Nat) : Int) ≤ (122 : Int))) || (decide ((65 : Int) ≤ ((c.toNat : Nat) : Int)) && decide (((c.toNat : Nat) : Int) ≤ (90 : Int)))
def isD (c : UInt8) : Bool := decide ((48 : Int) ≤ ((c.toNat : Nat) : Int)) && decide (((c.toNat : Nat) : Int) ≤ (57 : Int))
def okC (c : UInt8) : Bool := isL c || isD c || (((c.toNat : Nat) : Int) == (45 : Int))
def nameB (s : Str) : Bool := match s with
  | [] => false
  | c :: r => isL c && r.all okC && decide (r.length < 12)
end
section
set_option maxRecDepth 4000
open Go
theorem bne_t {x : Int} (h : ¬ x = 0) : (x != 0) = true := by simp [bne, h]
def firstE (E : Nat → Int) : Nat → Nat → Int
  | _, 0 => 0
  | v, m + 1 => bif E v != 0 then E v else firstE E (v + 1) m
theorem firstE_zero {E : Nat → Int} : ∀ {m v : Nat}, firstE E v m = 0 → ∀ j, v ≤ j → j < v + m → E j = 0
  | 0, v, _, j, h1, h2 => by omega
  | m + 1, v, h, j, h1, h2 => by
    unfold firstE at h
    by_cases e : E v = 0
    · simp [e] at h
      by_cases hj : j = v
      · rw [hj]; exact e
      · exact firstE_zero h j (by omega) (by omega)
    · rw [bne_t e, cond_true] at h; exact absurd h e
theorem firstE_congr {E E' : Nat → Int} : ∀ {m v : Nat}, (∀ j, v ≤ j → j < v + m → (∀ i, v ≤ i → i < j → E i = 0) → E j = E' j) → firstE E v m = firstE E' v m
  | 0, _, _ => rfl
  | m + 1, v, h => by
    have e := h v (by omega) (by omega) (fun i h1 h2 => by omega)
    unfold firstE
    rw [e]
    by_cases z : E' v = 0
    · simp only [z, bne_self_eq_false, cond_false]
      exact firstE_congr fun j h1 h2 h3 => h j (by omega) (by omega) fun i h4 h5 => by
        by_cases hi : i = v
        · rw [hi, e, z]
        · exact h3 i (by omega) h5
    · rw [bne_t z, cond_true, cond_true]
theorem loop_first {σ R : Type} {F : (σ → Option R) → σ → Option R} {st : Nat → σ} {E : Nat → Int} {err : Int → Option R} {k : Option R} {len : Nat}
    (h1 : ∀ back v, v < len → (∀ j, j < v → E j = 0) → F back (st v) = bif E v != 0 then err (E v) else back (st (v + 1)))
    (h2 : ∀ back, (∀ j, j < len → E j = 0) → F back (st len) = k) : ∀ n v, len - v < n → v ≤ len → (∀ j, j < v → E j = 0) → loopN F n (st v) = bif firstE E v (len - v) != 0 then err (firstE E v (len - v)) else k := by
  intro n
  induction n with
  | zero => intro v h; omega
  | succ n ih =>
    intro v hn hv hz
    rw [loopN_s]
    by_cases h : v < len
    · rw [h1 _ v h hz, show len - v = (len - (v + 1)) + 1 by omega]
      unfold firstE
      by_cases e : E v = 0
      · simp only [e, bne_self_eq_false, cond_false]
        exact ih (v + 1) (by omega) (by omega) fun j hj => by
          by_cases hjv : j = v
          · rw [hjv]; exact e
          · exact hz j (by omega)
      · rw [bne_t e, cond_true, cond_true, bne_t e, cond_true]
    · have : v = len := by omega
      subst this
      rw [h2 _ hz, Nat.sub_self]
      simp [firstE]
theorem loop_through {σ R : Type} {F : (σ → Option R) → σ → Option R} {st : Nat → σ} {k : Option R} {len : Nat} (h1 : ∀ back v, v < len → F back (st v) = back (st (v + 1))) (h2 : ∀ back, F back (st len) = k) : ∀ n, len < n → loopN F n (st 0) = k := by
  intro n hn
  have := loop_first (F := F) (st := st) (E := fun _ => 0) (err := fun _ => none) (k := k) (len := len) (fun back v hv _ => by simp [h1 back v hv]) (fun back _ => h2 back) n 0 (by omega) (by omega) (fun _ _ => rfl)
  rw [this, Nat.sub_zero]
  have : firstE (fun _ => (0 : Int)) 0 len = 0 := by
    have : ∀ m v, firstE (fun _ => (0 : Int)) v m = 0 := by
      intro m
      induction m with
      | zero => intro v; rfl
      | succ m ih => intro v; simp [firstE, ih]
    exact this _ _
  rw [this]; rfl
def findI {α : Type} (p : α → Bool) (l : List α) : Int := match l.findIdx? p with
  | some i => ((i : Nat) : Int)
  | none => -1
theorem loop_find {α R : Type} [Inhabited α] {l : List α} {p : α → Bool} {F : (Nat → Option R) → Nat → Option R} {yes : Nat → Option R} {no : Option R}
    (hF : ∀ back v, F back v = bif decide (v < l.length) then (bif p (ix l v) then yes v else chk (nI (v + 1)) (back (v + 1))) else no) :
    ∀ n v, l.length - v < n → l.length < 9223372036854775807 → loopN F n v = match (l.drop v).findIdx? p with | some i => yes (v + i) | none => no := by
  intro n
  induction n with
  | zero => intro v h; omega
  | succ n ih =>
    intro v hn hl
    rw [loopN_s, hF]
    by_cases h : v < l.length
    · rw [drop_ix h, List.findIdx?_cons]
      simp only [h, decide_true, cond_true, nI_of (by omega : v + 1 ≤ 9223372036854775807), chk_t]
      cases hp : p (ix l v) with
      | true => simp
      | false =>
        simp only [cond_false, Bool.false_eq_true, if_false]
        rw [ih (v + 1) (by omega) hl]
        cases hh : (l.drop (v + 1)).findIdx? p with
        | none => simp
        | some i => simp [Nat.add_assoc, Nat.add_comm 1 i]
    · rw [drop_nil h]
      simp [h]
theorem loop_any {α R : Type} [Inhabited α] {l : List α} {p : α → Bool} {F : (Nat → Option R) → Nat → Option R} {bad : Option R} {no : Option R}
    (hF : ∀ back v, F back v = bif decide (v < l.length) then (bif p (ix l v) then bad else chk (nI (v + 1)) (back (v + 1))) else no) (n : Nat) (hn : l.length < n) (hl : l.length < 9223372036854775807) : loopN F n 0 = bif l.any p then bad else no := by
  rw [loop_find (yes := fun _ => bad) hF n 0 (by omega) hl, List.drop_zero]
  cases h : l.findIdx? p with
  | none =>
    rw [List.findIdx?_eq_none_iff] at h
    have : l.any p = false := by
      rw [List.any_eq_false]
      intro x hx
      simp [h x hx]
    simp [this]
  | some i =>
    have : l.any p = true := by
      rw [List.findIdx?_eq_some_iff_getElem] at h
      obtain ⟨hi, hp, _⟩ := h
      exact List.any_eq_true.2 ⟨_, List.getElem_mem hi, hp⟩
    simp [this]
theorem findI_neg {α : Type} {p : α → Bool} {l : List α} (h : findI p l < 0) : findI p l = -1 ∧ ∀ x ∈ l, p x = false := by
  unfold findI at h ⊢
  split at h
  · omega
  · rename_i e
    rw [List.findIdx?_eq_none_iff] at e
    exact ⟨rfl, e⟩
theorem findI_pos {α : Type} [Inhabited α] {p : α → Bool} {l : List α} (h : ¬ findI p l < 0) : 0 ≤ findI p l ∧ (findI p l).toNat < l.length ∧ p (ix l (findI p l).toNat) = true ∧ ∀ j, j < (findI p l).toNat → p (ix l j) = false := by
  unfold findI at h ⊢
  split at h
  · rename_i i e
    rw [List.findIdx?_eq_some_iff_getElem] at e
    obtain ⟨hi, hp, hb⟩ := e
    refine ⟨by omega, by simpa using hi, ?_, fun j hj => ?_⟩
    · rw [ix_eq (by simpa using hi)]; simpa using hp
    · have hj : j < i := by simpa using hj
      rw [ix_eq (by omega)]
      simpa using hb j hj
  · omega
end
section
set_option maxRecDepth 4000
open Go
theorem getD_ix (s : Str) (v : Nat) : List.getD s v 0 = ix s v := by
  simp only [ix, List.getD]; rfl
theorem isName_loop (s : Str) (k : Unit → Option Bool) : ∀ (n v : Nat), s.length - v < n → 0 < v → s.length < 9223372036854775807 → loopN (restore_isName_L1 s k) n v = bif (s.drop v).all okC then k () else some false := by
  intro n
  induction n with
  | zero => intro v h; omega
  | succ n ih =>
    intro v hn hv hl
    rw [loopN_s, restore_isName_L1]
    by_cases h : v < s.length
    · rw [drop_ix h]
      have h2 : ¬ v = 0 := by omega
      simp only [h, decide_true, cond_true, h2, decide_false, Bool.false_or, List.all_cons, nI_of (by omega : v + 1 ≤ 9223372036854775807), chk_t]
      rw [ih (v + 1) (by omega) (by omega) hl]
      have key : (!((decide ((97 : Int) ≤ (((ix s v).toNat : Nat) : Int)) && decide ((((ix s v).toNat : Nat) : Int) ≤ (122 : Int))) || (decide ((65 : Int) ≤ (((ix s v).toNat : Nat) : Int)) && decide ((((ix s v).toNat : Nat) : Int) ≤ (90 : Int)))) && (((((ix s v).toNat : Nat) : Int) != (45 : Int)) && (decide ((((ix s v).toNat : Nat) : Int) < (48 : Int)) || decide ((57 : Int) < (((ix s v).toNat : Nat) : Int))))) = !okC (ix s v) := by
        have hd : (decide ((((ix s v).toNat : Nat) : Int) < (48 : Int)) || decide ((57 : Int) < (((ix s v).toNat : Nat) : Int))) = !isD (ix s v) := by
          simp only [isD, Bool.not_and, ← decide_not, Int.not_le]
        rw [hd]
        show (!isL (ix s v) && _) = _
        simp only [okC]
        cases isL (ix s v) <;> cases isD (ix s v) <;> cases hh : (((((ix s v).toNat : Nat) : Int)) == (45 : Int)) <;> simp [bne, hh]
      rw [key]
      cases okC (ix s v) <;> simp
    · rw [drop_nil h]
      simp [h]
theorem isName_eq (s : Str) (n : Nat) (hn : s.length + 1 < n) (hl : s.length < 9223372036854775807) : restore_isName n s = some (nameB s) := by
  obtain ⟨n, rfl⟩ : ∃ m, n = m + 1 := ⟨n - 1, by omega⟩
  rw [restore_isName, withK_eq, loopN_s, restore_isName_L1]
  cases s with
  | nil => simp [nameB]
  | cons c r =>
    have h0 : 0 < (c :: r).length := by simp
    have hix : ix (c :: r) 0 = c := rfl
    simp only [h0, decide_true, cond_true, hix, Bool.true_or, Bool.and_true, nI_of (by simp : 0 + 1 ≤ 9223372036854775807), chk_t]
    rw [isName_loop _ _ n 1 (by simp at hn ⊢; omega) (by omega) hl]
    show (bif !isL c then some false else _) = _
    simp only [nameB, List.drop_succ_cons, List.drop_zero]
    cases hL : isL c <;> cases hA : r.all okC <;> simp
    omega
theorem IsName_loop (s : Str) (n0 : Nat) (k : Unit → Option Bool) : ∀ (n v : Nat), s.length - v < n → s.length < 9223372036854775807 → loopN (agraffebase_IsName_L1 n0 s k) n v = bif (s.drop v).all okC then k () else some false := by
  intro n
  induction n with
  | zero => intro v h; omega
  | succ n ih =>
    intro v hn hl
    rw [loopN_s, agraffebase_IsName_L1]
    by_cases h : v < s.length
    · rw [drop_ix h]
      simp only [h, decide_true, cond_true, agraffebase_isLetter, agraffebase_isDigit, gcall_some_, Option.bind_some, getD_ix, List.all_cons, nI_of (by omega : v + 1 ≤ 9223372036854775807), chk_t]
      rw [ih (v + 1) (by omega) hl]
      show (bif ((!isL (ix s v)) && (!isD (ix s v))) && ((((ix s v).toNat : Nat) : Int) != (45 : Int)) then _ else _) = _
      simp only [okC]
      cases isL (ix s v) <;> cases isD (ix s v) <;> cases hh : (((((ix s v).toNat : Nat) : Int)) == (45 : Int)) <;> simp [bne, hh]
    · rw [drop_nil h]
      simp [h]
theorem IsName_eq (s : Str) (n : Nat) (hn : s.length + 1 < n) (hl : s.length < 9223372036854775807) : agraffebase_IsName n s = some (nameB s) := by
  rw [agraffebase_IsName]
  simp only [agraffebase_isLetter, gcall_some_, Option.bind_some, getD_ix, withK_eq]
  rw [IsName_loop _ _ _ _ _ (by omega) hl]
  cases s with
  | nil => simp [nameB]
  | cons c r =>
    have h0 : ¬ (c :: r).length = 0 := by simp
    have h1 : 0 < (c :: r).length := by simp
    have hix : ix (c :: r) 0 = c := rfl
    simp only [h0, h1, decide_true, decide_false, Bool.false_or, Bool.or_true, chk_t, hix, List.drop_zero]
    show (bif (decide (12 < (c :: r).length)) || (!isL c) then _ else _) = _
    simp only [nameB, List.all_cons, okC, List.length_cons]
    by_cases hlen : r.length < 12
    · have : ¬ 12 < r.length + 1 := by omega
      cases hL : isL c <;> cases hA : r.all okC <;> simp [this, hlen, hA]
    · have : 12 < r.length + 1 := by omega
      simp [this, hlen]
end
section
set_option maxRecDepth 4000
open Go
def byPart (s : Str) (x : Stocked) : Bool := x.Part == s
theorem FindStock_eq (n : Nat) (a0 : List Stocked) (s : Str) (hn : a0.length < n) (hl : a0.length < 9223372036854775807) : agrafferef08_FindStock n a0 s = some (findI (byPart s) a0) := by
  rw [agrafferef08_FindStock, withK_eq]
  rw [loop_find (l := a0) (p := byPart s) (yes := fun v => some ((v : Nat) : Int)) (no := some (-1)) (fun back v => by rw [agrafferef08_FindStock_L1]; rfl) n 0 (by omega) hl]
  simp only [List.drop_zero, findI]
  cases a0.findIdx? (byPart s) <;> simp
theorem stocked_eq (n : Nat) (a0 : List Stocked) (s : Str) (hn : a0.length < n) (hl : a0.length < 9223372036854775807) : restore_stocked n a0 s = some (findI (byPart s) a0) := by
  rw [restore_stocked, slices_IndexFunc_Stocked, withK_eq]
  rw [loop_find (l := a0) (p := byPart s) (yes := fun v => some ((v : Nat) : Int)) (no := some (-1)) (fun back v => by rw [slices_IndexFunc_Stocked_L1]; simp only [restore_stocked_f1, Option.bind_some]; rfl) n 0 (by omega) hl]
  simp only [List.drop_zero, findI]
  cases a0.findIdx? (byPart s) <;> simp
def stockE (a0 : List Stocked) (v : Nat) : Int :=
  bif !nameB (ix a0 v).Part then 4 else bif decide ((0 : Int) ≤ findI (byPart (ix a0 v).Part) (a0.take v)) then 5
  else bif (!((decide (0 ≤ (ix a0 v).Cents)) && (decide ((ix a0 v).Cents ≤ 1000000000)))) || (!((decide (0 ≤ (ix a0 v).Count)) && (decide ((ix a0 v).Count ≤ 10000)))) then 2 else 0
def stockC (a0 : List Stocked) : Int := bif decide (60 < a0.length) then 8 else firstE (stockE a0) 0 a0.length
theorem bif_id {x : Int} : (bif x != 0 then some x else some 0) = some x := by
  by_cases h : x = 0
  · simp [h]
  · rw [bne_t h]; rfl
theorem CheckStock_ref (n : Nat) (a0 : List Stocked) (hs : ∀ x ∈ a0, x.Part.length ≤ 20) (hn : 100 < n) : agrafferef08_CheckStock n a0 = some (stockC a0) := by
  rw [agrafferef08_CheckStock, stockC]
  by_cases hlen : 60 < a0.length
  · simp [hlen]
  simp only [hlen, decide_false, cond_false, withK_eq]
  rw [loop_first (st := fun v => v) (E := stockE a0) (err := some) (k := some 0) (len := a0.length) ?_ ?_ n 0 (by omega) (by omega) (fun j h => by omega)]
  · rw [Nat.sub_zero]; exact bif_id
  · intro back v hv _
    rw [agrafferef08_CheckStock_L1]
    have h1 := hs _ (ix_mem hv)
    have hI := IsName_eq (ix a0 v).Part n (by omega) (by omega)
    have hF := FindStock_eq n (a0.take v) (ix a0 v).Part (by simp; omega) (by simp; omega)
    have hle : v ≤ a0.length := by omega
    simp only [hv, hle, decide_true, cond_true, hI, Option.bind_some, hF, agraffebase_Within, gcall_some_, nI_of (by omega : v + 1 ≤ 9223372036854775807), chk_t, stockE]
    cases nameB (ix a0 v).Part <;> cases decide ((0 : Int) ≤ findI (byPart (ix a0 v).Part) (a0.take v)) <;> simp only [Bool.not_true, Bool.not_false, cond_true, cond_false] <;> first | rfl | skip
    cases ((!((decide (0 ≤ (ix a0 v).Cents)) && (decide ((ix a0 v).Cents ≤ 1000000000)))) || (!((decide (0 ≤ (ix a0 v).Count)) && (decide ((ix a0 v).Count ≤ 10000))))) <;> rfl
  · intro back _
    rw [agrafferef08_CheckStock_L1]
    simp
theorem CheckStock_res (n : Nat) (a0 : List Stocked) (hs : ∀ x ∈ a0, x.Part.length ≤ 20) (hn : 100 < n) : restore_CheckStock n a0 = some (stockC a0) := by
  rw [restore_CheckStock, stockC]
  by_cases hlen : 60 < a0.length
  · simp [hlen]
  simp only [hlen, decide_false, cond_false, withK_eq]
  rw [loop_first (st := fun v => v) (E := stockE a0) (err := some) (k := some 0) (len := a0.length) ?_ ?_ n 0 (by omega) (by omega) (fun j h => by omega)]
  · rw [Nat.sub_zero]; exact bif_id
  · intro back v hv _
    rw [restore_CheckStock_L1]
    have h1 := hs _ (ix_mem hv)
    have hI := isName_eq (ix a0 v).Part n (by omega) (by omega)
    have hF := stocked_eq n (a0.take v) (ix a0 v).Part (by simp; omega) (by simp; omega)
    have hle : v ≤ a0.length := by omega
    simp only [hv, hle, decide_true, cond_true, hI, Option.bind_some, hF, restore_within, gcall_some_, nI_of (by omega : v + 1 ≤ 9223372036854775807), chk_t, stockE]
    cases nameB (ix a0 v).Part <;> cases decide ((0 : Int) ≤ findI (byPart (ix a0 v).Part) (a0.take v)) <;> simp only [Bool.not_true, Bool.not_false, cond_true, cond_false] <;> first | rfl | skip
    cases ((!((decide (0 ≤ (ix a0 v).Cents)) && (decide ((ix a0 v).Cents ≤ 1000000000)))) || (!((decide (0 ≤ (ix a0 v).Count)) && (decide ((ix a0 v).Count ≤ 10000))))) <;> rfl
  · intro back _
    rw [restore_CheckStock_L1]
    simp
end
section
set_option maxRecDepth 4000
open Go
def psum (s : Str) : List PartPromise → Int
  | [] => 0
  | x :: r => (bif x.Part == s then x.Count else 0) + psum s r
theorem psum_append (s : Str) : ∀ l r : List PartPromise, psum s (l ++ r) = psum s l + psum s r
  | [], r => by simp [psum]
  | x :: l, r => by simp only [List.cons_append, psum, psum_append s l r]; omega
theorem psum_take (s : Str) (l : List PartPromise) {v : Nat} (h : v < l.length) : psum s (l.take (v + 1)) = psum s (l.take v) + (bif (ix l v).Part == s then (ix l v).Count else 0) := by
  rw [List.take_succ_eq_append_getElem h, psum_append, ix_eq h]
  simp [psum]
theorem psum_bound (s : Str) : ∀ l : List PartPromise, (∀ x ∈ l, 0 ≤ x.Count ∧ x.Count ≤ 10000) → 0 ≤ psum s l ∧ psum s l ≤ 10000 * (l.length : Int)
  | [], _ => by simp [psum]
  | x :: r, h => by
    have h1 := h x (by simp)
    have h2 := psum_bound s r fun y hy => h y (by simp [hy])
    simp only [psum, List.length_cons, Int.natCast_add, Int.natCast_one]
    cases (x.Part == s) <;> simp <;> omega
theorem promised_eq (n : Nat) (l : List PartPromise) (s : Str) (hl : l.length ≤ 1000) (hn : 1000 < n) (hb : ∀ x ∈ l, 0 ≤ x.Count ∧ x.Count ≤ 10000) : agrafferef08_promised n l s = some (psum s l) := by
  rw [agrafferef08_promised, withK_eq]
  have e0 : ((0 : Int), 0) = (fun v => (psum s (l.take v), v)) 0 := by simp [psum]
  rw [e0, loop_through (st := fun v => (psum s (l.take v), v)) (k := some (psum s l)) (len := l.length) ?_ ?_ n (by omega)]
  · intro back v hv
    rw [agrafferef08_promised_L1]
    have hp := psum_take s l hv
    have hb2 := psum_bound s (l.take (v + 1)) fun x hx => hb x (List.mem_of_mem_take hx)
    have hlen : (l.take (v + 1)).length ≤ 1000 := by simp; omega
    simp only [hv, decide_true, cond_true, withK_eq, nI_of (by omega : v + 1 ≤ 9223372036854775807), chk_t]
    cases e : (ix l v).Part == s with
    | true =>
      rw [e] at hp
      simp only [cond_true] at hp ⊢
      rw [← hp, chk_of (inI_of (by omega) (by omega))]
    | false =>
      rw [e] at hp
      simp only [cond_false, Int.add_zero] at hp ⊢
      rw [hp]
  · intro back
    rw [agrafferef08_promised_L1]
    simp
def promE (a0 : List Stocked) (a1 : List PartPromise) (v : Nat) : Int :=
  bif !nameB (ix a1 v).Instrument then 4 else bif decide (findI (byPart (ix a1 v).Part) a0 < (0 : Int)) then 6
  else bif !((decide (1 ≤ (ix a1 v).Count)) && (decide ((ix a1 v).Count ≤ 10000))) then 2
  else bif decide ((ix a0 (findI (byPart (ix a1 v).Part) a0).toNat).Count < psum (ix a1 v).Part (a1.take (v + 1))) then 20 else 0
theorem promE_zero {a0 : List Stocked} {a1 : List PartPromise} {v : Nat} (h : promE a0 a1 v = 0) : ¬ findI (byPart (ix a1 v).Part) a0 < 0 ∧ 1 ≤ (ix a1 v).Count ∧ (ix a1 v).Count ≤ 10000 ∧ psum (ix a1 v).Part (a1.take (v + 1)) ≤ (ix a0 (findI (byPart (ix a1 v).Part) a0).toNat).Count := by
  unfold promE at h
  cases h1 : nameB (ix a1 v).Instrument
  · simp [h1] at h
  · simp only [h1, Bool.not_true, cond_false] at h
    by_cases h2 : findI (byPart (ix a1 v).Part) a0 < 0
    · simp [h2] at h
    · simp only [h2, decide_false, cond_false] at h
      cases h3 : (decide (1 ≤ (ix a1 v).Count)) && (decide ((ix a1 v).Count ≤ 10000))
      · simp [h3] at h
      · simp only [h3, Bool.not_true, cond_false] at h
        simp only [Bool.and_eq_true, decide_eq_true_eq] at h3
        by_cases h4 : (ix a0 (findI (byPart (ix a1 v).Part) a0).toNat).Count < psum (ix a1 v).Part (a1.take (v + 1))
        · simp [h4] at h
        · exact ⟨h2, h3.1, h3.2, by omega⟩
def promC (a0 : List Stocked) (a1 : List PartPromise) : Int := bif stockC a0 != 0 then stockC a0 else bif decide (200 < a1.length) then 8 else firstE (promE a0 a1) 0 a1.length
theorem take_bound {a0 : List Stocked} {a1 : List PartPromise} {v : Nat} (hz : ∀ j, j < v → promE a0 a1 j = 0) : ∀ x ∈ a1.take v, 0 ≤ x.Count ∧ x.Count ≤ 10000 := by
  intro x hx
  obtain ⟨i, hi, rfl⟩ := List.mem_iff_getElem.1 hx
  simp only [List.length_take] at hi
  have := promE_zero (hz i (by omega))
  rw [List.getElem_take, ← ix_eq (by omega)]
  omega
theorem CheckPromises_ref (n : Nat) (a0 : List Stocked) (a1 : List PartPromise) (hs : ∀ x ∈ a0, x.Part.length ≤ 20) (hp : ∀ x ∈ a1, x.Instrument.length ≤ 20) (hl : a0.length ≤ 1000) (hn : 1000 < n) : agrafferef08_CheckPromises n a0 a1 = some (promC a0 a1) := by
  rw [agrafferef08_CheckPromises, CheckStock_ref n a0 hs (by omega), promC]
  simp only [Option.bind_some]
  cases stockC a0 != 0
  · simp only [cond_false]
    by_cases hlen : 200 < a1.length
    · simp [hlen]
    simp only [hlen, decide_false, cond_false, withK_eq]
    rw [loop_first (st := fun v => v) (E := promE a0 a1) (err := some) (k := some 0) (len := a1.length) ?_ ?_ n 0 (by omega) (by omega) (fun j h => by omega)]
    · rw [Nat.sub_zero]; exact bif_id
    · intro back v hv hz
      rw [agrafferef08_CheckPromises_L1]
      have h1 := hp _ (ix_mem hv)
      have hI := IsName_eq (ix a1 v).Instrument n (by omega) (by omega)
      have hF := FindStock_eq n a0 (ix a1 v).Part (by omega) (by omega)
      have hle : v + 1 ≤ a1.length := by omega
      simp only [hv, decide_true, cond_true, hI, Option.bind_some, hF, agraffebase_Within, promE]
      cases nameB (ix a1 v).Instrument
      · rfl
      simp only [Bool.not_true, cond_false]
      by_cases h2 : findI (byPart (ix a1 v).Part) a0 < 0
      · simp [h2]
      obtain ⟨f1, f2, f3, f4⟩ := findI_pos h2
      simp only [h2, decide_false, cond_false]
      cases h3 : (decide (1 ≤ (ix a1 v).Count)) && (decide ((ix a1 v).Count ≤ 10000))
      · rfl
      simp only [Bool.and_eq_true, decide_eq_true_eq] at h3
      have hP := promised_eq n (a1.take (v + 1)) (ix a1 v).Part (by simp; omega) hn (fun x hx => by
        rw [List.take_succ_eq_append_getElem hv, List.mem_append] at hx
        rcases hx with hx | hx
        · exact take_bound hz x hx
        · simp only [List.mem_singleton] at hx
          rw [hx, ← ix_eq hv]; omega)
      simp only [Bool.not_true, cond_false, nI_of (by omega : v + 1 ≤ 9223372036854775807), chk_t, hle, decide_true, hP, Option.bind_some, inB_of f1 f2, f2]
      cases decide ((ix a0 (findI (byPart (ix a1 v).Part) a0).toNat).Count < psum (ix a1 v).Part (a1.take (v + 1))) <;> rfl
    · intro back _
      rw [agrafferef08_CheckPromises_L1]
      simp
  · simp
end
section
set_option maxRecDepth 4000
open Go
def shelfAt (a0 : List Stocked) (a1 : List PartPromise) (v : Nat) : List Int := a0.map fun x => x.Count - psum x.Part (a1.take v)
theorem ix_map {α β : Type} [Inhabited α] [Inhabited β] {l : List α} {f : α → β} {i : Nat} (h : i < l.length) : ix (l.map f) i = f (ix l i) := by
  rw [ix_eq (by simpa using h), ix_eq h, List.getElem_map]
theorem stock_unique {a0 : List Stocked} (h : stockC a0 = 0) {i j : Nat} (hi : i < j) (hj : j < a0.length) : ((ix a0 i).Part == (ix a0 j).Part) = false := by
  unfold stockC at h
  by_cases hl : 60 < a0.length
  · simp [hl] at h
  simp only [hl, decide_false, cond_false] at h
  have := firstE_zero h j (by omega) (by omega)
  unfold stockE at this
  cases h1 : nameB (ix a0 j).Part
  · simp [h1] at this
  · simp only [h1, Bool.not_true, cond_false] at this
    by_cases h2 : (0 : Int) ≤ findI (byPart (ix a0 j).Part) (a0.take j)
    · simp [h2] at this
    · obtain ⟨_, h3⟩ := findI_neg (show findI (byPart (ix a0 j).Part) (a0.take j) < 0 by omega)
      have hm : ix a0 i ∈ a0.take j := by
        rw [ix_eq (by omega)]
        exact List.mem_iff_getElem.2 ⟨i, by simp; omega, by simp⟩
      exact h3 _ hm
theorem stock_len {a0 : List Stocked} (h : stockC a0 = 0) : a0.length ≤ 60 := by
  unfold stockC at h
  by_cases hl : 60 < a0.length
  · simp [hl] at h
  · omega
theorem stock_count {a0 : List Stocked} (h : stockC a0 = 0) {j : Nat} (hj : j < a0.length) : 0 ≤ (ix a0 j).Count ∧ (ix a0 j).Count ≤ 10000 := by
  have hl := stock_len h
  unfold stockC at h
  have hl' : ¬ 60 < a0.length := by omega
  simp only [hl', decide_false, cond_false] at h
  have := firstE_zero h j (by omega) (by omega)
  unfold stockE at this
  cases h1 : nameB (ix a0 j).Part
  · simp [h1] at this
  · simp only [h1, Bool.not_true, cond_false] at this
    cases h2 : decide ((0 : Int) ≤ findI (byPart (ix a0 j).Part) (a0.take j))
    · simp only [h2, cond_false] at this
      cases h3 : (!((decide (0 ≤ (ix a0 j).Cents)) && (decide ((ix a0 j).Cents ≤ 1000000000)))) || (!((decide (0 ≤ (ix a0 j).Count)) && (decide ((ix a0 j).Count ≤ 10000))))
      · simp at h3; omega
      · rw [h3] at this; simp at this
    · simp [h2] at this
theorem shelf_len (a0 : List Stocked) (a1 : List PartPromise) (v : Nat) : (shelfAt a0 a1 v).length = a0.length := by simp [shelfAt]
theorem shelf_step {a0 : List Stocked} {a1 : List PartPromise} {v : Nat} (h0 : stockC a0 = 0) (hv : v < a1.length) {i : Nat} (hi : i < a0.length) (hp : (ix a0 i).Part = (ix a1 v).Part) :
    (shelfAt a0 a1 v).set i (ix (shelfAt a0 a1 v) i - (ix a1 v).Count) = shelfAt a0 a1 (v + 1) := by
  refine List.ext_getElem (by simp [shelfAt]) fun j h1 h2 => ?_
  have hj : j < a0.length := by simpa [shelfAt] using h2
  rw [List.getElem_set]
  have e : ∀ u, (shelfAt a0 a1 u)[j]'(by simpa [shelfAt] using hj) = (ix a0 j).Count - psum (ix a0 j).Part (a1.take u) := fun u => by simp [shelfAt, ix_eq hj]
  by_cases hij : i = j
  · subst hij
    rw [if_pos rfl, e (v + 1), psum_take _ _ hv, ix_eq (by simpa [shelfAt] using hj), e v, hp]
    simp
    omega
  · rw [if_neg hij, e v, e (v + 1), psum_take _ _ hv]
    have : ((ix a1 v).Part == (ix a0 j).Part) = false := by
      rw [← hp]
      rcases Nat.lt_or_ge i j with h | h
      · exact stock_unique h0 h hj
      · have := stock_unique h0 (show j < i by omega) hi
        rw [Bool.eq_false_iff] at this ⊢
        intro hc
        exact this (by rw [eq_of_beq hc]; simp)
    rw [this]; simp
theorem shelf_take_eq (n : Nat) (a0 : List Stocked) (a1 : List PartPromise) (v : Nat) (h0 : stockC a0 = 0) (hv : v < a1.length) (hp : (ix a1 v).Instrument.length ≤ 20) (hz : ∀ j, j < v → promE a0 a1 j = 0) (hl1 : a1.length ≤ 1000) (hn : 1000 < n) :
    restore_shelf_take n a0 (shelfAt a0 a1 v) (ix a1 v) = some (promE a0 a1 v, bif promE a0 a1 v != 0 then shelfAt a0 a1 v else shelfAt a0 a1 (v + 1)) := by
  have hl := stock_len h0
  have hI := isName_eq (ix a1 v).Instrument n (by omega) (by omega)
  have hF := stocked_eq n a0 (ix a1 v).Part (by omega) (by omega)
  rw [restore_shelf_take]
  simp only [hF, hI, Option.bind_some, restore_within]
  unfold promE
  cases nameB (ix a1 v).Instrument
  · rfl
  simp only [Bool.not_true, cond_false]
  by_cases h2 : findI (byPart (ix a1 v).Part) a0 < 0
  · simp [h2]
  obtain ⟨f1, f2, f3, f4⟩ := findI_pos h2
  have hpart : (ix a0 (findI (byPart (ix a1 v).Part) a0).toNat).Part = (ix a1 v).Part := eq_of_beq f3
  simp only [h2, decide_false, cond_false]
  cases h3 : (decide (1 ≤ (ix a1 v).Count)) && (decide ((ix a1 v).Count ≤ 10000))
  · rfl
  simp only [Bool.and_eq_true, decide_eq_true_eq] at h3
  have f2' : (findI (byPart (ix a1 v).Part) a0).toNat < (shelfAt a0 a1 v).length := by rw [shelf_len]; exact f2
  simp only [Bool.not_true, cond_false, inB_of f1 f2', chk_t, f2', decide_true]
  have hs : ix (shelfAt a0 a1 v) (findI (byPart (ix a1 v).Part) a0).toNat = (ix a0 (findI (byPart (ix a1 v).Part) a0).toNat).Count - psum (ix a1 v).Part (a1.take v) := by
    rw [shelfAt, ix_map f2, hpart]
  have hps := psum_take (ix a1 v).Part a1 hv
  simp only [beq_self_eq_true, cond_true] at hps
  have hc := stock_count h0 f2
  have hb := psum_bound (ix a1 v).Part (a1.take v) (take_bound hz)
  have hlen : (a1.take v).length ≤ 1000 := by simp; omega
  have hdec : decide (ix (shelfAt a0 a1 v) (findI (byPart (ix a1 v).Part) a0).toNat < (ix a1 v).Count) = decide ((ix a0 (findI (byPart (ix a1 v).Part) a0).toNat).Count < psum (ix a1 v).Part (a1.take (v + 1))) := by
    rw [hs, hps]
    exact decide_eq_decide.2 ⟨fun h => by omega, fun h => by omega⟩
  rw [hdec]
  cases decide ((ix a0 (findI (byPart (ix a1 v).Part) a0).toNat).Count < psum (ix a1 v).Part (a1.take (v + 1)))
  · simp only [cond_false, bne_self_eq_false]
    rw [chk_of (inI_of (by rw [hs]; omega) (by rw [hs]; omega)), shelf_step h0 hv f2 hpart]
  · rfl
theorem shelfOf_eq (n : Nat) (a0 : List Stocked) (a1 : List PartPromise) (hs : ∀ x ∈ a0, x.Part.length ≤ 20) (hp : ∀ x ∈ a1, x.Instrument.length ≤ 20) (hn : 1000 < n) :
    restore_shelfOf n a0 a1 = some (bif promC a0 a1 != 0 then .inl (promC a0 a1) else .inr (shelfAt a0 a1 a1.length)) := by
  rw [restore_shelfOf, CheckStock_res n a0 hs (by omega)]
  simp only [Option.bind_some]
  unfold promC
  by_cases h0 : stockC a0 = 0
  · have hl := stock_len h0
    simp only [h0, bne_self_eq_false, cond_false]
    by_cases hlen : 200 < a1.length
    · simp [hlen]
    simp only [hlen, decide_false, cond_false, withK_eq]
    have e0 : (0, ([] : List Int)) = (fun v => (v, (a0.take v).map Stocked.Count)) 0 := by simp
    rw [e0, loop_through (st := fun v => (v, (a0.take v).map Stocked.Count)) (len := a0.length) ?_ ?_ n (by omega)]
    · intro back v hv
      rw [restore_shelfOf_L1]
      have hr : room 8 ((a0.take v).map Stocked.Count ++ ([(ix a0 v).Count] : List Int)).length = true := room_of (by simp; omega) (by simp; omega)
      simp only [hv, decide_true, cond_true, hr, chk_t, nI_of (by omega : v + 1 ≤ 9223372036854775807)]
      rw [List.take_succ_eq_append_getElem hv, List.map_append, ix_eq hv]
      rfl
    · intro back
      rw [restore_shelfOf_L1]
      simp only [Nat.lt_irrefl, decide_false, cond_false, List.take_length]
      have e1 : (0, a0.map Stocked.Count) = (fun v => (v, shelfAt a0 a1 v)) 0 := by simp [shelfAt, psum]
      rw [e1, loop_first (st := fun v => (v, shelfAt a0 a1 v)) (E := promE a0 a1) (err := fun e => some (.inl e)) (k := some (.inr (shelfAt a0 a1 a1.length))) (len := a1.length) ?_ ?_ n 0 (by omega) (by omega) (fun j h => by omega)]
      · rw [Nat.sub_zero]
        cases firstE (promE a0 a1) 0 a1.length != 0 <;> rfl
      · intro back v hv hz
        rw [restore_shelfOf_L2]
        simp only [hv, decide_true, cond_true, shelf_take_eq n a0 a1 v h0 hv (hp _ (ix_mem hv)) hz (by omega) hn, Option.bind_some, nI_of (by omega : v + 1 ≤ 9223372036854775807), chk_t]
        cases promE a0 a1 v != 0
        · simp only [cond_false, shelf_len, decide_true, chk_t]
        · simp only [cond_true, decide_true, chk_t]
      · intro back _
        rw [restore_shelfOf_L2]
        simp
  · rw [bne_t h0, cond_true, cond_true, bne_t h0, cond_true]
end
section
set_option maxRecDepth 4000
open Go
theorem promised2_eq (n : Nat) (l : List PartPromise) (m : Nat) (s : Str) (hm : m ≤ l.length) (hl : m ≤ 1000) (hn : 1000 < n) (hb : ∀ x ∈ l.take m, 0 ≤ x.Count ∧ x.Count ≤ 10000) : agrafferef08_promised_2 n l 0 m s = some (psum s (l.take m)) := by
  rw [agrafferef08_promised_2, withK_eq]
  have e0 : ((0 : Int), 0) = (fun v => (psum s (l.take v), v)) 0 := by simp [psum]
  rw [e0, loop_through (st := fun v => (psum s (l.take v), v)) (k := some (psum s (l.take m))) (len := m) ?_ ?_ n (by omega)]
  · intro back v hv
    rw [agrafferef08_promised_2_L1]
    have hv2 : v < l.length := by omega
    have hp := psum_take s l hv2
    have hb2 := psum_bound s (l.take (v + 1)) fun x hx => hb x (by
      rw [show l.take (v + 1) = (l.take m).take (v + 1) by rw [List.take_take, Nat.min_eq_left (by omega)]] at hx
      exact List.mem_of_mem_take hx)
    have hlen : (l.take (v + 1)).length ≤ 1000 := by simp; omega
    simp only [hv, hv2, Nat.zero_add, decide_true, cond_true, withK_eq, nI_of (by omega : v + 1 ≤ 9223372036854775807), chk_t]
    cases e : (ix l v).Part == s with
    | true =>
      rw [e] at hp
      simp only [cond_true] at hp ⊢
      rw [← hp, chk_of (inI_of (by omega) (by omega))]
    | false =>
      rw [e] at hp
      simp only [cond_false, Int.add_zero] at hp ⊢
      rw [hp]
  · intro back
    rw [agrafferef08_promised_2_L1]
    simp
theorem CheckPromises2_ref (n : Nat) (a0 : List Stocked) (a1 : List PartPromise) (hs : ∀ x ∈ a0, x.Part.length ≤ 20) (hp : ∀ x ∈ a1, x.Instrument.length ≤ 20) (hl : a0.length ≤ 1000) (hn : 1000 < n) : agrafferef08_CheckPromises_2 n a0 a1 = some (promC a0 a1) := by
  rw [agrafferef08_CheckPromises_2, CheckStock_ref n a0 hs (by omega), promC]
  simp only [Option.bind_some]
  cases stockC a0 != 0
  · simp only [cond_false]
    by_cases hlen : 200 < a1.length
    · simp [hlen]
    simp only [hlen, decide_false, cond_false, withK_eq]
    rw [loop_first (st := fun v => v) (E := promE a0 a1) (err := some) (k := some 0) (len := a1.length) ?_ ?_ n 0 (by omega) (by omega) (fun j h => by omega)]
    · rw [Nat.sub_zero]; exact bif_id
    · intro back v hv hz
      rw [agrafferef08_CheckPromises_2_L1]
      have h1 := hp _ (ix_mem hv)
      have hI := IsName_eq (ix a1 v).Instrument n (by omega) (by omega)
      have hF := FindStock_eq n a0 (ix a1 v).Part (by omega) (by omega)
      have hle : v + 1 ≤ a1.length := by omega
      simp only [hv, decide_true, cond_true, hI, Option.bind_some, hF, agraffebase_Within, promE]
      cases nameB (ix a1 v).Instrument
      · rfl
      simp only [Bool.not_true, cond_false]
      by_cases h2 : findI (byPart (ix a1 v).Part) a0 < 0
      · simp [h2]
      obtain ⟨f1, f2, f3, f4⟩ := findI_pos h2
      simp only [h2, decide_false, cond_false]
      cases h3 : (decide (1 ≤ (ix a1 v).Count)) && (decide ((ix a1 v).Count ≤ 10000))
      · rfl
      simp only [Bool.and_eq_true, decide_eq_true_eq] at h3
      have hP := promised2_eq n a1 (v + 1) (ix a1 v).Part hle (by omega) hn (fun x hx => by
        rw [List.take_succ_eq_append_getElem hv, List.mem_append] at hx
        rcases hx with hx | hx
        · exact take_bound hz x hx
        · simp only [List.mem_singleton] at hx
          rw [hx, ← ix_eq hv]; omega)
      simp only [Bool.not_true, cond_false, nI_of (by omega : v + 1 ≤ 9223372036854775807), chk_t, hle, decide_true, hP, Option.bind_some, inB_of f1 f2, f2]
      cases decide ((ix a0 (findI (byPart (ix a1 v).Part) a0).toNat).Count < psum (ix a1 v).Part (a1.take (v + 1))) <;> rfl
    · intro back _
      rw [agrafferef08_CheckPromises_2_L1]
      simp
  · simp
theorem all_bound {a0 : List Stocked} {a1 : List PartPromise} (h0 : promC a0 a1 = 0) : stockC a0 = 0 ∧ a1.length ≤ 200 ∧ ∀ j, j < a1.length → promE a0 a1 j = 0 := by
  unfold promC at h0
  by_cases e : stockC a0 = 0
  · simp only [e, bne_self_eq_false, cond_false] at h0
    by_cases hl : 200 < a1.length
    · simp [hl] at h0
    · simp only [hl, decide_false, cond_false] at h0
      exact ⟨e, by omega, fun j hj => firstE_zero h0 j (by omega) (by omega)⟩
  · rw [bne_t e, cond_true] at h0; exact absurd h0 e
def addR (a0 : List Stocked) (a1 : List PartPromise) (a2 : PartPromise) : Int × List PartPromise :=
  bif promC a0 a1 != 0 then (promC a0 a1, []) else bif promC a0 (a1 ++ [a2]) != 0 then (promC a0 (a1 ++ [a2]), []) else (0, a1 ++ [a2])
theorem AddPromise_ref (n : Nat) (a0 : List Stocked) (a1 : List PartPromise) (a2 : PartPromise) (hs : ∀ x ∈ a0, x.Part.length ≤ 20) (hp : ∀ x ∈ a1, x.Instrument.length ≤ 20) (hp2 : a2.Instrument.length ≤ 20) (hl : a0.length ≤ 1000) (hl1 : a1.length ≤ 1000) (hn : 1000 < n) :
    agrafferef08_AddPromise n a0 a1 a2 = some (addR a0 a1 a2) := by
  have hp' : ∀ x ∈ a1 ++ [a2], x.Instrument.length ≤ 20 := by
    intro x hx
    rw [List.mem_append, List.mem_singleton] at hx
    rcases hx with hx | rfl
    · exact hp x hx
    · exact hp2
  rw [agrafferef08_AddPromise, CheckPromises_ref n a0 a1 hs hp hl hn]
  simp only [Option.bind_some, CheckPromises2_ref n a0 (a1 ++ [a2]) hs hp' hl hn, addR]
  rw [chk_of (room_of (by omega) (by omega)), chk_of (room_of (by simp; omega) (by simp; omega))]
  cases promC a0 a1 != 0
  · cases promC a0 (a1 ++ [a2]) != 0 <;> rfl
  · rfl
theorem firstE_last {E : Nat → Int} : ∀ (m v : Nat), (∀ j, v ≤ j → j < v + m → E j = 0) → firstE E v (m + 1) = E (v + m)
  | 0, v, _ => by
    by_cases e : E v = 0
    · simp [firstE, e]
    · simp only [firstE, bne_t e, cond_true, Nat.add_zero]
  | m + 1, v, h => by
    have e := h v (Nat.le_refl _) (by omega)
    rw [firstE, e]
    simp only [bne_self_eq_false, cond_false]
    rw [firstE_last m (v + 1) fun j h1 h2 => h j (by omega) (by omega)]
    congr 1
    omega
theorem ix_append {α : Type} [Inhabited α] {l r : List α} {j : Nat} (h : j < l.length) : ix (l ++ r) j = ix l j := by
  rw [ix_eq (by simp; omega), ix_eq h, List.getElem_append_left]
theorem ix_append_last {α : Type} [Inhabited α] {l : List α} {x : α} : ix (l ++ [x]) l.length = x := by
  rw [ix_eq (by simp)]; simp
theorem promE_append {a0 : List Stocked} {a1 : List PartPromise} {x : PartPromise} {j : Nat} (h : j < a1.length) : promE a0 (a1 ++ [x]) j = promE a0 a1 j := by
  unfold promE
  rw [ix_append h, List.take_append_of_le_length (by omega)]
theorem promC_append {a0 : List Stocked} {a1 : List PartPromise} {a2 : PartPromise} (h0 : promC a0 a1 = 0) : promC a0 (a1 ++ [a2]) = bif decide (a1.length = 200) then 8 else promE a0 (a1 ++ [a2]) a1.length := by
  obtain ⟨e, hl, hz⟩ := all_bound h0
  unfold promC
  simp only [e, bne_self_eq_false, cond_false, List.length_append, List.length_singleton]
  by_cases h : a1.length = 200
  · simp [h]
  · have : ¬ 200 < a1.length + 1 := by omega
    simp only [h, this, decide_false, cond_false]
    rw [firstE_last a1.length 0 fun j _ hj => by rw [promE_append (by omega)]; exact hz j (by omega)]
    rw [Nat.zero_add]
theorem Clone_eq (n : Nat) (l : List PartPromise) (hl : l.length ≤ 1000) : slices_Clone_PartPromise n l = some l := by
  rw [slices_Clone_PartPromise]
  have hr : room 40 l.length = true := room_of (by omega) (by omega)
  cases l with
  | nil => simp [nilK, room]
  | cons x l => simp only [List.isEmpty_cons, nilK, cond_false, hr, chk_t]
theorem AddPromise_res (n : Nat) (a0 : List Stocked) (a1 : List PartPromise) (a2 : PartPromise) (hs : ∀ x ∈ a0, x.Part.length ≤ 20) (hp : ∀ x ∈ a1, x.Instrument.length ≤ 20) (hp2 : a2.Instrument.length ≤ 20) (hl : a0.length ≤ 1000) (hl1 : a1.length ≤ 900) (hn : 1000 < n) :
    restore_AddPromise n a0 a1 a2 = some (addR a0 a1 a2) := by
  rw [restore_AddPromise, shelfOf_eq n a0 a1 hs hp hn]
  simp only [withK_eq, Option.bind_some, addR]
  by_cases h0 : promC a0 a1 = 0
  · obtain ⟨e, hl, hz⟩ := all_bound h0
    rw [promC_append h0]
    simp only [h0, bne_self_eq_false, cond_false]
    by_cases h : a1.length = 200
    · simp [h]
    · simp only [h, decide_false, cond_false]
      have key := shelf_take_eq n a0 (a1 ++ [a2]) a1.length e (by simp) (by rw [ix_append_last]; exact hp2) (fun j hj => by rw [promE_append hj]; exact hz j hj) (by simp; omega) hn
      rw [ix_append_last] at key
      have hsh : shelfAt a0 (a1 ++ [a2]) a1.length = shelfAt a0 a1 a1.length := by
        unfold shelfAt
        rw [List.take_append_of_le_length (Nat.le_refl _)]
      rw [hsh] at key
      rw [key]
      simp only [Option.bind_some]
      have hlen : (shelfAt a0 a1 a1.length).length = (bif promE a0 (a1 ++ [a2]) a1.length != 0 then shelfAt a0 a1 a1.length else shelfAt a0 (a1 ++ [a2]) (a1.length + 1)).length := by
        cases promE a0 (a1 ++ [a2]) a1.length != 0 <;> simp [shelf_len]
      rw [chk_of (decide_eq_true hlen), Clone_eq n a1 (by omega)]
      simp only [Option.bind_some]
      rw [chk_of (room_of (by simp; omega) (by simp; omega))]
      cases promE a0 (a1 ++ [a2]) a1.length != 0 <;> rfl
  · rw [bne_t h0]
    simp only [cond_true, bne_t h0]
theorem CheckPromises_res (n : Nat) (a0 : List Stocked) (a1 : List PartPromise) (hs : ∀ x ∈ a0, x.Part.length ≤ 20) (hp : ∀ x ∈ a1, x.Instrument.length ≤ 20) (hn : 1000 < n) : restore_CheckPromises n a0 a1 = some (promC a0 a1) := by
  rw [restore_CheckPromises, shelfOf_eq n a0 a1 hs hp hn]
  simp only [withK_eq, Option.bind_some]
  by_cases h0 : promC a0 a1 = 0
  · simp [h0]
  · rw [bne_t h0]; rfl
def leftL (a0 : List Stocked) (a1 : List PartPromise) : List PartCount := a0.map fun x => PartCount.mk x.Part (x.Count - psum x.Part a1)
theorem leftL_step (a0 : List Stocked) (a1 : List PartPromise) {v : Nat} (hv : v < a0.length) : leftL (a0.take (v + 1)) a1 = leftL (a0.take v) a1 ++ [PartCount.mk (ix a0 v).Part ((ix a0 v).Count - psum (ix a0 v).Part a1)] := by
  unfold leftL
  rw [List.take_succ_eq_append_getElem hv, List.map_append, ix_eq hv]; rfl
theorem LeftOf_res (n : Nat) (a0 : List Stocked) (a1 : List PartPromise) (hs : ∀ x ∈ a0, x.Part.length ≤ 20) (hp : ∀ x ∈ a1, x.Instrument.length ≤ 20) (hn : 1000 < n) :
    restore_LeftOf n a0 a1 = some (bif promC a0 a1 != 0 then (promC a0 a1, []) else (0, leftL a0 a1)) := by
  rw [restore_LeftOf, shelfOf_eq n a0 a1 hs hp hn]
  simp only [withK_eq, Option.bind_some]
  by_cases h0 : promC a0 a1 = 0
  · obtain ⟨e, hl, hz⟩ := all_bound h0
    have hlen := stock_len e
    simp only [h0, bne_self_eq_false, cond_false]
    have e0 : (([] : List PartCount), 0) = (fun v => (leftL (a0.take v) a1, v)) 0 := by simp [leftL]
    rw [e0, loop_through (st := fun v => (leftL (a0.take v) a1, v)) (k := some (0, leftL a0 a1)) (len := a0.length) ?_ ?_ n (by omega)]
    · intro back v hv
      rw [restore_LeftOf_L1]
      have hv' : v < (shelfAt a0 a1 a1.length).length := by rw [shelf_len]; exact hv
      have hix : ix (shelfAt a0 a1 a1.length) v = (ix a0 v).Count - psum (ix a0 v).Part a1 := by
        rw [shelfAt, ix_map hv, List.take_length]
      simp only [hv, hv', decide_true, cond_true, chk_t, hix, nI_of (by omega : v + 1 ≤ 9223372036854775807)]
      rw [← leftL_step a0 a1 hv, chk_of (room_of (by simp [leftL]; omega) (by simp [leftL]; omega))]
    · intro back
      rw [restore_LeftOf_L1]
      simp [shelf_len]
  · rw [bne_t h0]
    simp only [cond_true, bne_t h0]
theorem LeftOf_ref (n : Nat) (a0 : List Stocked) (a1 : List PartPromise) (h0 : promC a0 a1 = 0) (hn : 1000 < n) :
    agrafferef08_LeftOf n a0 a1 = some (leftL a0 a1) := by
  obtain ⟨e, hl, hz⟩ := all_bound h0
  have hlen := stock_len e
  have hb1 : ∀ x ∈ a1, 0 ≤ x.Count ∧ x.Count ≤ 10000 := by have := take_bound hz; simpa using this
  rw [agrafferef08_LeftOf, withK_eq]
  have e0 : (([] : List PartCount), 0) = (fun v => (leftL (a0.take v) a1, v)) 0 := by simp [leftL]
  rw [e0, loop_through (st := fun v => (leftL (a0.take v) a1, v)) (k := some (leftL a0 a1)) (len := a0.length) ?_ ?_ n (by omega)]
  · intro back v hv
    rw [agrafferef08_LeftOf_L1]
    have hc := stock_count e hv
    have hb := psum_bound (ix a0 v).Part a1 hb1
    simp only [hv, decide_true, cond_true, promised_eq n a1 (ix a0 v).Part (by omega) hn hb1, Option.bind_some, nI_of (by omega : v + 1 ≤ 9223372036854775807), chk_t]
    rw [← leftL_step a0 a1 hv, chk_of (inI_of (by omega) (by omega)), chk_of (room_of (by simp [leftL]; omega) (by simp [leftL]; omega))]
  · intro back
    rw [agrafferef08_LeftOf_L1]
    simp
theorem psum_le {a0 : List Stocked} {a1 : List PartPromise} (h0 : promC a0 a1 = 0) {i : Nat} (hi : i < a0.length) : psum (ix a0 i).Part a1 ≤ (ix a0 i).Count := by
  obtain ⟨e, hl, hz⟩ := all_bound h0
  have : ∀ v, v ≤ a1.length → psum (ix a0 i).Part (a1.take v) ≤ (ix a0 i).Count := by
    intro v
    induction v with
    | zero => intro _; have := stock_count e hi; simp [psum]; omega
    | succ v ih =>
      intro hv
      rw [psum_take _ _ (by omega)]
      cases h : (ix a1 v).Part == (ix a0 i).Part with
      | false => simp only [cond_false, Int.add_zero]; exact ih (by omega)
      | true =>
        have hp : (ix a1 v).Part = (ix a0 i).Part := eq_of_beq h
        obtain ⟨g1, g2, g3, g4⟩ := promE_zero (hz v (by omega))
        obtain ⟨f1, f2, f3, f4⟩ := findI_pos g1
        have hpart : (ix a0 (findI (byPart (ix a1 v).Part) a0).toNat).Part = (ix a1 v).Part := eq_of_beq f3
        have hii : (findI (byPart (ix a1 v).Part) a0).toNat = i := by
          rcases Nat.lt_trichotomy (findI (byPart (ix a1 v).Part) a0).toNat i with q | q | q
          · have := stock_unique e q hi
            rw [hpart, hp] at this; simp at this
          · exact q
          · have := stock_unique e q f2
            rw [hpart, hp] at this; simp at this
        rw [hii, hp] at g4
        rw [psum_take _ _ (by omega), h] at g4
        exact g4
  have := this a1.length (Nat.le_refl _)
  rwa [List.take_length] at this
theorem stocked_law {n : Nat} {a0 : List Stocked} (hn : 1000 < n) (h : agraffelaw08_stocked n a0 = some true) : a0.length ≤ 63 ∧ ∀ x ∈ a0, x.Part.length ≤ 20 := by
  rw [agraffelaw08_stocked] at h
  by_cases hl : (((decide (8 < a0.length)) && (decide (a0.length ≤ 60))) || (decide (63 < a0.length))) = true
  · rw [hl] at h; cases h
  · rw [Bool.not_eq_true] at hl
    rw [hl, cond_false, withK_eq] at h
    simp only [Bool.or_eq_false_iff, decide_eq_false_iff_not] at hl
    rw [loop_any (l := a0) (p := fun x => decide (20 < x.Part.length)) (bad := some false) (no := some true) (fun back v => by rw [agraffelaw08_stocked_L1]) n (by omega) (by omega)] at h
    refine ⟨by omega, fun x hx => ?_⟩
    cases ha : a0.any (fun x => decide (20 < x.Part.length))
    · rw [List.any_eq_false] at ha
      have := ha x hx
      simp at this; omega
    · rw [ha] at h; cases h
theorem stocked_some {n : Nat} {a0 : List Stocked} (hn : 1000 < n) : ∃ b, agraffelaw08_stocked n a0 = some b := by
  rw [agraffelaw08_stocked]
  by_cases hl : (((decide (8 < a0.length)) && (decide (a0.length ≤ 60))) || (decide (63 < a0.length))) = true
  · exact ⟨false, by rw [hl]; rfl⟩
  · rw [Bool.not_eq_true] at hl
    rw [hl, cond_false, withK_eq]
    simp only [Bool.or_eq_false_iff, decide_eq_false_iff_not] at hl
    rw [loop_any (l := a0) (p := fun x => decide (20 < x.Part.length)) (bad := some false) (no := some true) (fun back v => by rw [agraffelaw08_stocked_L1]) n (by omega) (by omega)]
    cases a0.any (fun x => decide (20 < x.Part.length)) <;> exact ⟨_, rfl⟩
theorem promised_law {n : Nat} {a0 : List PartPromise} (hn : 1000 < n) (h : agraffelaw08_promised n a0 = some true) : a0.length ≤ 203 ∧ ∀ x ∈ a0, x.Instrument.length ≤ 20 ∧ x.Part.length ≤ 20 := by
  rw [agraffelaw08_promised] at h
  by_cases hl : (((decide (12 < a0.length)) && (decide (a0.length ≤ 200))) || (decide (203 < a0.length))) = true
  · rw [hl] at h; cases h
  · rw [Bool.not_eq_true] at hl
    rw [hl, cond_false, withK_eq] at h
    simp only [Bool.or_eq_false_iff, decide_eq_false_iff_not] at hl
    rw [loop_any (l := a0) (p := fun x => (decide (20 < x.Instrument.length)) || (decide (20 < x.Part.length))) (bad := some false) (no := some true) (fun back v => by rw [agraffelaw08_promised_L1]) n (by omega) (by omega)] at h
    refine ⟨by omega, fun x hx => ?_⟩
    cases ha : a0.any (fun x => (decide (20 < x.Instrument.length)) || (decide (20 < x.Part.length)))
    · rw [List.any_eq_false] at ha
      have := ha x hx
      simp at this; omega
    · rw [ha] at h; cases h
theorem promised_some {n : Nat} {a0 : List PartPromise} (hn : 1000 < n) : ∃ b, agraffelaw08_promised n a0 = some b := by
  rw [agraffelaw08_promised]
  by_cases hl : (((decide (12 < a0.length)) && (decide (a0.length ≤ 200))) || (decide (203 < a0.length))) = true
  · exact ⟨false, by rw [hl]; rfl⟩
  · rw [Bool.not_eq_true] at hl
    rw [hl, cond_false, withK_eq]
    simp only [Bool.or_eq_false_iff, decide_eq_false_iff_not] at hl
    rw [loop_any (l := a0) (p := fun x => (decide (20 < x.Instrument.length)) || (decide (20 < x.Part.length))) (bad := some false) (no := some true) (fun back v => by rw [agraffelaw08_promised_L1]) n (by omega) (by omega)]
    cases a0.any (fun x => (decide (20 < x.Instrument.length)) || (decide (20 < x.Part.length))) <;> exact ⟨_, rfl⟩
theorem sameCounts_refl (n : Nat) (l : List PartCount) (hn : l.length < n) (hl : l.length < 9223372036854775807) : agraffelaw08_sameCounts n l l = some true := by
  rw [agraffelaw08_sameCounts]
  simp only [decide_true, Bool.not_true, cond_false, withK_eq]
  refine loop_through (st := fun v => v) (len := l.length) (fun back v hv => ?_) (fun back => ?_) n hn
  · rw [agraffelaw08_sameCounts_L1]
    simp [hv, nI_of (by omega : v + 1 ≤ 9223372036854775807)]
  · rw [agraffelaw08_sameCounts_L1]
    simp
theorem samePromises_refl (n : Nat) (l : List PartPromise) (hn : l.length < n) (hl : l.length < 9223372036854775807) : agraffelaw08_samePromises n l l = some true := by
  rw [agraffelaw08_samePromises]
  simp only [decide_true, Bool.not_true, cond_false, withK_eq]
  refine loop_through (st := fun v => v) (len := l.length) (fun back v hv => ?_) (fun back => ?_) n hn
  · rw [agraffelaw08_samePromises_L1]
    simp [hv, nI_of (by omega : v + 1 ≤ 9223372036854775807)]
  · rw [agraffelaw08_samePromises_L1]
    simp
theorem sum_loop (n : Nat) (a0 : List Stocked) (a1 : List PartPromise) (i : Nat) (x0 : Int) (k : Int → Option Bool) (hb : ∀ x ∈ a1, 0 ≤ x.Count ∧ x.Count ≤ 10000) (hl : a1.length ≤ 1000) (hx : -100000000 ≤ x0 ∧ x0 ≤ 100000000) (hn : 1000 < n) :
    loopN (agraffelaw08_RestorePromises_L1 a0 a1 i k) n (x0, 0) = k (x0 + psum (ix a0 i).Part a1) := by
  have e0 : (x0, 0) = (fun v => (x0 + psum (ix a0 i).Part (a1.take v), v)) 0 := by simp [psum]
  rw [e0, loop_through (st := fun v => (x0 + psum (ix a0 i).Part (a1.take v), v)) (k := k (x0 + psum (ix a0 i).Part a1)) (len := a1.length) ?_ ?_ n (by omega)]
  · intro back v hv
    rw [agraffelaw08_RestorePromises_L1]
    have hp := psum_take (ix a0 i).Part a1 hv
    have hb2 := psum_bound (ix a0 i).Part (a1.take (v + 1)) fun x hx => hb x (List.mem_of_mem_take hx)
    have hlen : (a1.take (v + 1)).length ≤ 1000 := by simp; omega
    simp only [hv, decide_true, cond_true, withK_eq, nI_of (by omega : v + 1 ≤ 9223372036854775807), chk_t]
    cases e : (ix a1 v).Part == (ix a0 i).Part with
    | true =>
      rw [e] at hp
      simp only [cond_true] at hp ⊢
      rw [Int.add_assoc, ← hp, chk_of (inI_of (by omega) (by omega))]
    | false =>
      rw [e] at hp
      simp only [cond_false, Int.add_zero] at hp ⊢
      rw [hp]
  · intro back
    rw [agraffelaw08_RestorePromises_L1]
    simp
theorem law_loop (n : Nat) (a0 : List Stocked) (a1 : List PartPromise) (h0 : promC a0 a1 = 0) (hn : 1000 < n) :
    loopN (agraffelaw08_RestorePromises_L2 n a0 a1 (0, leftL a0 a1) fun _ => some true) n 0 = some true := by
  obtain ⟨e, hl, hz⟩ := all_bound h0
  have hlen := stock_len e
  have hb1 : ∀ x ∈ a1, 0 ≤ x.Count ∧ x.Count ≤ 10000 := by have := take_bound hz; simpa using this
  refine loop_through (st := fun v => v) (len := a0.length) (fun back v hv => ?_) (fun back => ?_) n (by omega)
  · rw [agraffelaw08_RestorePromises_L2]
    have hv' : v < (leftL a0 a1).length := by simpa [leftL] using hv
    have hix : (ix (leftL a0 a1) v).Count = (ix a0 v).Count - psum (ix a0 v).Part a1 := by
      rw [leftL, ix_map hv]
    have hc := stock_count e hv
    have hb := psum_bound (ix a0 v).Part a1 hb1
    have hle := psum_le h0 hv
    simp only [hv, hv', decide_true, cond_true, chk_t, withK_eq, hix, nI_of (by omega : v + 1 ≤ 9223372036854775807)]
    rw [sum_loop n a0 a1 v _ _ hb1 (by omega) (by omega) hn]
    have h1 : (ix a0 v).Count - psum (ix a0 v).Part a1 + psum (ix a0 v).Part a1 = (ix a0 v).Count := by omega
    have h2 : ¬ (ix a0 v).Count - psum (ix a0 v).Part a1 < 0 := by omega
    simp only [h1, h2, bne_self_eq_false, decide_false, Bool.or_self, cond_false]
  · rw [agraffelaw08_RestorePromises_L2]
    simp
theorem pure_RestorePromises (a0 : List Stocked) (a1 : List PartPromise) (a2 : PartPromise) : agraffelaw08_RestorePromises 2000 a0 a1 a2 = some true := by
  rw [agraffelaw08_RestorePromises]
  simp only [agraffelaw08_awake, Option.bind_some, Bool.not_true, cond_false, withK_eq]
  obtain ⟨b, hb⟩ := stocked_some (n := 2000) (a0 := a0) (by omega)
  obtain ⟨c, hc⟩ := promised_some (n := 2000) (a0 := a1) (by omega)
  obtain ⟨d, hd⟩ := promised_some (n := 2000) (a0 := [a2]) (by omega)
  simp only [hb, hc, hd, gcall_some_, Option.bind_some]
  cases b
  · simp
  cases c
  · simp
  cases d
  · simp
  obtain ⟨l0, s0⟩ := stocked_law (by omega) hb
  obtain ⟨l1, s1⟩ := promised_law (by omega) hc
  obtain ⟨_, s2⟩ := promised_law (by omega) hd
  have s2 : a2.Instrument.length ≤ 20 := (s2 a2 (by simp)).1
  have hr0 : room 32 a0.length = true := room_of (by omega) (by omega)
  have hr1 : room 40 a1.length = true := room_of (by omega) (by omega)
  have s1' : ∀ x ∈ a1, x.Instrument.length ≤ 20 := fun x hx => (s1 x hx).1
  simp only [Bool.not_true, Bool.not_false, cond_true, cond_false, Bool.or_self, agraffelaw08_stock, agraffelaw08_promises, hr0, hr1, chk_t, Option.bind_some,
    AddPromise_res 2000 a0 a1 a2 s0 s1' s2 (by omega) (by omega) (by omega), AddPromise_ref 2000 a0 a1 a2 s0 s1' s2 (by omega) (by omega) (by omega),
    LeftOf_res 2000 a0 a1 s0 s1' (by omega), CheckPromises_ref 2000 a0 a1 s0 s1' (by omega) (by omega), CheckPromises_res 2000 a0 a1 s0 s1' (by omega), bne_self_eq_false]
  have hlen : (addR a0 a1 a2).2.length ≤ 204 := by
    unfold addR
    cases promC a0 a1 != 0
    · cases promC a0 (a1 ++ [a2]) != 0
      · simp; omega
      · simp
    · simp
  rw [samePromises_refl 2000 _ (by omega) (by omega)]
  by_cases h0 : promC a0 a1 = 0
  · have hl := stock_len (all_bound h0).1
    simp only [h0, bne_self_eq_false, cond_false, LeftOf_ref 2000 a0 a1 h0 (by omega), Option.bind_some, gcall_some_, Bool.not_false, Bool.not_true, cond_true, Bool.or_self, Bool.false_or]
    rw [sameCounts_refl 2000 _ (by simp [leftL]; omega) (by simp [leftL]; omega)]
    simp only [gcall_some_, Option.bind_some, cond_true, Bool.not_true, cond_false]
    exact law_loop 2000 a0 a1 h0 (by omega)
  · simp [bne_t h0]
end
end Go.Proofs.YtcdcpambkdlhjaaGreat.As
