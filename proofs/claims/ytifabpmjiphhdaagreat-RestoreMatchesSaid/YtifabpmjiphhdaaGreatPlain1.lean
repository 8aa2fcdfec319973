/- What the functions compute, on plain data, and what follows from it, part 1: no condition. -/
import Derived.Test.YtifabpmjiphhdaaGreatGround3
namespace Go.Proofs.YtifabpmjiphhdaaGreat.As
open Go
section
set_option maxRecDepth 4000
open Go
structure PartCount where
  Part : Str
  Count : Int
  deriving Inhabited, DecidableEq
structure Task where
  Name : Str
  Cents : Int
  Hours : Int
  Needs : List Str
  OneOf : List (List Str)
  Parts : List PartCount
  deriving Inhabited, DecidableEq
structure Range where
  Lo : Int
  Hi : Int
  deriving Inhabited, DecidableEq
def eRange (x : Range) : V := .agg [vi x.Lo, vi x.Hi]
theorem eRange_frzE (x : Range) : frzE (eRange x) = true := rfl
structure WantedPart where
  Name : Str
  Ranges : List Range
  deriving Inhabited, DecidableEq
def eWantedPart (x : WantedPart) : V := .agg [vt x.Name, eS 2 eRange x.Ranges]
theorem eWantedPart_frz (x : WantedPart) : (eWantedPart x).frz = true := rfl
theorem eWantedPart_frzE (x : WantedPart) : frzE (eWantedPart x) = true := rfl
structure OfferedPart where
  Name : Str
  Sizes : List Int
  deriving Inhabited, DecidableEq
def eOfferedPart (x : OfferedPart) : V := .agg [vt x.Name, eS 1 vi x.Sizes]
theorem eOfferedPart_frz (x : OfferedPart) : (eOfferedPart x).frz = true := rfl
theorem eOfferedPart_frzE (x : OfferedPart) : frzE (eOfferedPart x) = true := rfl
structure Arr2_ListInt where
  a0 : List Int
  a1 : List Int
  deriving Inhabited, DecidableEq
def agraffelaw08_awake (n : Nat) : Option Bool := some true
def restore_isName_L1 (a0 : Str) (k1 : (Unit → Option Bool)) (back : Nat → Option Bool) : Nat → Option Bool
  | v1 =>
  bif decide (v1 < a0.length) then
    bif (!(((decide ((97 : Int) ≤ (((ix a0 v1).toNat : Nat) : Int))) && (decide ((((ix a0 v1).toNat : Nat) : Int) ≤ (122 : Int)))) || ((decide ((65 : Int) ≤ (((ix a0 v1).toNat : Nat) : Int))) && (decide ((((ix a0 v1).toNat : Nat) : Int) ≤ (90 : Int)))))) && ((decide (v1 = 0)) || (((((ix a0 v1).toNat : Nat) : Int) != (45 : Int)) && ((decide ((((ix a0 v1).toNat : Nat) : Int) < (48 : Int))) || (decide ((57 : Int) < (((ix a0 v1).toNat : Nat) : Int)))))) then
      some false
    else
      chk (nI (v1 + 1)) <|
      back (v1 + 1)
  else
    k1 ()
def restore_isName (n : Nat) (a0 : Str) : Option Bool :=
  withK (fun (_ : Unit) =>
      some ((!(a0 == ([] : Str))) && (decide (a0.length ≤ 12)))) fun k1 =>
  loopN (restore_isName_L1 a0 k1) n 0
def restore_within (n : Nat) (a0 : Int) (a1 : Int) (a2 : Int) : Option Unit :=
  some ()
def agraffebase_isLetter (n : Nat) (a0 : Int) : Option Unit :=
  some ()
def agraffebase_isDigit (n : Nat) (a0 : Int) : Option Unit :=
  some ()
def agraffebase_IsName_L1 (n : Nat) (a0 : Str) (k1 : (Unit → Option Bool)) (back : Nat → Option Bool) : Nat → Option Bool
  | v4 =>
  bif decide (v4 < a0.length) then
    (agraffebase_isLetter n (((List.getD a0 v4 0).toNat : Nat) : Int)).bind fun y5 =>
    (gcall (!(((decide ((97 : Int) ≤ (((List.getD a0 v4 0).toNat : Nat) : Int))) && (decide ((((List.getD a0 v4 0).toNat : Nat) : Int) ≤ (122 : Int)))) || ((decide ((65 : Int) ≤ (((List.getD a0 v4 0).toNat : Nat) : Int))) && (decide ((((List.getD a0 v4 0).toNat : Nat) : Int) ≤ (90 : Int)))))) (agraffebase_isDigit n (((List.getD a0 v4 0).toNat : Nat) : Int))).bind fun y6 =>
    bif ((!(((decide ((97 : Int) ≤ (((List.getD a0 v4 0).toNat : Nat) : Int))) && (decide ((((List.getD a0 v4 0).toNat : Nat) : Int) ≤ (122 : Int)))) || ((decide ((65 : Int) ≤ (((List.getD a0 v4 0).toNat : Nat) : Int))) && (decide ((((List.getD a0 v4 0).toNat : Nat) : Int) ≤ (90 : Int)))))) && (!((decide ((48 : Int) ≤ (((List.getD a0 v4 0).toNat : Nat) : Int))) && (decide ((((List.getD a0 v4 0).toNat : Nat) : Int) ≤ (57 : Int)))))) && ((((List.getD a0 v4 0).toNat : Nat) : Int) != (45 : Int)) then
      some false
    else
      chk (nI (v4 + 1)) <|
      back (v4 + 1)
  else
    k1 ()
def agraffebase_IsName (n : Nat) (a0 : Str) : Option Bool :=
  chk (!(!((decide (a0.length = 0)) || (decide (12 < a0.length)))) || decide (0 < a0.length)) <|
  (gcall (!((decide (a0.length = 0)) || (decide (12 < a0.length)))) (agraffebase_isLetter n (((List.getD a0 0 0).toNat : Nat) : Int))).bind fun y1 =>
  bif ((decide (a0.length = 0)) || (decide (12 < a0.length))) || (!(((decide ((97 : Int) ≤ (((List.getD a0 0 0).toNat : Nat) : Int))) && (decide ((((List.getD a0 0 0).toNat : Nat) : Int) ≤ (122 : Int)))) || ((decide ((65 : Int) ≤ (((List.getD a0 0 0).toNat : Nat) : Int))) && (decide ((((List.getD a0 0 0).toNat : Nat) : Int) ≤ (90 : Int)))))) then
    some false
  else
    withK (fun (_ : Unit) =>
        some true) fun k1 =>
    loopN (agraffebase_IsName_L1 n a0 k1) n 0
def agraffebase_Within (n : Nat) (a0 : Int) (a1 : Int) (a2 : Int) : Option Unit :=
  some ()
def agraffebase_HasText_2_L1 (a0 : List Str) (a1 : Str) (k1 : (Unit → Option Bool)) (back : Nat → Option Bool) : Nat → Option Bool
  | v1 =>
  bif decide (v1 < a0.length) then
    bif ((ix a0 v1) == a1) then
      some true
    else
      chk (nI (v1 + 1)) <|
      back (v1 + 1)
  else
    k1 ()
def agraffebase_HasText_2 (n : Nat) (a0 : List Str) (a1 : Str) : Option Bool :=
  withK (fun (_ : Unit) =>
      some false) fun k1 =>
  loopN (agraffebase_HasText_2_L1 a0 a1 k1) n 0
def agraffelaw08_places_L2 (a1 : List OfferedPart) (k2 : (Unit → Option Bool)) (back : Nat → Option Bool) : Nat → Option Bool
  | v2 =>
  bif decide (v2 < a1.length) then
    bif (decide (20 < (((ix a1 v2).Name).length))) || (decide (8 < (((ix a1 v2).Sizes).length))) then
      some false
    else
      chk (nI (v2 + 1)) <|
      back (v2 + 1)
  else
    k2 ()
def agraffelaw08_places_L1 (a0 : List WantedPart) (k1 : (Unit → Option Bool)) (back : Nat → Option Bool) : Nat → Option Bool
  | v1 =>
  bif decide (v1 < a0.length) then
    bif (decide (20 < (((ix a0 v1).Name).length))) || (decide (8 < (((ix a0 v1).Ranges).length))) then
      some false
    else
      chk (nI (v1 + 1)) <|
      back (v1 + 1)
  else
    k1 ()
def agraffelaw08_places (n : Nat) (a0 : List WantedPart) (a1 : List OfferedPart) : Option Bool :=
  bif ((((decide (8 < a0.length)) && (decide (a0.length ≤ 40))) || (decide (43 < a0.length))) || ((decide (8 < a1.length)) && (decide (a1.length ≤ 40)))) || (decide (43 < a1.length)) then
    some false
  else
    withK (fun (_ : Unit) =>
        withK (fun (_ : Unit) =>
            some true) fun k2 =>
        loopN (agraffelaw08_places_L2 a1 k2) n 0) fun k1 =>
    loopN (agraffelaw08_places_L1 a0 k1) n 0
def agraffelaw08_wanted_L1 (k1 : ((List WantedPart) → Option (List WantedPart))) (back : Nat × (List WantedPart) → Option (List WantedPart)) : Nat × (List WantedPart) → Option (List WantedPart)
  | (v1, v2) =>
  bif decide (v1 < v2.length) then
    chk (room 16 ((ix v2 v1).Ranges).length) <|
    chk (nI (v1 + 1)) <|
    back (v1 + 1, (List.set v2 v1 (ix v2 v1)))
  else
    k1 v2
def agraffelaw08_wanted (n : Nat) (a0 : List WantedPart) : Option (List WantedPart) :=
  chk (room 40 a0.length) <|
  withK (fun (v3 : (List WantedPart)) =>
      some v3) fun k1 =>
  loopN (agraffelaw08_wanted_L1 k1) n (0, a0)
def agraffebase_CopyInts (n : Nat) (a0 : List Int) : Option Unit :=
  chk (room 8 a0.length) <|
  some ()
def agraffelaw08_offered_L1 (n : Nat) (k1 : ((List OfferedPart) → Option (List OfferedPart))) (back : Nat × (List OfferedPart) → Option (List OfferedPart)) : Nat × (List OfferedPart) → Option (List OfferedPart)
  | (v2, v3) =>
  bif decide (v2 < v3.length) then
    (agraffebase_CopyInts n ((ix v3 v2).Sizes)).bind fun y4 =>
    chk (nI (v2 + 1)) <|
    back (v2 + 1, (List.set v3 v2 (ix v3 v2)))
  else
    k1 v3
def agraffelaw08_offered (n : Nat) (a0 : List OfferedPart) : Option (List OfferedPart) :=
  chk (room 40 a0.length) <|
  withK (fun (v5 : (List OfferedPart)) =>
      some v5) fun k1 =>
  loopN (agraffelaw08_offered_L1 n k1) n (0, a0)
def agraffebase_CopyInts_2 (n : Nat) (a0 : List Int) : Option Unit :=
  chk (room 8 a0.length) <|
  some ()
def restore_checkBoth_f1 (n : Nat) (a0 : WantedPart) : Option Unit :=
  some ()
def restore_checkRanges_f1 (n : Nat) (a0 : Range) : Option Unit :=
  some ()
def slices_IndexFunc_Range_L1 (n : Nat) (a0 : List Range) (k1 : (Unit → Option Int)) (back : Nat → Option Int) : Nat → Option Int
  | v2 =>
  bif decide (v2 < a0.length) then
    (restore_checkRanges_f1 n (ix a0 v2)).bind fun y3 =>
    bif ((decide ((ix a0 v2).Lo < (0 : Int))) || (decide ((ix a0 v2).Hi < (ix a0 v2).Lo))) || (decide ((1000000 : Int) < (ix a0 v2).Hi)) then
      some ((v2 : Nat) : Int)
    else
      chk (nI (v2 + 1)) <|
      back (v2 + 1)
  else
    k1 ()
def slices_IndexFunc_Range (n : Nat) (a0 : List Range) : Option Int :=
  withK (fun (_ : Unit) =>
      some (-1)) fun k1 =>
  loopN (slices_IndexFunc_Range_L1 n a0 k1) n 0
def slices_ContainsFunc_Range (n : Nat) (a0 : List Range) : Option Bool :=
  (slices_IndexFunc_Range n a0).bind fun y1 =>
  some (decide ((0 : Int) ≤ y1))
def restore_checkRanges (n : Nat) (a0 : WantedPart) : Option Int :=
  (restore_within n ((a0.Ranges.length : Nat) : Int) 1 6).bind fun y1 =>
  bif !((decide (1 ≤ ((a0.Ranges.length : Nat) : Int))) && (decide (((a0.Ranges.length : Nat) : Int) ≤ 6))) then
    some 10
  else
    (slices_ContainsFunc_Range n a0.Ranges).bind fun y2 =>
    bif y2 then
      some 2
    else
      some 0
def restore_named_WantedPart_L1 (n : Nat) (a0 : List WantedPart) (k1 : (Unit → Option Int)) (back : Nat × (List (Str × Bool)) → Option Int) : Nat × (List (Str × Bool)) → Option Int
  | (v4, v5) =>
  bif decide (v4 < a0.length) then
    (restore_checkBoth_f1 n (ix a0 v4)).bind fun y6 =>
    (restore_isName n ((ix a0 v4).Name)).bind fun y7 =>
    bif !y7 then
      some 4
    else
      bif (Option.getD (List.lookup ((ix a0 v4).Name) v5) false) then
        some 5
      else
        (restore_checkRanges n (ix a0 v4)).bind fun y8 =>
        bif (y8 != (0 : Int)) then
          some y8
        else
          chk (nI (v4 + 1)) <|
          back (v4 + 1, (mPut ((ix a0 v4).Name) true v5))
  else
    k1 ()
def restore_named_WantedPart (n : Nat) (a0 : List WantedPart) (a1 : Int) : Option Int :=
  bif decide (a1 < ((a0.length : Nat) : Int)) then
    some 8
  else
    withK (fun (_ : Unit) =>
        some 0) fun k1 =>
    loopN (restore_named_WantedPart_L1 n a0 k1) n (0, ([] : List (Str × Bool)))
def restore_checkBoth_f2 (n : Nat) (a0 : OfferedPart) : Option Unit :=
  some ()
def restore_checkSizes_f1 (n : Nat) (a0 : Int) : Option Unit :=
  (restore_within n a0 0 1000000).bind fun y1 =>
  some ()
def slices_IndexFunc_int_L1 (n : Nat) (a0 : List Int) (k1 : (Unit → Option Int)) (back : Nat → Option Int) : Nat → Option Int
  | v2 =>
  bif decide (v2 < a0.length) then
    (restore_checkSizes_f1 n (ix a0 v2)).bind fun y3 =>
    bif !((decide (0 ≤ (ix a0 v2))) && (decide ((ix a0 v2) ≤ 1000000))) then
      some ((v2 : Nat) : Int)
    else
      chk (nI (v2 + 1)) <|
      back (v2 + 1)
  else
    k1 ()
def slices_IndexFunc_int (n : Nat) (a0 : List Int) : Option Int :=
  withK (fun (_ : Unit) =>
      some (-1)) fun k1 =>
  loopN (slices_IndexFunc_int_L1 n a0 k1) n 0
def slices_ContainsFunc_int (n : Nat) (a0 : List Int) : Option Bool :=
  (slices_IndexFunc_int n a0).bind fun y1 =>
  some (decide ((0 : Int) ≤ y1))
def restore_checkSizes (n : Nat) (a0 : OfferedPart) : Option Int :=
  (restore_within n ((a0.Sizes.length : Nat) : Int) 1 6).bind fun y1 =>
  bif !((decide (1 ≤ ((a0.Sizes.length : Nat) : Int))) && (decide (((a0.Sizes.length : Nat) : Int) ≤ 6))) then
    some 10
  else
    (slices_ContainsFunc_int n a0.Sizes).bind fun y2 =>
    bif y2 then
      some 2
    else
      some 0
def restore_named_OfferedPart_L1 (n : Nat) (a0 : List OfferedPart) (k1 : (Unit → Option Int)) (back : Nat × (List (Str × Bool)) → Option Int) : Nat × (List (Str × Bool)) → Option Int
  | (v4, v5) =>
  bif decide (v4 < a0.length) then
    (restore_checkBoth_f2 n (ix a0 v4)).bind fun y6 =>
    (restore_isName n ((ix a0 v4).Name)).bind fun y7 =>
    bif !y7 then
      some 4
    else
      bif (Option.getD (List.lookup ((ix a0 v4).Name) v5) false) then
        some 5
      else
        (restore_checkSizes n (ix a0 v4)).bind fun y8 =>
        bif (y8 != (0 : Int)) then
          some y8
        else
          chk (nI (v4 + 1)) <|
          back (v4 + 1, (mPut ((ix a0 v4).Name) true v5))
  else
    k1 ()
def restore_named_OfferedPart (n : Nat) (a0 : List OfferedPart) (a1 : Int) : Option Int :=
  bif decide (a1 < ((a0.length : Nat) : Int)) then
    some 8
  else
    withK (fun (_ : Unit) =>
        some 0) fun k1 =>
    loopN (restore_named_OfferedPart_L1 n a0 k1) n (0, ([] : List (Str × Bool)))
def restore_checkBoth (n : Nat) (a0 : List WantedPart) (a1 : List OfferedPart) : Option Int :=
  (restore_named_WantedPart n a0 40).bind fun y1 =>
  bif (y1 != (0 : Int)) then
    some y1
  else
    (restore_named_OfferedPart n a1 40).bind fun y2 =>
    some y2
def restore_fits_L1 (n : Nat) (a0 : WantedPart) (a1 : OfferedPart) (k1 : (Unit → Option Bool)) (back : Nat → Option Bool) : Nat → Option Bool
  | v2 =>
  bif decide (v2 < a0.Ranges.length) then
    chk (decide (v2 < a1.Sizes.length)) <|
    (restore_within n (ix a1.Sizes v2) ((ix a0.Ranges v2).Lo) ((ix a0.Ranges v2).Hi)).bind fun y3 =>
    bif !((decide (((ix a0.Ranges v2).Lo) ≤ (ix a1.Sizes v2))) && (decide ((ix a1.Sizes v2) ≤ ((ix a0.Ranges v2).Hi)))) then
      some false
    else
      chk (nI (v2 + 1)) <|
      back (v2 + 1)
  else
    k1 ()
def restore_fits (n : Nat) (a0 : WantedPart) (a1 : OfferedPart) : Option Bool :=
  bif !decide (a0.Ranges.length = a1.Sizes.length) then
    some false
  else
    withK (fun (_ : Unit) =>
        some true) fun k1 =>
    loopN (restore_fits_L1 n a0 a1 k1) n 0
def slices_Index_int_L1 (a0 : List Int) (a1 : Int) (k1 : (Unit → Option Int)) (back : Nat → Option Int) : Nat → Option Int
  | v1 =>
  bif decide (v1 < a0.length) then
    bif (a1 == (ix a0 v1)) then
      some ((v1 : Nat) : Int)
    else
      chk (nI (v1 + 1)) <|
      back (v1 + 1)
  else
    k1 ()
def slices_Index_int (n : Nat) (a0 : List Int) (a1 : Int) : Option Int :=
  withK (fun (_ : Unit) =>
      some (-1)) fun k1 =>
  loopN (slices_Index_int_L1 a0 a1 k1) n 0
def slices_Contains_int (n : Nat) (a0 : List Int) (a1 : Int) : Option Bool :=
  (slices_Index_int n a0 a1).bind fun y1 =>
  some (decide ((0 : Int) ≤ y1))
def restore_CheckMatch_L1 (n : Nat) (a0 : List WantedPart) (a1 : List OfferedPart) (a2 : List Int) (k2 : (Nat → Option (Int × Int))) (back : Nat × Nat → Option (Int × Int)) : Nat × Nat → Option (Int × Int)
  | (v6, v7) =>
  bif decide (v7 < a2.length) then
    withK (fun (v11 : Nat) =>
        chk (nI (v7 + 1)) <|
        back (v11, v7 + 1)) fun k1 =>
    bif ((ix a2 v7) == ((-1) : Int)) then
      k1 v6
    else
      chk (inI (((a1.length : Nat) : Int) - 1)) <|
      (restore_within n (ix a2 v7) 0 (((a1.length : Nat) : Int) - 1)).bind fun y8 =>
      bif !((decide (0 ≤ (ix a2 v7))) && (decide ((ix a2 v7) ≤ (((a1.length : Nat) : Int) - 1)))) then
        some (6, 0)
      else
        chk (decide (v7 < a0.length)) <|
        chk (inB (ix a2 v7) a1.length) <|
        chk (decide ((ix a2 v7).toNat < a1.length)) <|
        (restore_fits n (ix a0 v7) (ix a1 ((ix a2 v7).toNat))).bind fun y9 =>
        bif !y9 then
          some (15, 0)
        else
          chk (decide (v7 ≤ a2.length)) <|
          (slices_Contains_int n (List.take v7 a2) (ix a2 v7)).bind fun y10 =>
          bif y10 then
            some (17, 0)
          else
            chk (nI (v6 + 1)) <|
            k1 (v6 + 1)
  else
    k2 v6
def restore_CheckMatch (n : Nat) (a0 : List WantedPart) (a1 : List OfferedPart) (a2 : List Int) : Option (Int × Int) :=
  (restore_checkBoth n a0 a1).bind fun y1 =>
  bif (y1 != (0 : Int)) then
    some (y1, 0)
  else
    bif !decide (a2.length = a0.length) then
      some (10, 0)
    else
      withK (fun (v12 : Nat) =>
          some (0, ((v12 : Nat) : Int))) fun k2 =>
      loopN (restore_CheckMatch_L1 n a0 a1 a2 k2) n (0, 0)
def restore_CheckCover_f1 (n : Nat) (a0 : Int) (a1 : Int) : Option Unit :=
  chk (inI (a1 - 1)) <|
  (restore_within n a0 0 (a1 - 1)).bind fun y1 =>
  some ()
def slices_IndexFunc_int_2_L1 (n : Nat) (a0 : List Int) (a1 : Int) (k1 : (Unit → Option Int)) (back : Nat → Option Int) : Nat → Option Int
  | v2 =>
  bif decide (v2 < a0.length) then
    (restore_CheckCover_f1 n (ix a0 v2) a1).bind fun y3 =>
    bif !((decide (0 ≤ (ix a0 v2))) && (decide ((ix a0 v2) ≤ (a1 - 1)))) then
      some ((v2 : Nat) : Int)
    else
      chk (nI (v2 + 1)) <|
      back (v2 + 1)
  else
    k1 ()
def slices_IndexFunc_int_2 (n : Nat) (a0 : List Int) (a1 : Int) : Option Int :=
  withK (fun (_ : Unit) =>
      some (-1)) fun k1 =>
  loopN (slices_IndexFunc_int_2_L1 n a0 a1 k1) n 0
def slices_ContainsFunc_int_2 (n : Nat) (a0 : List Int) (a1 : Int) : Option Bool :=
  (slices_IndexFunc_int_2 n a0 a1).bind fun y1 =>
  some (decide ((0 : Int) ≤ y1))
def restore_CheckCover_L3 (n : Nat) (a0 : List WantedPart) (a1 : List OfferedPart) (a2 : Arr2_ListInt) (v13 : Int) (k3 : (Unit → Option (Int × Int))) (back : Int → Option (Int × Int)) : Int → Option (Int × Int)
  | v17 =>
  bif decide (v17 < ((a1.length : Nat) : Int)) then
    chk (inB v17 a1.length) <|
    chk (decide (v17.toNat < a1.length)) <|
    (restore_fits n (ix a0 v13.toNat) (ix a1 v17.toNat)).bind fun y18 =>
    (gcall y18 (slices_Contains_int n a2.a0 v13)).bind fun y19 =>
    (gcall (y18 && (!y19)) (slices_Contains_int n a2.a1 v17)).bind fun y20 =>
    bif (y18 && (!y19)) && (!y20) then
      some (14, 0)
    else
      chk (inI (v17 + 1)) <|
      back (v17 + 1)
  else
    k3 ()
def restore_CheckCover_L4 (n : Nat) (a0 : List WantedPart) (a1 : List OfferedPart) (a2 : Arr2_ListInt) (k4 : (Unit → Option (Int × Int))) (back : Int → Option (Int × Int)) : Int → Option (Int × Int)
  | v13 =>
  bif decide (v13 < ((a0.length : Nat) : Int)) then
    withK (fun (_ : Unit) =>
        chk (inI (v13 + 1)) <|
        back (v13 + 1)) fun k3 =>
    chk (inB v13 a0.length) <|
    chk (decide (v13.toNat < a0.length)) <|
    loopN (restore_CheckCover_L3 n a0 a1 a2 v13 k3) n 0
  else
    k4 ()
def restore_CheckCover_L2 (a2 : Arr2_ListInt) (k2 : (Unit → Option (Int × Int))) (back : Int → Option (Int × Int)) : Int → Option (Int × Int)
  | v5 =>
  bif decide (v5 < ((a2.a1.length : Nat) : Int)) then
    chk (inB v5 a2.a1.length) <|
    chk (decide (v5.toNat < a2.a1.length)) <|
    chk (inI (v5 - 1)) <|
    chk (inB (v5 - 1) a2.a1.length) <|
    chk (decide ((v5 - 1).toNat < a2.a1.length)) <|
    bif decide ((ix a2.a1 v5.toNat) ≤ (ix a2.a1 ((v5 - 1).toNat))) then
      some (9, 0)
    else
      chk (inI (v5 + 1)) <|
      back (v5 + 1)
  else
    k2 ()
def restore_CheckCover_L1 (a2 : Arr2_ListInt) (k1 : (Unit → Option (Int × Int))) (back : Int → Option (Int × Int)) : Int → Option (Int × Int)
  | v4 =>
  bif decide (v4 < ((a2.a0.length : Nat) : Int)) then
    chk (inB v4 a2.a0.length) <|
    chk (decide (v4.toNat < a2.a0.length)) <|
    chk (inI (v4 - 1)) <|
    chk (inB (v4 - 1) a2.a0.length) <|
    chk (decide ((v4 - 1).toNat < a2.a0.length)) <|
    bif decide ((ix a2.a0 v4.toNat) ≤ (ix a2.a0 ((v4 - 1).toNat))) then
      some (9, 0)
    else
      chk (inI (v4 + 1)) <|
      back (v4 + 1)
  else
    k1 ()
def restore_CheckCover (n : Nat) (a0 : List WantedPart) (a1 : List OfferedPart) (a2 : Arr2_ListInt) : Option (Int × Int) :=
  (restore_checkBoth n a0 a1).bind fun y1 =>
  bif (y1 != (0 : Int)) then
    some (y1, 0)
  else
    (slices_ContainsFunc_int_2 n a2.a0 ((a0.length : Nat) : Int)).bind fun y2 =>
    bif y2 then
      some (6, 0)
    else
      (slices_ContainsFunc_int_2 n a2.a1 ((a1.length : Nat) : Int)).bind fun y3 =>
      bif y3 then
        some (6, 0)
      else
        withK (fun (_ : Unit) =>
            withK (fun (_ : Unit) =>
                withK (fun (_ : Unit) =>
                    chk (nI (a2.a0.length + a2.a1.length)) <|
                    some (0, ((a2.a0.length + a2.a1.length : Nat) : Int))) fun k4 =>
                loopN (restore_CheckCover_L4 n a0 a1 a2 k4) n 0) fun k2 =>
            loopN (restore_CheckCover_L2 a2 k2) n 1) fun k1 =>
        loopN (restore_CheckCover_L1 a2 k1) n 1
def agrafferef08_CheckWanted_L1 (n : Nat) (a0 : List WantedPart) (v8 : Nat) (k1 : (Unit → Option Int)) (back : Nat → Option Int) : Nat → Option Int
  | v13 =>
  bif decide (v13 < (((ix a0 v8).Ranges).length)) then
    chk (decide (v13 < ((ix a0 v8).Ranges).length)) <|
    (agraffebase_Within n ((ix ((ix a0 v8).Ranges) v13).Lo) 0 ((ix ((ix a0 v8).Ranges) v13).Hi)).bind fun y14 =>
    bif (!((decide (0 ≤ ((ix ((ix a0 v8).Ranges) v13).Lo))) && (decide (((ix ((ix a0 v8).Ranges) v13).Lo) ≤ ((ix ((ix a0 v8).Ranges) v13).Hi))))) || (decide ((1000000 : Int) < ((ix ((ix a0 v8).Ranges) v13).Hi))) then
      some 2
    else
      chk (nI (v13 + 1)) <|
      back (v13 + 1)
  else
    k1 ()
def agrafferef08_CheckWanted_L2 (n : Nat) (a0 : List WantedPart) (k2 : (Unit → Option Int)) (back : (List Str) × Nat → Option Int) : (List Str) × Nat → Option Int
  | (v7, v8) =>
  bif decide (v8 < a0.length) then
    withK (fun (_ : Unit) =>
        chk (nI (v8 + 1)) <|
        back ((v7 ++ ([(ix a0 v8).Name] : List Str)), v8 + 1)) fun k1 =>
    (agraffebase_IsName n ((ix a0 v8).Name)).bind fun y9 =>
    bif !y9 then
      some 4
    else
      (agraffebase_HasText_2 n v7 ((ix a0 v8).Name)).bind fun y10 =>
      bif y10 then
        some 5
      else
        chk (room 16 (v7 ++ ([(ix a0 v8).Name] : List Str)).length) <|
        (agraffebase_Within n ((((ix a0 v8).Ranges).length : Nat) : Int) 1 6).bind fun y11 =>
        bif !((decide (1 ≤ ((((ix a0 v8).Ranges).length : Nat) : Int))) && (decide (((((ix a0 v8).Ranges).length : Nat) : Int) ≤ 6))) then
          some 10
        else
          loopN (agrafferef08_CheckWanted_L1 n a0 v8 k1) n 0
  else
    k2 ()
def agrafferef08_CheckWanted (n : Nat) (a0 : List WantedPart) : Option Int :=
  bif decide (40 < a0.length) then
    some 8
  else
    withK (fun (_ : Unit) =>
        some 0) fun k2 =>
    loopN (agrafferef08_CheckWanted_L2 n a0 k2) n (([] : List Str), 0)
def agrafferef08_CheckOffered_L1 (n : Nat) (a0 : List OfferedPart) (v8 : Nat) (k1 : (Unit → Option Int)) (back : Nat → Option Int) : Nat → Option Int
  | v13 =>
  bif decide (v13 < (((ix a0 v8).Sizes).length)) then
    chk (decide (v13 < ((ix a0 v8).Sizes).length)) <|
    (agraffebase_Within n (ix ((ix a0 v8).Sizes) v13) 0 1000000).bind fun y14 =>
    bif !((decide (0 ≤ (ix ((ix a0 v8).Sizes) v13))) && (decide ((ix ((ix a0 v8).Sizes) v13) ≤ 1000000))) then
      some 2
    else
      chk (nI (v13 + 1)) <|
      back (v13 + 1)
  else
    k1 ()
def agrafferef08_CheckOffered_L2 (n : Nat) (a0 : List OfferedPart) (k2 : (Unit → Option Int)) (back : (List Str) × Nat → Option Int) : (List Str) × Nat → Option Int
  | (v7, v8) =>
  bif decide (v8 < a0.length) then
    withK (fun (_ : Unit) =>
        chk (nI (v8 + 1)) <|
        back ((v7 ++ ([(ix a0 v8).Name] : List Str)), v8 + 1)) fun k1 =>
    (agraffebase_IsName n ((ix a0 v8).Name)).bind fun y9 =>
    bif !y9 then
      some 4
    else
      (agraffebase_HasText_2 n v7 ((ix a0 v8).Name)).bind fun y10 =>
      bif y10 then
        some 5
      else
        chk (room 16 (v7 ++ ([(ix a0 v8).Name] : List Str)).length) <|
        (agraffebase_Within n ((((ix a0 v8).Sizes).length : Nat) : Int) 1 6).bind fun y11 =>
        bif !((decide (1 ≤ ((((ix a0 v8).Sizes).length : Nat) : Int))) && (decide (((((ix a0 v8).Sizes).length : Nat) : Int) ≤ 6))) then
          some 10
        else
          loopN (agrafferef08_CheckOffered_L1 n a0 v8 k1) n 0
  else
    k2 ()
def agrafferef08_CheckOffered (n : Nat) (a0 : List OfferedPart) : Option Int :=
  bif decide (40 < a0.length) then
    some 8
  else
    withK (fun (_ : Unit) =>
        some 0) fun k2 =>
    loopN (agrafferef08_CheckOffered_L2 n a0 k2) n (([] : List Str), 0)
def agrafferef08_CheckBoth (n : Nat) (a0 : List WantedPart) (a1 : List OfferedPart) : Option Int :=
  (agrafferef08_CheckWanted n a0).bind fun y1 =>
  bif (y1 != (0 : Int)) then
    some y1
  else
    (agrafferef08_CheckOffered n a1).bind fun y2 =>
    some y2
def agrafferef08_Fits_L1 (n : Nat) (a0 : WantedPart) (a1 : OfferedPart) (k1 : (Unit → Option Bool)) (back : Nat → Option Bool) : Nat → Option Bool
  | v2 =>
  bif decide (v2 < a1.Sizes.length) then
    chk (decide (v2 < a0.Ranges.length)) <|
    (agraffebase_Within n (ix a1.Sizes v2) ((ix a0.Ranges v2).Lo) ((ix a0.Ranges v2).Hi)).bind fun y3 =>
    bif !((decide (((ix a0.Ranges v2).Lo) ≤ (ix a1.Sizes v2))) && (decide ((ix a1.Sizes v2) ≤ ((ix a0.Ranges v2).Hi)))) then
      some false
    else
      chk (nI (v2 + 1)) <|
      back (v2 + 1)
  else
    k1 ()
def agrafferef08_Fits (n : Nat) (a0 : WantedPart) (a1 : OfferedPart) : Option Bool :=
  bif !decide (a0.Ranges.length = a1.Sizes.length) then
    some false
  else
    withK (fun (_ : Unit) =>
        some true) fun k1 =>
    loopN (agrafferef08_Fits_L1 n a0 a1 k1) n 0
def agraffebase_Has_L1 (a0 : List Int) (a1 : Int) (k1 : (Unit → Option Bool)) (back : Nat → Option Bool) : Nat → Option Bool
  | v1 =>
  bif decide (v1 < a0.length) then
    bif ((ix a0 v1) == a1) then
      some true
    else
      chk (nI (v1 + 1)) <|
      back (v1 + 1)
  else
    k1 ()
def agraffebase_Has (n : Nat) (a0 : List Int) (a1 : Int) : Option Bool :=
  withK (fun (_ : Unit) =>
      some false) fun k1 =>
  loopN (agraffebase_Has_L1 a0 a1 k1) n 0
def agrafferef08_CheckMatch_L1 (n : Nat) (a0 : List WantedPart) (a1 : List OfferedPart) (a2 : List Int) (k2 : (Nat → Option (Int × Int))) (back : Nat × Nat → Option (Int × Int)) : Nat × Nat → Option (Int × Int)
  | (v5, v6) =>
  bif decide (v6 < a2.length) then
    withK (fun (v10 : Nat) =>
        chk (nI (v6 + 1)) <|
        back (v10, v6 + 1)) fun k1 =>
    bif ((ix a2 v6) == ((-1) : Int)) then
      k1 v5
    else
      chk (inI (((a1.length : Nat) : Int) - 1)) <|
      (agraffebase_Within n (ix a2 v6) 0 (((a1.length : Nat) : Int) - 1)).bind fun y7 =>
      bif !((decide (0 ≤ (ix a2 v6))) && (decide ((ix a2 v6) ≤ (((a1.length : Nat) : Int) - 1)))) then
        some (6, 0)
      else
        chk (decide (v6 < a0.length)) <|
        chk (inB (ix a2 v6) a1.length) <|
        chk (decide ((ix a2 v6).toNat < a1.length)) <|
        (agrafferef08_Fits n (ix a0 v6) (ix a1 ((ix a2 v6).toNat))).bind fun y8 =>
        bif !y8 then
          some (15, 0)
        else
          chk (decide (v6 ≤ a2.length)) <|
          (agraffebase_Has n (List.take v6 a2) (ix a2 v6)).bind fun y9 =>
          bif y9 then
            some (17, 0)
          else
            chk (nI (v5 + 1)) <|
            k1 (v5 + 1)
  else
    k2 v5
def agrafferef08_CheckMatch (n : Nat) (a0 : List WantedPart) (a1 : List OfferedPart) (a2 : List Int) : Option (Int × Int) :=
  bif !decide (a2.length = a0.length) then
    some (10, 0)
  else
    withK (fun (v11 : Nat) =>
        some (0, ((v11 : Nat) : Int))) fun k2 =>
    loopN (agrafferef08_CheckMatch_L1 n a0 a1 a2 k2) n (0, 0)
def agrafferef08_CheckCover_L5 (n : Nat) (a0 : List WantedPart) (a1 : List OfferedPart) (a2 : Arr2_ListInt) (v16 : Int) (k5 : (Unit → Option (Int × Int))) (back : Int → Option (Int × Int)) : Int → Option (Int × Int)
  | v20 =>
  bif decide (v20 < ((a1.length : Nat) : Int)) then
    chk (inB v16 a0.length) <|
    chk (decide (v16.toNat < a0.length)) <|
    chk (inB v20 a1.length) <|
    chk (decide (v20.toNat < a1.length)) <|
    (agrafferef08_Fits n (ix a0 v16.toNat) (ix a1 v20.toNat)).bind fun y21 =>
    (gcall y21 (agraffebase_Has n a2.a0 v16)).bind fun y22 =>
    (gcall (y21 && (!y22)) (agraffebase_Has n a2.a1 v20)).bind fun y23 =>
    bif (y21 && (!y22)) && (!y23) then
      some (14, 0)
    else
      chk (inI (v20 + 1)) <|
      back (v20 + 1)
  else
    k5 ()
def agrafferef08_CheckCover_L6 (n : Nat) (a0 : List WantedPart) (a1 : List OfferedPart) (a2 : Arr2_ListInt) (k6 : (Unit → Option (Int × Int))) (back : Int → Option (Int × Int)) : Int → Option (Int × Int)
  | v16 =>
  bif decide (v16 < ((a0.length : Nat) : Int)) then
    withK (fun (_ : Unit) =>
        chk (inI (v16 + 1)) <|
        back (v16 + 1)) fun k5 =>
    loopN (agrafferef08_CheckCover_L5 n a0 a1 a2 v16 k5) n 0
  else
    k6 ()
def agrafferef08_CheckCover_L4 (a2 : Arr2_ListInt) (k4 : (Unit → Option (Int × Int))) (back : Int → Option (Int × Int)) : Int → Option (Int × Int)
  | v8 =>
  bif decide (v8 < ((a2.a1.length : Nat) : Int)) then
    chk (inI (v8 - 1)) <|
    chk (inB (v8 - 1) a2.a1.length) <|
    chk (decide ((v8 - 1).toNat < a2.a1.length)) <|
    chk (inB v8 a2.a1.length) <|
    chk (decide (v8.toNat < a2.a1.length)) <|
    bif decide ((ix a2.a1 v8.toNat) ≤ (ix a2.a1 ((v8 - 1).toNat))) then
      some (9, 0)
    else
      chk (inI (v8 + 1)) <|
      back (v8 + 1)
  else
    k4 ()
def agrafferef08_CheckCover_L3 (a2 : Arr2_ListInt) (k3 : (Unit → Option (Int × Int))) (back : Int → Option (Int × Int)) : Int → Option (Int × Int)
  | v7 =>
  bif decide (v7 < ((a2.a0.length : Nat) : Int)) then
    chk (inI (v7 - 1)) <|
    chk (inB (v7 - 1) a2.a0.length) <|
    chk (decide ((v7 - 1).toNat < a2.a0.length)) <|
    chk (inB v7 a2.a0.length) <|
    chk (decide (v7.toNat < a2.a0.length)) <|
    bif decide ((ix a2.a0 v7.toNat) ≤ (ix a2.a0 ((v7 - 1).toNat))) then
      some (9, 0)
    else
      chk (inI (v7 + 1)) <|
      back (v7 + 1)
  else
    k3 ()
def agrafferef08_CheckCover_L2 (n : Nat) (a1 : List OfferedPart) (a2 : Arr2_ListInt) (k2 : (Unit → Option (Int × Int))) (back : Int → Option (Int × Int)) : Int → Option (Int × Int)
  | v5 =>
  bif decide (v5 < ((a2.a1.length : Nat) : Int)) then
    chk (inB v5 a2.a1.length) <|
    chk (decide (v5.toNat < a2.a1.length)) <|
    chk (inI (((a1.length : Nat) : Int) - 1)) <|
    (agraffebase_Within n (ix a2.a1 v5.toNat) 0 (((a1.length : Nat) : Int) - 1)).bind fun y6 =>
    bif !((decide (0 ≤ (ix a2.a1 v5.toNat))) && (decide ((ix a2.a1 v5.toNat) ≤ (((a1.length : Nat) : Int) - 1)))) then
      some (6, 0)
    else
      chk (inI (v5 + 1)) <|
      back (v5 + 1)
  else
    k2 ()
def agrafferef08_CheckCover_L1 (n : Nat) (a0 : List WantedPart) (a2 : Arr2_ListInt) (k1 : (Unit → Option (Int × Int))) (back : Int → Option (Int × Int)) : Int → Option (Int × Int)
  | v2 =>
  bif decide (v2 < ((a2.a0.length : Nat) : Int)) then
    chk (inB v2 a2.a0.length) <|
    chk (decide (v2.toNat < a2.a0.length)) <|
    chk (inI (((a0.length : Nat) : Int) - 1)) <|
    (agraffebase_Within n (ix a2.a0 v2.toNat) 0 (((a0.length : Nat) : Int) - 1)).bind fun y3 =>
    bif !((decide (0 ≤ (ix a2.a0 v2.toNat))) && (decide ((ix a2.a0 v2.toNat) ≤ (((a0.length : Nat) : Int) - 1)))) then
      some (6, 0)
    else
      chk (inI (v2 + 1)) <|
      back (v2 + 1)
  else
    k1 ()
def agrafferef08_CheckCover (n : Nat) (a0 : List WantedPart) (a1 : List OfferedPart) (a2 : Arr2_ListInt) : Option (Int × Int) :=
  withK (fun (_ : Unit) =>
      withK (fun (_ : Unit) =>
          withK (fun (_ : Unit) =>
              withK (fun (_ : Unit) =>
                  withK (fun (_ : Unit) =>
                      chk (nI (a2.a0.length + a2.a1.length)) <|
                      some (0, ((a2.a0.length + a2.a1.length : Nat) : Int))) fun k6 =>
                  loopN (agrafferef08_CheckCover_L6 n a0 a1 a2 k6) n 0) fun k4 =>
              loopN (agrafferef08_CheckCover_L4 a2 k4) n 1) fun k3 =>
          loopN (agrafferef08_CheckCover_L3 a2 k3) n 1) fun k2 =>
      loopN (agrafferef08_CheckCover_L2 n a1 a2 k2) n 0) fun k1 =>
  loopN (agrafferef08_CheckCover_L1 n a0 a2 k1) n 0
def restore_Fits (n : Nat) (a0 : WantedPart) (a1 : OfferedPart) : Option (Int × Bool) :=
  (restore_checkBoth n ([a0] : List WantedPart) ([a1] : List OfferedPart)).bind fun y1 =>
  bif (y1 != (0 : Int)) then
    some (y1, false)
  else
    (restore_fits n a0 a1).bind fun y2 =>
    some (0, y2)
def math_bits_Mul64 (n : Nat) (a0 : Int) (a1 : Int) : Option Unit :=
  some ()
def math_bits_Mul (n : Nat) (a0 : Int) (a1 : Int) : Option Unit :=
  (math_bits_Mul64 n a0 a1).bind fun y1 =>
  some ()
def slices_Repeat_int_L1 (a0 : List Int) (a1 : Int) (k1 : ((List Int) → Option (List Int))) (back : Nat × (List Int) → Option (List Int)) : Nat × (List Int) → Option (List Int)
  | (v2, v3) =>
  bif decide (v2 < ((List.replicate ((IntKind.u64.wrap ((IntKind.u64.wrap ((a0.length : Nat) : Int)) * (IntKind.u64.wrap a1))).toNat) (0 : Int)).length)) then
    chk (decide (v2 ≤ ((List.replicate ((IntKind.u64.wrap ((IntKind.u64.wrap ((a0.length : Nat) : Int)) * (IntKind.u64.wrap a1))).toNat) (0 : Int)).length))) <|
    chk (decide (v2 + (((List.replicate ((IntKind.u64.wrap ((IntKind.u64.wrap ((a0.length : Nat) : Int)) * (IntKind.u64.wrap a1))).toNat) (0 : Int)).length) - v2) ≤ v3.length)) <|
    chk (decide (0 + v2 ≤ v3.length)) <|
    chk (nI (v2 + (Nat.min (List.take v2 (List.drop 0 v3)).length (((List.replicate ((IntKind.u64.wrap ((IntKind.u64.wrap ((a0.length : Nat) : Int)) * (IntKind.u64.wrap a1))).toNat) (0 : Int)).length) - v2)))) <|
    back (v2 + (Nat.min (List.take v2 (List.drop 0 v3)).length (((List.replicate ((IntKind.u64.wrap ((IntKind.u64.wrap ((a0.length : Nat) : Int)) * (IntKind.u64.wrap a1))).toNat) (0 : Int)).length) - v2)), (cpyP v3 v2 (List.take (Nat.min (List.take v2 (List.drop 0 v3)).length (((List.replicate ((IntKind.u64.wrap ((IntKind.u64.wrap ((a0.length : Nat) : Int)) * (IntKind.u64.wrap a1))).toNat) (0 : Int)).length) - v2)) (List.take v2 (List.drop 0 v3)))))
  else
    k1 v3
def slices_Repeat_int (n : Nat) (a0 : List Int) (a1 : Int) : Option (List Int) :=
  bif decide (a1 < (0 : Int)) then
    none
  else
    (math_bits_Mul n (IntKind.u64.wrap ((a0.length : Nat) : Int)) (IntKind.u64.wrap a1)).bind fun y1 =>
    bif (decide ((0 : Int) < (IntKind.u64.wrap ((IntKind.u64.wrap ((IntKind.u64.wrap ((Int.fdiv (IntKind.u64.wrap ((a0.length : Nat) : Int)) (2 ^ (min 32 64))) * (Int.fdiv (IntKind.u64.wrap a1) (2 ^ (min 32 64))))) + (Int.fdiv (IntKind.u64.wrap ((IntKind.u64.wrap ((Int.fdiv (IntKind.u64.wrap ((a0.length : Nat) : Int)) (2 ^ (min 32 64))) * (iAnd .u64 (IntKind.u64.wrap a1) 4294967295))) + (Int.fdiv (IntKind.u64.wrap ((iAnd .u64 (IntKind.u64.wrap ((a0.length : Nat) : Int)) 4294967295) * (iAnd .u64 (IntKind.u64.wrap a1) 4294967295))) (2 ^ (min 32 64))))) (2 ^ (min 32 64))))) + (Int.fdiv (IntKind.u64.wrap ((iAnd .u64 (IntKind.u64.wrap ((IntKind.u64.wrap ((Int.fdiv (IntKind.u64.wrap ((a0.length : Nat) : Int)) (2 ^ (min 32 64))) * (iAnd .u64 (IntKind.u64.wrap a1) 4294967295))) + (Int.fdiv (IntKind.u64.wrap ((iAnd .u64 (IntKind.u64.wrap ((a0.length : Nat) : Int)) 4294967295) * (iAnd .u64 (IntKind.u64.wrap a1) 4294967295))) (2 ^ (min 32 64))))) 4294967295) + (IntKind.u64.wrap ((iAnd .u64 (IntKind.u64.wrap ((a0.length : Nat) : Int)) 4294967295) * (Int.fdiv (IntKind.u64.wrap a1) (2 ^ (min 32 64))))))) (2 ^ (min 32 64))))))) || (decide ((9223372036854775807 : Int) < (IntKind.u64.wrap ((IntKind.u64.wrap ((a0.length : Nat) : Int)) * (IntKind.u64.wrap a1))))) then
      none
    else
      chk (inI (IntKind.u64.wrap ((IntKind.u64.wrap ((a0.length : Nat) : Int)) * (IntKind.u64.wrap a1)))) <|
      chk (decide (0 ≤ (IntKind.u64.wrap ((IntKind.u64.wrap ((a0.length : Nat) : Int)) * (IntKind.u64.wrap a1))))) <|
      chk (mkroom 8 ((IntKind.u64.wrap ((IntKind.u64.wrap ((a0.length : Nat) : Int)) * (IntKind.u64.wrap a1))).toNat)) <|
      chk (decide (0 + ((List.replicate ((IntKind.u64.wrap ((IntKind.u64.wrap ((a0.length : Nat) : Int)) * (IntKind.u64.wrap a1))).toNat) (0 : Int)).length) ≤ (List.replicate ((IntKind.u64.wrap ((IntKind.u64.wrap ((a0.length : Nat) : Int)) * (IntKind.u64.wrap a1))).toNat) (0 : Int)).length)) <|
      chk (decide (0 + a0.length ≤ a0.length)) <|
      withK (fun (v4 : (List Int)) =>
          some v4) fun k1 =>
      loopN (slices_Repeat_int_L1 a0 a1 k1) n (Nat.min (List.take a0.length (List.drop 0 a0)).length ((List.replicate ((IntKind.u64.wrap ((IntKind.u64.wrap ((a0.length : Nat) : Int)) * (IntKind.u64.wrap a1))).toNat) (0 : Int)).length), (cpyP (List.replicate ((IntKind.u64.wrap ((IntKind.u64.wrap ((a0.length : Nat) : Int)) * (IntKind.u64.wrap a1))).toNat) (0 : Int)) 0 (List.take (Nat.min (List.take a0.length (List.drop 0 a0)).length ((List.replicate ((IntKind.u64.wrap ((IntKind.u64.wrap ((a0.length : Nat) : Int)) * (IntKind.u64.wrap a1))).toNat) (0 : Int)).length)) (List.take a0.length (List.drop 0 a0)))))
def restore_matching_grow_L1 (a0 : List (List Bool)) (a2 : Nat) (a3 : Nat) (a5 : Nat) (a6 : Nat) (a7 : Int) (self : ((List (List Bool)) × (List Int) × Nat × Nat × (List Int) × Nat × Nat × Int × (List Bool) → Option ((List Bool) × (List Int) × (List Int) × Bool))) (k3 : ((List Bool) × (List Int) × (List Int) → Option ((List Bool) × (List Int) × (List Int) × Bool))) (back : Nat × (List Bool) × (List Int) × (List Int) → Option ((List Bool) × (List Int) × (List Int) × Bool)) : Nat × (List Bool) × (List Int) × (List Int) → Option ((List Bool) × (List Int) × (List Int) × Bool)
  | (v10, v11, v12, v13) =>
  bif decide (v10 < ((ix a0 a7.toNat).length)) then
    withK (fun (v20, v21, v22) =>
        chk (nI (v10 + 1)) <|
        back (v10 + 1, v20, v21, v22)) fun k2 =>
    chk (decide (v10 < (ix a0 a7.toNat).length)) <|
    chk (!(!(!(ix (ix a0 a7.toNat) v10))) || decide (v10 < v11.length)) <|
    chk (!(!(!(ix (ix a0 a7.toNat) v10))) || decide (v10 < v11.length)) <|
    bif (!(ix (ix a0 a7.toNat) v10)) || (ix v11 v10) then
      k2 (v11, v12, v13)
    else
      chk (decide (v10 < v11.length)) <|
      withK (fun (v16, v17, v18, v19) =>
          bif v16 then
            chk (inB a7 a3) <|
            chk (decide (a2 + a7.toNat < v19.length)) <|
            chk (decide (v10 < a6)) <|
            chk (decide (a5 + v10 < v18.length)) <|
            some (v17, (List.set v18 (a5 + v10) a7), (List.set v19 (a2 + a7.toNat) ((v10 : Nat) : Int)), true)
          else
            k2 (v17, v18, v19)) fun k1 =>
      chk (decide (v10 < a6)) <|
      chk (decide (a5 + v10 < v12.length)) <|
      bif !(decide ((ix v12 (a5 + v10)) < (0 : Int))) then
        (self (a0, v13, a2, a3, v12, a5, a6, (ix v12 (a5 + v10)), (List.set v11 v10 true))).bind fun y14 =>
        chk (decide (v11.length = y14.1.length)) <|
        k1 ((decide ((ix v12 (a5 + v10)) < (0 : Int))) || y14.2.2.2, y14.1, y14.2.1, y14.2.2.1)
      else
        k1 ((decide ((ix v12 (a5 + v10)) < (0 : Int))) || false, (List.set v11 v10 true), v12, v13)
  else
    k3 (v11, v12, v13)
def restore_matching_grow_F (n : Nat) (self : (List (List Bool)) × (List Int) × Nat × Nat × (List Int) × Nat × Nat × Int × (List Bool) → Option ((List Bool) × (List Int) × (List Int) × Bool)) : (List (List Bool)) × (List Int) × Nat × Nat × (List Int) × Nat × Nat × Int × (List Bool) → Option ((List Bool) × (List Int) × (List Int) × Bool)
  | (a0, a1, a2, a3, a4, a5, a6, a7, a8) =>
  withK (fun (v23, v24, v25) =>
      some (v23, v24, v25, false)) fun k3 =>
  chk (inB a7 a0.length) <|
  chk (decide (a7.toNat < a0.length)) <|
  loopN (restore_matching_grow_L1 a0 a2 a3 a5 a6 a7 self k3) n (0, a8, a4, a1)
def restore_matching_grow (n : Nat) (a0 : List (List Bool)) (a1 : List Int) (a2 : Nat) (a3 : Nat) (a4 : List Int) (a5 : Nat) (a6 : Nat) (a7 : Int) (a8 : List Bool) : Option ((List Bool) × (List Int) × (List Int) × Bool) := loopN (restore_matching_grow_F n) n (a0, a1, a2, a3, a4, a5, a6, a7, a8)
def restore_Match_f1_2_L1 (a0 : Int) (a2 : Nat) (a3 : Nat) (a4 : List (List Bool)) (a5 : List Int) (a6 : Nat) (a7 : Nat) (a8 : List Int) (a9 : Nat) (a10 : Nat) (a12 : Nat) (a13 : Nat) (self : (Int × (List Bool) × Nat × Nat × (List (List Bool)) × (List Int) × Nat × Nat × (List Int) × Nat × Nat × (List Bool) × Nat × Nat → Option ((List Bool) × (List Bool)))) (back : Nat × (List Bool) × (List Bool) → Option ((List Bool) × (List Bool))) : Nat × (List Bool) × (List Bool) → Option ((List Bool) × (List Bool))
  | (v4, v5, v6) =>
  bif decide (v4 < ((ix a4 a0.toNat).length)) then
    withK (fun (v8, v9) =>
        chk (nI (v4 + 1)) <|
        back (v4 + 1, v8, v9)) fun k1 =>
    chk (decide (v4 < (ix a4 a0.toNat).length)) <|
    chk (!(ix (ix a4 a0.toNat) v4) || decide (v4 < a13)) <|
    chk (!(ix (ix a4 a0.toNat) v4) || decide (a12 + v4 < v5.length)) <|
    bif (ix (ix a4 a0.toNat) v4) && (!(ix v5 (a12 + v4))) then
      chk (decide (v4 < a13)) <|
      chk (decide (a12 + v4 < v5.length)) <|
      chk (decide (v4 < a10)) <|
      chk (decide (a9 + v4 < a8.length)) <|
      (self ((ix a8 (a9 + v4)), v6, a2, a3, a4, a5, a6, a7, a8, a9, a10, (List.set v5 (a12 + v4) true), a12, a13)).bind fun y7 =>
      k1 (y7.1, y7.2)
    else
      k1 (v5, v6)
  else
    some (v5, v6)
def restore_Match_f1_2_F (n : Nat) (self : Int × (List Bool) × Nat × Nat × (List (List Bool)) × (List Int) × Nat × Nat × (List Int) × Nat × Nat × (List Bool) × Nat × Nat → Option ((List Bool) × (List Bool))) : Int × (List Bool) × Nat × Nat × (List (List Bool)) × (List Int) × Nat × Nat × (List Int) × Nat × Nat × (List Bool) × Nat × Nat → Option ((List Bool) × (List Bool))
  | (a0, a1, a2, a3, a4, a5, a6, a7, a8, a9, a10, a11, a12, a13) =>
  chk (inB a0 a3) <|
  chk (decide (a2 + a0.toNat < a1.length)) <|
  bif (ix a1 (a2 + a0.toNat)) then
    some (a11, a1)
  else
    chk (inB a0 a4.length) <|
    chk (decide (a0.toNat < a4.length)) <|
    loopN (restore_Match_f1_2_L1 a0 a2 a3 a4 a5 a6 a7 a8 a9 a10 a12 a13 self) n (0, a11, (List.set a1 (a2 + a0.toNat) true))
def restore_Match_f1_2 (n : Nat) (a0 : Int) (a1 : List Bool) (a2 : Nat) (a3 : Nat) (a4 : List (List Bool)) (a5 : List Int) (a6 : Nat) (a7 : Nat) (a8 : List Int) (a9 : Nat) (a10 : Nat) (a11 : List Bool) (a12 : Nat) (a13 : Nat) : Option ((List Bool) × (List Bool)) := loopN (restore_Match_f1_2_F n) n (a0, a1, a2, a3, a4, a5, a6, a7, a8, a9, a10, a11, a12, a13)
def restore_Match_L6 (v41 : Nat) (v42 : List Bool) (k9 : ((List Int) → Option (Int ⊕ (Nat × (List Int) × (List Int) × (List Int))))) (back : Nat × (List Int) → Option (Int ⊕ (Nat × (List Int) × (List Int) × (List Int)))) : Nat × (List Int) → Option (Int ⊕ (Nat × (List Int) × (List Int) × (List Int)))
  | (v51, v52) =>
  bif decide (v51 < v41) then
    withK (fun (v53 : (List Int)) =>
        chk (nI (v51 + 1)) <|
        back (v51 + 1, v53)) fun k8 =>
    chk (decide (v51 < v42.length)) <|
    bif (ix v42 v51) then
      chk (room 8 (v52 ++ ([((v51 : Nat) : Int)] : List Int)).length) <|
      k8 (v52 ++ ([((v51 : Nat) : Int)] : List Int))
    else
      k8 v52
  else
    k9 v52
def restore_Match_L5 (v43 : Nat) (v44 : List Bool) (k7 : ((List Int) → Option (Int ⊕ (Nat × (List Int) × (List Int) × (List Int))))) (back : Nat × (List Int) → Option (Int ⊕ (Nat × (List Int) × (List Int) × (List Int)))) : Nat × (List Int) → Option (Int ⊕ (Nat × (List Int) × (List Int) × (List Int)))
  | (v46, v47) =>
  bif decide (v46 < v43) then
    withK (fun (v48 : (List Int)) =>
        chk (nI (v46 + 1)) <|
        back (v46 + 1, v48)) fun k6 =>
    chk (decide (v46 < v44.length)) <|
    bif !(ix v44 v46) then
      chk (room 8 (v47 ++ ([((v46 : Nat) : Int)] : List Int)).length) <|
      k6 (v47 ++ ([((v46 : Nat) : Int)] : List Int))
    else
      k6 v47
  else
    k7 v47
def restore_Match_L4 (n : Nat) (v16 : List (List Bool)) (v24 : Nat) (v25 : Nat) (v26 : List Int) (v27 : List Int) (k5 : (Nat × (List Bool) × Nat × (List Bool) → Option (Int ⊕ (Nat × (List Int) × (List Int) × (List Int))))) (back : Nat × Nat × (List Bool) × Nat × (List Bool) → Option (Int ⊕ (Nat × (List Int) × (List Int) × (List Int)))) : Nat × Nat × (List Bool) × Nat × (List Bool) → Option (Int ⊕ (Nat × (List Int) × (List Int) × (List Int)))
  | (v33, v34, v35, v36, v37) =>
  bif decide (v33 < v24) then
    withK (fun (v39, v40) =>
        chk (nI (v33 + 1)) <|
        back (v33 + 1, v34, v39, v36, v40)) fun k4 =>
    chk (decide (v33 < v27.length)) <|
    bif decide ((ix v27 v33) < (0 : Int)) then
      (restore_Match_f1_2 n ((v33 : Nat) : Int) v37 0 v36 v16 v27 0 v24 v26 0 v25 v35 0 v34).bind fun y38 =>
      k4 (y38.1, y38.2)
    else
      k4 (v35, v37)
  else
    k5 (v34, v35, v36, v37)
def restore_Match_L3 (n : Nat) (a0 : List WantedPart) (a1 : List OfferedPart) (v16 : List (List Bool)) (k3 : (Nat × Nat × (List Int) × (List Int) → Option (Int ⊕ (Nat × (List Int) × (List Int) × (List Int))))) (back : Nat × Nat × Nat × (List Int) × (List Int) → Option (Int ⊕ (Nat × (List Int) × (List Int) × (List Int)))) : Nat × Nat × Nat × (List Int) × (List Int) → Option (Int ⊕ (Nat × (List Int) × (List Int) × (List Int)))
  | (v18, v19, v20, v21, v22) =>
  bif decide (v18 < a0.length) then
    chk (mkroom 1 a1.length) <|
    (restore_matching_grow n v16 v22 0 v19 v21 0 v20 ((v18 : Nat) : Int) (List.replicate a1.length false)).bind fun y23 =>
    chk (nI (v18 + 1)) <|
    back (v18 + 1, v19, v20, y23.2.1, y23.2.2.1)
  else
    k3 (v19, v20, v21, v22)
def restore_Match_L1 (n : Nat) (a0 : List WantedPart) (a1 : List OfferedPart) (v9 : Nat) (k1 : ((List Bool) → Option (Int ⊕ (Nat × (List Int) × (List Int) × (List Int))))) (back : Nat × (List Bool) → Option (Int ⊕ (Nat × (List Int) × (List Int) × (List Int)))) : Nat × (List Bool) → Option (Int ⊕ (Nat × (List Int) × (List Int) × (List Int)))
  | (v12, v13) =>
  bif decide (v12 < a1.length) then
    (restore_fits n (ix a0 v9) (ix a1 v12)).bind fun y14 =>
    chk (decide (v12 < v13.length)) <|
    chk (nI (v12 + 1)) <|
    back (v12 + 1, (List.set v13 v12 y14))
  else
    k1 v13
def restore_Match_L2 (n : Nat) (a0 : List WantedPart) (a1 : List OfferedPart) (k2 : ((List (List Bool)) → Option (Int ⊕ (Nat × (List Int) × (List Int) × (List Int))))) (back : Nat × (List (List Bool)) → Option (Int ⊕ (Nat × (List Int) × (List Int) × (List Int)))) : Nat × (List (List Bool)) → Option (Int ⊕ (Nat × (List Int) × (List Int) × (List Int)))
  | (v9, v10) =>
  bif decide (v9 < a0.length) then
    chk (mkroom 1 a1.length) <|
    withK (fun (v15 : (List Bool)) =>
        chk (room 24 (v10 ++ ([v15] : List (List Bool))).length) <|
        chk (nI (v9 + 1)) <|
        back (v9 + 1, (v10 ++ ([v15] : List (List Bool))))) fun k1 =>
    loopN (restore_Match_L1 n a0 a1 v9 k1) n (0, (List.replicate a1.length false))
  else
    k2 v10
def restore_Match (n : Nat) (a0 : List WantedPart) (a1 : List OfferedPart) : Option (Int ⊕ (Nat × (List Int) × (List Int) × (List Int))) :=
  (restore_checkBoth n a0 a1).bind fun y1 =>
  bif (y1 != (0 : Int)) then
    some (.inl y1)
  else
    (slices_Repeat_int n ([(-1)] : List Int) ((a0.length : Nat) : Int)).bind fun y2 =>
    (slices_Repeat_int n ([(-1)] : List Int) ((a1.length : Nat) : Int)).bind fun y3 =>
    withK (fun (v16 : (List (List Bool))) =>
        withK (fun (v24, v25, v26, v27) =>
            chk (mkroom 1 a0.length) <|
            chk (mkroom 1 a1.length) <|
            withK (fun (v41, v42, v43, v44) =>
                withK (fun (v49 : (List Int)) =>
                    withK (fun (v54 : (List Int)) =>
                        some (.inr (v24, v49, v54, v27))) fun k9 =>
                    loopN (restore_Match_L6 v41 v42 k9) n (0, ([] : List Int))) fun k7 =>
                loopN (restore_Match_L5 v43 v44 k7) n (0, ([] : List Int))) fun k5 =>
            loopN (restore_Match_L4 n v16 v24 v25 v26 v27 k5) n (0, (List.replicate a1.length false).length, (List.replicate a1.length false), (List.replicate a0.length false).length, (List.replicate a0.length false))) fun k3 =>
        loopN (restore_Match_L3 n a0 a1 v16 k3) n (0, (List.replicate ((IntKind.u64.wrap ((IntKind.u64.wrap ((([(-1)] : List Int).length : Nat) : Int)) * (IntKind.u64.wrap ((a0.length : Nat) : Int)))).toNat) (0 : Int)).length, (List.replicate ((IntKind.u64.wrap ((IntKind.u64.wrap ((([(-1)] : List Int).length : Nat) : Int)) * (IntKind.u64.wrap ((a1.length : Nat) : Int)))).toNat) (0 : Int)).length, y3, y2)) fun k2 =>
    loopN (restore_Match_L2 n a0 a1 k2) n (0, ([] : List (List Bool)))
def agrafferef08_improve_L1 (v14 : Nat) (v16 : List Int) (k2 : (Int → Option ((List Bool) × (List Int) × Bool))) (back : Int × Nat → Option ((List Bool) × (List Int) × Bool)) : Int × Nat → Option ((List Bool) × (List Int) × Bool)
  | (v19, v20) =>
  bif decide (v20 < v16.length) then
    withK (fun (v21 : Int) =>
        chk (nI (v20 + 1)) <|
        back (v21, v20 + 1)) fun k1 =>
    bif ((ix v16 v20) == ((v14 : Nat) : Int)) then
      k1 ((v20 : Nat) : Int)
    else
      k1 v19
  else
    k2 v19
def agrafferef08_improve_L2 (n : Nat) (a0 : List WantedPart) (a1 : List OfferedPart) (a3 : Int) (self : ((List WantedPart) × (List OfferedPart) × (List Int) × Int × (List Bool) → Option ((List Bool) × (List Int) × Bool))) (k5 : ((List Bool) × (List Int) → Option ((List Bool) × (List Int) × Bool))) (back : Nat × (List Bool) × (List Int) → Option ((List Bool) × (List Int) × Bool)) : Nat × (List Bool) × (List Int) → Option ((List Bool) × (List Int) × Bool)
  | (v14, v15, v16) =>
  bif decide (v14 < a1.length) then
    withK (fun (v28, v29) =>
        chk (nI (v14 + 1)) <|
        back (v14 + 1, v28, v29)) fun k4 =>
    chk (decide (v14 < v15.length)) <|
    chk (!(!(ix v15 v14)) || inB a3 a0.length) <|
    chk (!(!(ix v15 v14)) || decide (a3.toNat < a0.length)) <|
    (gcall (!(ix v15 v14)) (agrafferef08_Fits n (ix a0 a3.toNat) (ix a1 v14))).bind fun y17 =>
    bif (ix v15 v14) || (!y17) then
      k4 (v15, v16)
    else
      withK (fun (v22 : Int) =>
          withK (fun (v25, v26, v27) =>
              bif v25 then
                chk (inB a3 v27.length) <|
                chk (decide (a3.toNat < v27.length)) <|
                some (v26, (List.set v27 a3.toNat ((v14 : Nat) : Int)), true)
              else
                k4 (v26, v27)) fun k3 =>
          bif !(decide (v22 < (0 : Int))) then
            (self (a0, a1, v16, v22, (List.set v15 v14 true))).bind fun y23 =>
            chk (decide (v16.length = y23.2.1.length)) <|
            chk (decide (v15.length = y23.1.length)) <|
            k3 ((decide (v22 < (0 : Int))) || y23.2.2, y23.1, y23.2.1)
          else
            k3 ((decide (v22 < (0 : Int))) || false, (List.set v15 v14 true), v16)) fun k2 =>
      loopN (agrafferef08_improve_L1 v14 v16 k2) n ((-1), 0)
  else
    k5 (v15, v16)
def agrafferef08_improve_F (n : Nat) (self : (List WantedPart) × (List OfferedPart) × (List Int) × Int × (List Bool) → Option ((List Bool) × (List Int) × Bool)) : (List WantedPart) × (List OfferedPart) × (List Int) × Int × (List Bool) → Option ((List Bool) × (List Int) × Bool)
  | (a0, a1, a2, a3, a4) =>
  withK (fun (v30, v31) =>
      some (v30, v31, false)) fun k5 =>
  loopN (agrafferef08_improve_L2 n a0 a1 a3 self k5) n (0, a4, a2)
def agrafferef08_improve (n : Nat) (a0 : List WantedPart) (a1 : List OfferedPart) (a2 : List Int) (a3 : Int) (a4 : List Bool) : Option ((List Bool) × (List Int) × Bool) := loopN (agrafferef08_improve_F n) n (a0, a1, a2, a3, a4)
def agrafferef08_Most_L2 (n : Nat) (a0 : List WantedPart) (a1 : List OfferedPart) (k3 : (Nat → Option Int)) (back : Nat × Nat × (List Int) → Option Int) : Nat × Nat × (List Int) → Option Int
  | (v7, v8, v9) =>
  bif decide (v8 < v9.length) then
    withK (fun (v11, v12) =>
        chk (nI (v8 + 1)) <|
        back (v12, v8 + 1, v11)) fun k2 =>
    chk (mkroom 1 a1.length) <|
    (agrafferef08_improve n a0 a1 v9 ((v8 : Nat) : Int) (List.replicate a1.length false)).bind fun y10 =>
    chk (decide (v9.length = y10.2.1.length)) <|
    chk (decide ((List.replicate a1.length false).length = y10.1.length)) <|
    bif y10.2.2 then
      chk (nI (v7 + 1)) <|
      k2 (y10.2.1, v7 + 1)
    else
      k2 (y10.2.1, v7)
  else
    k3 v7
def agrafferef08_Most_L1 (k1 : ((List Int) → Option Int)) (back : Nat × (List Int) → Option Int) : Nat × (List Int) → Option Int
  | (v1, v2) =>
  bif decide (v1 < v2.length) then
    chk (nI (v1 + 1)) <|
    back (v1 + 1, (List.set v2 v1 (-1)))
  else
    k1 v2
def agrafferef08_Most (n : Nat) (a0 : List WantedPart) (a1 : List OfferedPart) : Option Int :=
  chk (mkroom 8 a0.length) <|
  withK (fun (v3 : (List Int)) =>
      withK (fun (v13 : Nat) =>
          some ((v13 : Nat) : Int)) fun k3 =>
      loopN (agrafferef08_Most_L2 n a0 a1 k3) n (0, 0, v3)) fun k1 =>
  loopN (agrafferef08_Most_L1 k1) n (0, (List.replicate a0.length (0 : Int)))
def agraffebase_CopyInts_3 (n : Nat) (a0 : List Int) (a1 : Nat) (a2 : Nat) : Option Unit :=
  chk (decide (a1 + a2 ≤ a0.length)) <|
  chk (room 8 (List.take a2 (List.drop a1 a0)).length) <|
  some ()
def agraffebase_Has_2_L1 (a0 : List Int) (a1 : Nat) (a2 : Nat) (a3 : Int) (k1 : (Unit → Option Bool)) (back : Nat → Option Bool) : Nat → Option Bool
  | v1 =>
  bif decide (v1 < a2) then
    chk (decide (a1 + v1 < a0.length)) <|
    bif ((ix a0 (a1 + v1)) == a3) then
      some true
    else
      chk (nI (v1 + 1)) <|
      back (v1 + 1)
  else
    k1 ()
def agraffebase_Has_2 (n : Nat) (a0 : List Int) (a1 : Nat) (a2 : Nat) (a3 : Int) : Option Bool :=
  withK (fun (_ : Unit) =>
      some false) fun k1 =>
  loopN (agraffebase_Has_2_L1 a0 a1 a2 a3 k1) n 0
def agrafferef08_CheckMatch_2_L1 (n : Nat) (a0 : List WantedPart) (a1 : List OfferedPart) (a2 : List Int) (a3 : Nat) (a4 : Nat) (k2 : (Nat → Option (Int × Int))) (back : Nat × Nat → Option (Int × Int)) : Nat × Nat → Option (Int × Int)
  | (v5, v6) =>
  bif decide (v6 < a4) then
    withK (fun (v10 : Nat) =>
        chk (nI (v6 + 1)) <|
        back (v10, v6 + 1)) fun k1 =>
    chk (decide (a3 + v6 < a2.length)) <|
    bif ((ix a2 (a3 + v6)) == ((-1) : Int)) then
      k1 v5
    else
      chk (inI (((a1.length : Nat) : Int) - 1)) <|
      (agraffebase_Within n (ix a2 (a3 + v6)) 0 (((a1.length : Nat) : Int) - 1)).bind fun y7 =>
      bif !((decide (0 ≤ (ix a2 (a3 + v6)))) && (decide ((ix a2 (a3 + v6)) ≤ (((a1.length : Nat) : Int) - 1)))) then
        some (6, 0)
      else
        chk (decide (v6 < a0.length)) <|
        chk (inB (ix a2 (a3 + v6)) a1.length) <|
        chk (decide ((ix a2 (a3 + v6)).toNat < a1.length)) <|
        (agrafferef08_Fits n (ix a0 v6) (ix a1 ((ix a2 (a3 + v6)).toNat))).bind fun y8 =>
        bif !y8 then
          some (15, 0)
        else
          chk (decide (v6 ≤ a4)) <|
          (agraffebase_Has_2 n a2 a3 v6 (ix a2 (a3 + v6))).bind fun y9 =>
          bif y9 then
            some (17, 0)
          else
            chk (nI (v5 + 1)) <|
            k1 (v5 + 1)
  else
    k2 v5
def agrafferef08_CheckMatch_2 (n : Nat) (a0 : List WantedPart) (a1 : List OfferedPart) (a2 : List Int) (a3 : Nat) (a4 : Nat) : Option (Int × Int) :=
  bif !decide (a4 = a0.length) then
    some (10, 0)
  else
    withK (fun (v11 : Nat) =>
        some (0, ((v11 : Nat) : Int))) fun k2 =>
    loopN (agrafferef08_CheckMatch_2_L1 n a0 a1 a2 a3 a4 k2) n (0, 0)
def agraffelaw08_RestoreMatches (n : Nat) (a0 : List WantedPart) (a1 : List OfferedPart) : Option Bool :=
  (agraffelaw08_awake n).bind fun y1 =>
  bif !y1 then
    some false
  else
    (agraffelaw08_places n a0 a1).bind fun y2 =>
    bif !y2 then
      some true
    else
      withK (fun (_ : Unit) =>
          withK (fun (v13 : Int) =>
              (agrafferef08_CheckBoth n a0 a1).bind fun y14 =>
              bif (y14 != (0 : Int)) then
                chk (!(v13 == y14) || nI (0 + 0)) <|
                chk (!(v13 == y14) || nI (0 + 0 + 0)) <|
                some ((v13 == y14) && (decide ((0 + 0 + 0) = 0)))
              else
                (agraffelaw08_wanted n a0).bind fun y15 =>
                (agraffelaw08_offered n a1).bind fun y16 =>
                (agraffebase_CopyInts n ([] : List Int)).bind fun y17 =>
                (restore_CheckMatch n y15 y16 ([] : List Int)).bind fun y18 =>
                (agraffelaw08_wanted n a0).bind fun y19 =>
                (agraffelaw08_offered n a1).bind fun y20 =>
                (agraffebase_CopyInts_2 n ([] : List Int)).bind fun y21 =>
                (agraffebase_CopyInts_2 n ([] : List Int)).bind fun y22 =>
                (restore_CheckCover n y19 y20 (Arr2_ListInt.mk ([] : List Int) ([] : List Int))).bind fun y23 =>
                (agrafferef08_CheckMatch n a0 a1 ([] : List Int)).bind fun y24 =>
                (agrafferef08_CheckCover n a0 a1 (Arr2_ListInt.mk ([] : List Int) ([] : List Int))).bind fun y25 =>
                (agrafferef08_Most n a0 a1).bind fun y26 =>
                some (((((((((v13 == (0 : Int)) && (y18.1 == (0 : Int))) && (y23.1 == (0 : Int))) && (y24.1 == (0 : Int))) && (y25.1 == (0 : Int))) && (y18.2 == y26)) && (y23.2 == y26)) && (y24.2 == y26)) && (y25.2 == y26))) fun k2 =>
          withK (fun (v27, v28, v29, v30) =>
              (agrafferef08_CheckBoth n a0 a1).bind fun y31 =>
              bif (y31 != (0 : Int)) then
                chk (!((0 : Int) == y31) || nI (v27 + v28.length)) <|
                chk (!((0 : Int) == y31) || nI (v27 + v28.length + v29.length)) <|
                some (((0 : Int) == y31) && (decide ((v27 + v28.length + v29.length) = 0)))
              else
                (agraffelaw08_wanted n a0).bind fun y32 =>
                (agraffelaw08_offered n a1).bind fun y33 =>
                (agraffebase_CopyInts_3 n v30 0 v27).bind fun y34 =>
                (restore_CheckMatch n y32 y33 (List.take v27 (List.drop 0 v30))).bind fun y35 =>
                (agraffelaw08_wanted n a0).bind fun y36 =>
                (agraffelaw08_offered n a1).bind fun y37 =>
                (agraffebase_CopyInts_2 n v28).bind fun y38 =>
                (agraffebase_CopyInts_2 n v29).bind fun y39 =>
                (restore_CheckCover n y36 y37 (Arr2_ListInt.mk v28 v29)).bind fun y40 =>
                (agrafferef08_CheckMatch_2 n a0 a1 v30 0 v27).bind fun y41 =>
                (agrafferef08_CheckCover n a0 a1 (Arr2_ListInt.mk v28 v29)).bind fun y42 =>
                (agrafferef08_Most n a0 a1).bind fun y43 =>
                some ((((((((true && (y35.1 == (0 : Int))) && (y40.1 == (0 : Int))) && (y41.1 == (0 : Int))) && (y42.1 == (0 : Int))) && (y35.2 == y43)) && (y40.2 == y43)) && (y41.2 == y43)) && (y42.2 == y43))) fun k3 =>
          (agraffelaw08_wanted n a0).bind fun y8 =>
          (agraffelaw08_offered n a1).bind fun y9 =>
          (restore_Match n y8 y9).bind fun y10 =>
          match y10 with
          | .inl y10 =>
            k2 y10
          | .inr y10 =>
            k3 (y10.1, y10.2.1, y10.2.2.1, y10.2.2.2)) fun k1 =>
      bif (decide (0 < a0.length)) && (decide (0 < a1.length)) then
        (agraffelaw08_wanted n a0).bind fun y3 =>
        chk (decide (0 < y3.length)) <|
        (agraffelaw08_offered n a1).bind fun y4 =>
        chk (decide (0 < y4.length)) <|
        (restore_Fits n (ix y3 0) (ix y4 0)).bind fun y5 =>
        chk (decide (1 ≤ a0.length)) <|
        chk (decide (1 ≤ a1.length)) <|
        (agrafferef08_CheckBoth n (List.take 1 a0) (List.take 1 a1)).bind fun y6 =>
        chk (!((!((y5.1 != y6) || ((y6 != (0 : Int)) && y5.2))) && (y6 == (0 : Int))) || decide (0 < a0.length)) <|
        chk (!((!((y5.1 != y6) || ((y6 != (0 : Int)) && y5.2))) && (y6 == (0 : Int))) || decide (0 < a0.length)) <|
        chk (!((!((y5.1 != y6) || ((y6 != (0 : Int)) && y5.2))) && (y6 == (0 : Int))) || decide (0 < a1.length)) <|
        chk (!((!((y5.1 != y6) || ((y6 != (0 : Int)) && y5.2))) && (y6 == (0 : Int))) || decide (0 < a1.length)) <|
        (gcall ((!((y5.1 != y6) || ((y6 != (0 : Int)) && y5.2))) && (y6 == (0 : Int))) (agrafferef08_Fits n (ix a0 0) (ix a1 0))).bind fun y7 =>
        bif ((y5.1 != y6) || ((y6 != (0 : Int)) && y5.2)) || ((y6 == (0 : Int)) && (!(y5.2 == y7))) then
          some false
        else
          k1 ()
      else
        k1 ()
end
section
set_option maxRecDepth 4000
open Go
theorem loopN_s {α β : Type} (F : (α → Option β) → α → Option β) (n : Nat) (t : α) : loopN F (n + 1) t = F (loopN F n) t := rfl
@[simp] theorem chk_t {α : Type} (k : Option α) : chk true k = k := rfl
theorem chk_of {α : Type} {b : Bool} {k : Option α} (h : b = true) : chk b k = k := by subst h; rfl
@[simp] theorem withK_eq {α β : Type} (j : α → Option β) (f : (α → Option β) → Option β) : withK j f = f j := rfl
@[simp] theorem gcall_some_ {α : Type} [Inhabited α] (g : Bool) (x : α) : (gcall g (some x)) = some (bif g then x else default) := by cases g <;> rfl
theorem nI_of {n : Nat} (h : n ≤ 9223372036854775807) : nI n = true := by simp [nI, h]
theorem inI_of {n : Int} (h : -9223372036854775808 ≤ n) (h2 : n ≤ 9223372036854775807) : inI n = true := by simp [inI, h, h2]
theorem room_of {b n : Nat} (h : n * b ≤ 140737488355328) (h2 : n ≤ 9223372036854775807) : room b n = true := by simp [room, h, h2]
theorem inB_of {q : Int} {n : Nat} (h : 0 ≤ q) (h2 : q.toNat < n) : inB q n = true := by simp [inB, h, h2]
theorem drop_ix {α : Type} [Inhabited α] {l : List α} {v : Nat} (h : v < l.length) : l.drop v = ix l v :: l.drop (v + 1) := by
  rw [ix_eq h]; exact List.drop_eq_getElem_cons h
theorem drop_nil {α : Type} {l : List α} {v : Nat} (h : ¬ v < l.length) : l.drop v = [] := List.drop_eq_nil_of_le (by omega)
def isL (c : UInt8) : Bool := (decide ((97 : Int) ≤ ((c.toNat : Nat) : Int)) && decide (((c.toNat : Nat) : Int) ≤ (122 : Int))) || (decide ((65 : Int) ≤ ((c.toNat : Nat) : Int)) && decide (((c.toNat : Nat) : Int) ≤ (90 : Int)))
def isD (c : UInt8) : Bool := decide ((48 : Int) ≤ ((c.toNat : Nat) : Int)) && decide (((c.toNat : Nat) : Int) ≤ (57 : Int))
def okC (c : UInt8) : Bool := isL c || isD c || (((c.toNat : Nat) : Int) == (45 : Int))
def nameB (s : Str) : Bool := match s with
  | [] => false
  | c :: r => isL c && r.all okC && decide (r.length < 12)
end
section
set_option maxRecDepth 4000
open Go
theorem getD_ix (s : Str) (v : Nat) : List.getD s v 0 = ix s v := by
  simp only [ix, List.getD]; rfl
theorem isName_loop (s : Str) (k : Unit → Option Bool) : ∀ (n v : Nat), s.length - v < n → 0 < v → s.length < 9223372036854775807 → loopN (restore_isName_L1 s k) n v = bif (s.drop v).all okC then k () else some false := by
  intro n
  induction n with
  | zero => intro v h; omega
  | succ n ih =>
    intro v hn hv hl
    rw [loopN_s, restore_isName_L1]
    by_cases h : v < s.length
    · rw [drop_ix h]
      have h2 : ¬ v = 0 := by omega
      simp only [h, decide_true, cond_true, h2, decide_false, Bool.false_or, List.all_cons, nI_of (by omega : v + 1 ≤ 9223372036854775807), chk_t]
      rw [ih (v + 1) (by omega) (by omega) hl]
      have key : (!((decide ((97 : Int) ≤ (((ix s v).toNat : Nat) : Int)) && decide ((((ix s v).toNat : Nat) : Int) ≤ (122 : Int))) || (decide ((65 : Int) ≤ (((ix s v).toNat : Nat) : Int)) && decide ((((ix s v).toNat : Nat) : Int) ≤ (90 : Int)))) && (((((ix s v).toNat : Nat) : Int) != (45 : Int)) && (decide ((((ix s v).toNat : Nat) : Int) < (48 : Int)) || decide ((57 : Int) < (((ix s v).toNat : Nat) : Int))))) = !okC (ix s v) := by
        have hd : (decide ((((ix s v).toNat : Nat) : Int) < (48 : Int)) || decide ((57 : Int) < (((ix s v).toNat : Nat) : Int))) = !isD (ix s v) := by
          simp only [isD, Bool.not_and, ← decide_not, Int.not_le]
        rw [hd]
        show (!isL (ix s v) && _) = _
        simp only [okC]
        cases isL (ix s v) <;> cases isD (ix s v) <;> cases hh : (((((ix s v).toNat : Nat) : Int)) == (45 : Int)) <;> simp [bne, hh]
      rw [key]
      cases okC (ix s v) <;> simp
    · rw [drop_nil h]
      simp [h]
theorem isName_eq (s : Str) (n : Nat) (hn : s.length + 1 < n) (hl : s.length < 9223372036854775807) : restore_isName n s = some (nameB s) := by
  obtain ⟨n, rfl⟩ : ∃ m, n = m + 1 := ⟨n - 1, by omega⟩
  rw [restore_isName, withK_eq, loopN_s, restore_isName_L1]
  cases s with
  | nil => simp [nameB]
  | cons c r =>
    have h0 : 0 < (c :: r).length := by simp
    have hix : ix (c :: r) 0 = c := rfl
    simp only [h0, decide_true, cond_true, hix, Bool.true_or, Bool.and_true, nI_of (by simp : 0 + 1 ≤ 9223372036854775807), chk_t]
    rw [isName_loop _ _ n 1 (by simp at hn ⊢; omega) (by omega) hl]
    show (bif !isL c then some false else _) = _
    simp only [nameB, List.drop_succ_cons, List.drop_zero]
    cases hL : isL c <;> cases hA : r.all okC <;> simp
    omega
theorem IsName_loop (s : Str) (n0 : Nat) (k : Unit → Option Bool) : ∀ (n v : Nat), s.length - v < n → s.length < 9223372036854775807 → loopN (agraffebase_IsName_L1 n0 s k) n v = bif (s.drop v).all okC then k () else some false := by
  intro n
  induction n with
  | zero => intro v h; omega
  | succ n ih =>
    intro v hn hl
    rw [loopN_s, agraffebase_IsName_L1]
    by_cases h : v < s.length
    · rw [drop_ix h]
      simp only [h, decide_true, cond_true, agraffebase_isLetter, agraffebase_isDigit, gcall_some_, Option.bind_some, getD_ix, List.all_cons, nI_of (by omega : v + 1 ≤ 9223372036854775807), chk_t]
      rw [ih (v + 1) (by omega) hl]
      show (bif ((!isL (ix s v)) && (!isD (ix s v))) && ((((ix s v).toNat : Nat) : Int) != (45 : Int)) then _ else _) = _
      simp only [okC]
      cases isL (ix s v) <;> cases isD (ix s v) <;> cases hh : (((((ix s v).toNat : Nat) : Int)) == (45 : Int)) <;> simp [bne, hh]
    · rw [drop_nil h]
      simp [h]
theorem IsName_eq (s : Str) (n : Nat) (hn : s.length + 1 < n) (hl : s.length < 9223372036854775807) : agraffebase_IsName n s = some (nameB s) := by
  rw [agraffebase_IsName]
  simp only [agraffebase_isLetter, gcall_some_, Option.bind_some, getD_ix, withK_eq]
  rw [IsName_loop _ _ _ _ _ (by omega) hl]
  cases s with
  | nil => simp [nameB]
  | cons c r =>
    have h0 : ¬ (c :: r).length = 0 := by simp
    have h1 : 0 < (c :: r).length := by simp
    have hix : ix (c :: r) 0 = c := rfl
    simp only [h0, h1, decide_true, decide_false, Bool.false_or, Bool.or_true, chk_t, hix, List.drop_zero]
    show (bif (decide (12 < (c :: r).length)) || (!isL c) then _ else _) = _
    simp only [nameB, List.all_cons, okC, List.length_cons]
    by_cases hlen : r.length < 12
    · have : ¬ 12 < r.length + 1 := by omega
      cases hL : isL c <;> cases hA : r.all okC <;> simp [this, hlen, hA]
    · have : 12 < r.length + 1 := by omega
      simp [this, hlen]
end
section
set_option maxRecDepth 4000
open Go
theorem bne_t {x : Int} (h : ¬ x = 0) : (x != 0) = true := by simp [bne, h]
def firstE (E : Nat → Int) : Nat → Nat → Int
  | _, 0 => 0
  | v, m + 1 => bif E v != 0 then E v else firstE E (v + 1) m
theorem firstE_zero {E : Nat → Int} : ∀ {m v : Nat}, firstE E v m = 0 → ∀ j, v ≤ j → j < v + m → E j = 0
  | 0, v, _, j, h1, h2 => by omega
  | m + 1, v, h, j, h1, h2 => by
    unfold firstE at h
    by_cases e : E v = 0
    · simp [e] at h
      by_cases hj : j = v
      · rw [hj]; exact e
      · exact firstE_zero h j (by omega) (by omega)
    · rw [bne_t e, cond_true] at h; exact absurd h e
theorem loop_first {σ R : Type} {F : (σ → Option R) → σ → Option R} {st : Nat → σ} {E : Nat → Int} {err : Int → Option R} {k : Option R} {len : Nat}
    (h1 : ∀ back v, v < len → (∀ j, j < v → E j = 0) → F back (st v) = bif E v != 0 then err (E v) else back (st (v + 1)))
    (h2 : ∀ back, (∀ j, j < len → E j = 0) → F back (st len) = k) : ∀ n v, len - v < n → v ≤ len → (∀ j, j < v → E j = 0) → loopN F n (st v) = bif firstE E v (len - v) != 0 then err (firstE E v (len - v)) else k := by
  intro n
  induction n with
  | zero => intro v h; omega
  | succ n ih =>
    intro v hn hv hz
    rw [loopN_s]
    by_cases h : v < len
    · rw [h1 _ v h hz, show len - v = (len - (v + 1)) + 1 by omega]
      unfold firstE
      by_cases e : E v = 0
      · simp only [e, bne_self_eq_false, cond_false]
        exact ih (v + 1) (by omega) (by omega) fun j hj => by
          by_cases hjv : j = v
          · rw [hjv]; exact e
          · exact hz j (by omega)
      · rw [bne_t e, cond_true, cond_true, bne_t e, cond_true]
    · have : v = len := by omega
      subst this
      rw [h2 _ hz, Nat.sub_self]
      simp [firstE]
theorem loop_through {σ R : Type} {F : (σ → Option R) → σ → Option R} {st : Nat → σ} {k : Option R} {len : Nat} (h1 : ∀ back v, v < len → F back (st v) = back (st (v + 1))) (h2 : ∀ back, F back (st len) = k) : ∀ n, len < n → loopN F n (st 0) = k := by
  intro n hn
  have := loop_first (F := F) (st := st) (E := fun _ => 0) (err := fun _ => none) (k := k) (len := len) (fun back v hv _ => by simp [h1 back v hv]) (fun back _ => h2 back) n 0 (by omega) (by omega) (fun _ _ => rfl)
  rw [this, Nat.sub_zero]
  have : firstE (fun _ => (0 : Int)) 0 len = 0 := by
    have : ∀ m v, firstE (fun _ => (0 : Int)) v m = 0 := by
      intro m
      induction m with
      | zero => intro v; rfl
      | succ m ih => intro v; simp [firstE, ih]
    exact this _ _
  rw [this]; rfl
def findI {α : Type} (p : α → Bool) (l : List α) : Int := match l.findIdx? p with
  | some i => ((i : Nat) : Int)
  | none => -1
end
section
set_option maxRecDepth 4000
open Go
theorem loop_find' {α R : Type} [Inhabited α] {l : List α} {p : α → Bool} {F : (Nat → Option R) → Nat → Option R} {yes : Nat → Option R} {no : Option R}
    (h1 : ∀ back v, v < l.length → F back v = bif p (ix l v) then yes v else back (v + 1)) (h2 : ∀ back, F back l.length = no) :
    ∀ n v, v ≤ l.length → l.length - v < n → loopN F n v = match (l.drop v).findIdx? p with | some i => yes (v + i) | none => no := by
  intro n
  induction n with
  | zero => intro v _ h; omega
  | succ n ih =>
    intro v hv hn
    rw [loopN_s]
    by_cases h : v < l.length
    · rw [h1 _ v h, drop_ix h, List.findIdx?_cons]
      cases hp : p (ix l v) with
      | true => simp
      | false =>
        simp only [cond_false, Bool.false_eq_true, if_false]
        rw [ih (v + 1) (by omega) (by omega)]
        cases hh : (l.drop (v + 1)).findIdx? p with
        | none => simp
        | some i => simp [Nat.add_assoc, Nat.add_comm 1 i]
    · have : v = l.length := by omega
      subst this
      rw [h2, drop_nil h]
      simp
theorem any_findIdx {α : Type} (p : α → Bool) (l : List α) : (l.findIdx? p).isSome = l.any p := by
  induction l with
  | nil => rfl
  | cons x l ih =>
    rw [List.findIdx?_cons, List.any_cons]
    cases p x <;> simp [ih]
theorem loop_any' {α R : Type} [Inhabited α] {l : List α} {p : α → Bool} {F : (Nat → Option R) → Nat → Option R} {bad no : Option R}
    (h1 : ∀ back v, v < l.length → F back v = bif p (ix l v) then bad else back (v + 1)) (h2 : ∀ back, F back l.length = no) (n : Nat) (hn : l.length < n) : loopN F n 0 = bif l.any p then bad else no := by
  rw [loop_find' (yes := fun _ => bad) h1 h2 n 0 (by omega) (by omega), List.drop_zero, ← any_findIdx]
  cases l.findIdx? p <;> rfl
theorem loop_findI {α : Type} [Inhabited α] {l : List α} {p : α → Bool} {F : (Nat → Option Int) → Nat → Option Int}
    (h1 : ∀ back v, v < l.length → F back v = bif p (ix l v) then some ((v : Nat) : Int) else back (v + 1)) (h2 : ∀ back, F back l.length = some (-1)) (n : Nat) (hn : l.length < n) : loopN F n 0 = some (findI p l) := by
  rw [loop_find' h1 h2 n 0 (by omega) (by omega), List.drop_zero, findI]
  cases l.findIdx? p <;> simp
theorem findI_any {α : Type} (p : α → Bool) (l : List α) : decide ((0 : Int) ≤ findI p l) = l.any p := by
  rw [← any_findIdx, findI]
  cases l.findIdx? p <;> simp
theorem loop_fold {σ R : Type} {F : (σ × Nat → Option R) → σ × Nat → Option R} {st : Nat → σ} {k : Option R} {len : Nat} (h1 : ∀ back v, v < len → F back (st v, v) = back (st (v + 1), v + 1)) (h2 : ∀ back, F back (st len, len) = k) (n : Nat) (hn : len < n) {s0 : σ} (h0 : st 0 = s0) : loopN F n (s0, 0) = k := by
  subst h0
  exact loop_through (st := fun v => (st v, v)) h1 h2 n hn
theorem loop_fold' {σ R : Type} {F : (Nat × σ → Option R) → Nat × σ → Option R} {st : Nat → σ} {k : Option R} {len : Nat} (h1 : ∀ back v, v < len → F back (v, st v) = back (v + 1, st (v + 1))) (h2 : ∀ back, F back (len, st len) = k) (n : Nat) (hn : len < n) {s0 : σ} (h0 : st 0 = s0) : loopN F n (0, s0) = k := by
  subst h0
  exact loop_through (st := fun v => (v, st v)) h1 h2 n hn
theorem ix_take {α : Type} [Inhabited α] {l : List α} {i v : Nat} (h : v < i) (hl : v < l.length) : ix (l.take i) v = ix l v := by
  rw [ix_eq (by simp; omega), ix_eq hl, List.getElem_take]
end
section
set_option maxRecDepth 4000
open Go
variable {n : Nat}
def byName (s : Str) (x : Task) : Bool := x.Name == s
def isS (s : Str) (x : Str) : Bool := x == s
theorem HasText2_eq (l : List Str) (s : Str) (hn : l.length < n) (hl : l.length < 9223372036854775807) : agraffebase_HasText_2 n l s = some (l.any (isS s)) := by
  rw [agraffebase_HasText_2, withK_eq, loop_any' (p := isS s) (fun back v hv => ?_) (fun back => ?_) n hn]
  · cases l.any (isS s) <;> rfl
  · rw [agraffebase_HasText_2_L1]; simp only [hv, decide_true, cond_true, nI_of (by omega : v + 1 ≤ 9223372036854775807), chk_t]; rfl
  · rw [agraffebase_HasText_2_L1]; simp
theorem isS_comm (s x : Str) : (s == x) = isS s x := by
  unfold isS
  rw [Bool.eq_iff_iff, beq_iff_eq, beq_iff_eq]
  exact eq_comm
theorem bif_id {x : Int} : (bif x != 0 then some x else some 0) = some x := by
  by_cases h : x = 0
  · simp [h]
  · rw [bne_t h]; rfl
end
section
set_option maxRecDepth 4000
open Go
variable {n : Nat}
theorem nodup_len {α : Type} [DecidableEq α] : ∀ (l m : List α), l.Nodup → (∀ x ∈ l, x ∈ m) → l.length ≤ m.length
  | [], _, _, _ => Nat.zero_le _
  | a :: l, m, h, hs => by
    have ha : a ∈ m := hs a (by simp)
    have h2 := List.nodup_cons.1 h
    have := nodup_len l (m.erase a) h2.2 fun x hx => (List.mem_erase_of_ne (by rintro rfl; exact h2.1 hx)).2 (hs x (by simp [hx]))
    rw [List.length_erase_of_mem ha] at this
    have hm := List.length_pos_of_mem ha
    simp only [List.length_cons]; omega
theorem any_isS {l : List Str} {s : Str} : l.any (isS s) = true ↔ s ∈ l := by
  rw [List.any_eq_true]
  constructor
  · rintro ⟨x, hx, h⟩; rw [← eq_of_beq h]; exact hx
  · exact fun h => ⟨s, h, by simp [isS]⟩
theorem any_byName {t : List Task} {s : Str} : t.any (byName s) = true ↔ ∃ x ∈ t, x.Name = s := by
  rw [List.any_eq_true]
  constructor
  · rintro ⟨x, hx, h⟩; exact ⟨x, hx, eq_of_beq h⟩
  · rintro ⟨x, hx, h⟩; exact ⟨x, hx, by simp [byName, h]⟩
def leads (x : Task) : List Str := x.Needs ++ x.OneOf.flatten
def Inv (t : List Task) (out : List Str) : Prop := out.Nodup ∧ ∀ s ∈ out, t.any (byName s) = true
theorem Inv.len {t : List Task} {out : List Str} (h : Inv t out) : out.length ≤ t.length := by
  have := nodup_len out (t.map Task.Name) h.1 fun s hs => by
    obtain ⟨x, hx, rfl⟩ := any_byName.1 (h.2 s hs)
    exact List.mem_map.2 ⟨x, hx, rfl⟩
  simpa using this
theorem Inv.nil (t : List Task) : Inv t [] := ⟨List.nodup_nil, by simp⟩
def rdy (inS : Str → Bool) (out : List Str) (x : Task) : Bool := (inS x.Name && !out.any (isS x.Name)) && !(leads x).any (fun s => inS s && !out.any (isS s))
theorem Inv.step {t : List Task} {out : List Str} (h : Inv t out) {inS : Str → Bool} {x : Task} (hx : x ∈ t) (hr : rdy inS out x = true) : Inv t (out ++ [x.Name]) := by
  unfold rdy at hr
  simp only [Bool.and_eq_true, Bool.not_eq_true'] at hr
  have hn : x.Name ∉ out := fun hm => by
    have := any_isS.2 hm
    rw [hr.1.2] at this; cases this
  refine ⟨List.nodup_append.2 ⟨h.1, by simp, fun a ha b hb => ?_⟩, fun s hs => ?_⟩
  · simp only [List.mem_singleton] at hb
    subst hb
    rintro rfl; exact hn ha
  · rw [List.mem_append, List.mem_singleton] at hs
    rcases hs with hs | rfl
    · exact h.2 s hs
    · exact any_byName.2 ⟨x, hx, rfl⟩
end
section
set_option maxRecDepth 4000
open Go
end
section
set_option maxRecDepth 4000
open Go
variable {n : Nat}
@[simp] theorem gcall_t {α : Type} [Inhabited α] (x : Option α) : gcall true x = x := rfl
@[simp] theorem gcall_f {α : Type} [Inhabited α] (x : Option α) : gcall false x = some default := rfl
theorem set_ix {α : Type} [Inhabited α] {l : List α} {i : Nat} (h : i < l.length) : l.set i (ix l i) = l := by
  rw [ix_eq h]; exact List.set_getElem_self h
end
section
set_option maxRecDepth 4000
open Go
variable {n : Nat}
theorem ix_range {len v : Nat} (h : v < len) : ix (List.range len) v = v := by rw [ix_eq (by simpa using h)]; simp
theorem loop_anyN {R : Type} {len : Nat} {p : Nat → Bool} {F : (Nat → Option R) → Nat → Option R} {bad no : Option R}
    (h1 : ∀ back v, v < len → F back v = bif p v then bad else back (v + 1)) (h2 : ∀ back, F back len = no) (n : Nat) (hn : len < n) : loopN F n 0 = bif (List.range len).any p then bad else no :=
  loop_any' (l := List.range len) (fun back v hv => by rw [List.length_range] at hv; rw [h1 back v hv, ix_range hv]) (fun back => by rw [List.length_range]; exact h2 back) n (by simpa using hn)
theorem loop_anyI {R : Type} {len : Nat} {p : Nat → Bool} {F : (Int → Option R) → Int → Option R} {bad no : Option R}
    (h1 : ∀ back (v : Nat), v < len → F back (v : Int) = bif p v then bad else back ((v : Int) + 1)) (h2 : ∀ back (v : Nat), len ≤ v → F back (v : Int) = no) : ∀ n s : Nat, len - s < n → loopN F n (s : Int) = bif (List.range' s (len - s)).any p then bad else no := by
  intro n
  induction n with
  | zero => intro s h; omega
  | succ n ih =>
    intro s hn
    rw [loopN_s]
    by_cases h : s < len
    · rw [h1 _ s h, show len - s = (len - (s + 1)) + 1 by omega, List.range'_succ, List.any_cons]
      cases p s with
      | true => simp
      | false =>
        have e : (s : Int) + 1 = ((s + 1 : Nat) : Int) := by omega
        simp only [cond_false, Bool.false_or, e]
        exact ih (s + 1) (by omega)
    · rw [h2 _ s (by omega), show len - s = 0 by omega]
      rfl
structure OkW (w : List WantedPart) : Prop where
  len : w.length ≤ 43
  name : ∀ x ∈ w, x.Name.length ≤ 20
  rng : ∀ x ∈ w, x.Ranges.length ≤ 8
structure OkO (o : List OfferedPart) : Prop where
  len : o.length ≤ 43
  name : ∀ x ∈ o, x.Name.length ≤ 20
  siz : ∀ x ∈ o, x.Sizes.length ≤ 8
def badR (r : Range) : Bool := ((decide (r.Lo < (0 : Int))) || (decide (r.Hi < r.Lo))) || (decide ((1000000 : Int) < r.Hi))
def badS (x : Int) : Bool := !((decide (0 ≤ x)) && (decide (x ≤ 1000000)))
def few16 (l : Nat) : Bool := (decide (1 ≤ ((l : Nat) : Int))) && (decide (((l : Nat) : Int) ≤ 6))
def rngE (x : WantedPart) : Int := bif !few16 x.Ranges.length then 10 else bif x.Ranges.any badR then 2 else 0
def sizE (x : OfferedPart) : Int := bif !few16 x.Sizes.length then 10 else bif x.Sizes.any badS then 2 else 0
def wantE (w : List WantedPart) (v : Nat) : Int := bif !nameB (ix w v).Name then 4 else bif (w.take v).any (fun y => y.Name == (ix w v).Name) then 5 else rngE (ix w v)
def offE (w : List OfferedPart) (v : Nat) : Int := bif !nameB (ix w v).Name then 4 else bif (w.take v).any (fun y => y.Name == (ix w v).Name) then 5 else sizE (ix w v)
def wantC (w : List WantedPart) : Int := bif decide (40 < w.length) then 8 else firstE (wantE w) 0 w.length
def offC (w : List OfferedPart) : Int := bif decide (40 < w.length) then 8 else firstE (offE w) 0 w.length
def bothC (w : List WantedPart) (o : List OfferedPart) : Int := bif wantC w != 0 then wantC w else offC o
theorem lookup_mPut {β : Type} (x : Str) (v : β) (y : Str) : ∀ m : List (Str × β), List.lookup y (mPut x v m) = bif y == x then some v else List.lookup y m := by
  intro m
  induction m with
  | nil =>
    simp only [mPut, List.lookup]
    cases y == x <;> rfl
  | cons p m ih =>
    obtain ⟨k, u⟩ := p
    simp only [mPut]
    by_cases h : x = k
    · subst h
      simp only [beq_self_eq_true, List.lookup]
      cases y == x <;> rfl
    · have e : (x == k) = false := by simpa using h
      rw [e]
      simp only [List.lookup]
      cases hy : y == k
      · exact ih
      · have : y = k := eq_of_beq hy
        have : (y == x) = false := by rw [this]; simpa using Ne.symm h
        rw [this]; rfl
def mapOf (l : List Str) : List (Str × Bool) := l.foldl (fun m s => mPut s true m) []
theorem mapOf_snoc (l : List Str) (s : Str) : mapOf (l ++ [s]) = mPut s true (mapOf l) := by simp [mapOf]
theorem lookup_mapOf (s : Str) (l : List Str) : (List.lookup s (mapOf l)).getD false = l.any (isS s) := by
  have : ∀ k (l : List Str), l.length = k → (List.lookup s (mapOf l)).getD false = l.any (isS s) := by
    intro k
    induction k with
    | zero =>
      intro l hl
      rw [List.eq_nil_of_length_eq_zero hl]; rfl
    | succ k ih =>
      intro l hl
      have hne : l ≠ [] := by rintro rfl; simp at hl
      rw [← List.dropLast_concat_getLast hne, mapOf_snoc, lookup_mPut, List.any_append]
      have e := ih l.dropLast (by simp; omega)
      cases h : s == l.getLast hne
      · have : isS s (l.getLast hne) = false := by rw [← isS_comm]; exact h
        simp only [cond_false, List.any_cons, List.any_nil, this, Bool.or_false, e]
      · have : isS s (l.getLast hne) = true := by rw [← isS_comm]; exact h
        simp only [cond_true, List.any_cons, this, Option.getD_some, Bool.true_or, Bool.or_true]
  exact this _ l rfl
theorem ranges_res (x : WantedPart) (hx : x.Ranges.length ≤ 8) (hn : 1000 < n) : restore_checkRanges n x = some (rngE x) := by
  rw [restore_checkRanges, slices_ContainsFunc_Range, slices_IndexFunc_Range, withK_eq, loop_findI (l := x.Ranges) (p := badR) (fun back v hv => ?_) (fun back => ?_) n (by omega)]
  · simp only [restore_within, Option.bind_some, findI_any, rngE, few16]
    cases (decide (1 ≤ ((x.Ranges.length : Nat) : Int))) && (decide (((x.Ranges.length : Nat) : Int) ≤ 6)) <;> cases x.Ranges.any badR <;> rfl
  · rw [slices_IndexFunc_Range_L1]; simp only [hv, decide_true, cond_true, restore_checkRanges_f1, Option.bind_some, nI_of (by omega : v + 1 ≤ 9223372036854775807), chk_t]; rfl
  · rw [slices_IndexFunc_Range_L1]; simp
theorem sizes_res (x : OfferedPart) (hx : x.Sizes.length ≤ 8) (hn : 1000 < n) : restore_checkSizes n x = some (sizE x) := by
  rw [restore_checkSizes, slices_ContainsFunc_int, slices_IndexFunc_int, withK_eq, loop_findI (l := x.Sizes) (p := badS) (fun back v hv => ?_) (fun back => ?_) n (by omega)]
  · simp only [restore_within, Option.bind_some, findI_any, sizE, few16]
    cases (decide (1 ≤ ((x.Sizes.length : Nat) : Int))) && (decide (((x.Sizes.length : Nat) : Int) ≤ 6)) <;> cases x.Sizes.any badS <;> rfl
  · rw [slices_IndexFunc_int_L1]; simp only [hv, decide_true, cond_true, restore_checkSizes_f1, restore_within, Option.bind_some, nI_of (by omega : v + 1 ≤ 9223372036854775807), chk_t]; rfl
  · rw [slices_IndexFunc_int_L1]; simp
theorem wanted_res {w : List WantedPart} (h : OkW w) (hn : 1000 < n) : restore_named_WantedPart n w 40 = some (wantC w) := by
  have hlen := h.len
  rw [restore_named_WantedPart, wantC]
  by_cases hl : 40 < w.length
  · have : (40 : Int) < ((w.length : Nat) : Int) := by omega
    simp [hl, this]
  have hl2 : ¬ (40 : Int) < ((w.length : Nat) : Int) := by omega
  simp only [hl, hl2, decide_false, cond_false, withK_eq]
  have e0 : (0, ([] : List (Str × Bool))) = (fun v => (v, mapOf ((w.take v).map WantedPart.Name))) 0 := by simp [mapOf]
  rw [e0, loop_first (st := fun v => (v, mapOf ((w.take v).map WantedPart.Name))) (E := wantE w) (err := some) (k := some 0) (len := w.length) (fun back v hv _ => ?_) (fun back _ => ?_) n 0 (by omega) (by omega) (fun j h => by omega), Nat.sub_zero, bif_id]
  · rw [restore_named_WantedPart_L1]
    have h1 := h.name _ (ix_mem hv)
    have h2 := h.rng _ (ix_mem hv)
    have hmap : ((w.take v).map WantedPart.Name).any (isS (ix w v).Name) = (w.take v).any (fun y => y.Name == (ix w v).Name) := by
      rw [List.any_map]; rfl
    simp only [hv, decide_true, cond_true, restore_checkBoth_f1, isName_eq (ix w v).Name n (by omega) (by omega), Option.bind_some, lookup_mapOf, hmap, ranges_res (ix w v) h2 hn, nI_of (by omega : v + 1 ≤ 9223372036854775807), chk_t, wantE]
    rw [List.take_succ_eq_append_getElem hv, List.map_append, List.map_cons, List.map_nil, mapOf_snoc, ← ix_eq hv]
    cases nameB (ix w v).Name <;> cases (w.take v).any (fun y => y.Name == (ix w v).Name) <;> rfl
  · rw [restore_named_WantedPart_L1]
    simp
theorem offered_res {w : List OfferedPart} (h : OkO w) (hn : 1000 < n) : restore_named_OfferedPart n w 40 = some (offC w) := by
  have hlen := h.len
  rw [restore_named_OfferedPart, offC]
  by_cases hl : 40 < w.length
  · have : (40 : Int) < ((w.length : Nat) : Int) := by omega
    simp [hl, this]
  have hl2 : ¬ (40 : Int) < ((w.length : Nat) : Int) := by omega
  simp only [hl, hl2, decide_false, cond_false, withK_eq]
  have e0 : (0, ([] : List (Str × Bool))) = (fun v => (v, mapOf ((w.take v).map OfferedPart.Name))) 0 := by simp [mapOf]
  rw [e0, loop_first (st := fun v => (v, mapOf ((w.take v).map OfferedPart.Name))) (E := offE w) (err := some) (k := some 0) (len := w.length) (fun back v hv _ => ?_) (fun back _ => ?_) n 0 (by omega) (by omega) (fun j h => by omega), Nat.sub_zero, bif_id]
  · rw [restore_named_OfferedPart_L1]
    have h1 := h.name _ (ix_mem hv)
    have h2 := h.siz _ (ix_mem hv)
    have hmap : ((w.take v).map OfferedPart.Name).any (isS (ix w v).Name) = (w.take v).any (fun y => y.Name == (ix w v).Name) := by
      rw [List.any_map]; rfl
    simp only [hv, decide_true, cond_true, restore_checkBoth_f2, isName_eq (ix w v).Name n (by omega) (by omega), Option.bind_some, lookup_mapOf, hmap, sizes_res (ix w v) h2 hn, nI_of (by omega : v + 1 ≤ 9223372036854775807), chk_t, offE]
    rw [List.take_succ_eq_append_getElem hv, List.map_append, List.map_cons, List.map_nil, mapOf_snoc, ← ix_eq hv]
    cases nameB (ix w v).Name <;> cases (w.take v).any (fun y => y.Name == (ix w v).Name) <;> rfl
  · rw [restore_named_OfferedPart_L1]
    simp
theorem both_res {w : List WantedPart} {o : List OfferedPart} (hw : OkW w) (ho : OkO o) (hn : 1000 < n) : restore_checkBoth n w o = some (bothC w o) := by
  rw [restore_checkBoth, wanted_res hw hn, offered_res ho hn, bothC]
  simp only [Option.bind_some]
  cases wantC w != 0 <;> rfl
theorem wanted_ref {w : List WantedPart} (h : OkW w) (hn : 1000 < n) : agrafferef08_CheckWanted n w = some (wantC w) := by
  have hlen := h.len
  rw [agrafferef08_CheckWanted, wantC]
  by_cases hl : 40 < w.length
  · simp [hl]
  simp only [hl, decide_false, cond_false, withK_eq]
  have e0 : (([] : List Str), 0) = (fun v => ((w.take v).map WantedPart.Name, v)) 0 := by simp
  rw [e0, loop_first (st := fun v => ((w.take v).map WantedPart.Name, v)) (E := wantE w) (err := some) (k := some 0) (len := w.length) (fun back v hv _ => ?_) (fun back _ => ?_) n 0 (by omega) (by omega) (fun j h => by omega), Nat.sub_zero, bif_id]
  · rw [agrafferef08_CheckWanted_L2]
    have h1 := h.name _ (ix_mem hv)
    have h2 := h.rng _ (ix_mem hv)
    have hmap : ((w.take v).map WantedPart.Name).any (isS (ix w v).Name) = (w.take v).any (fun y => y.Name == (ix w v).Name) := by
      rw [List.any_map]; rfl
    have hloop : ∀ k : Option Int, loopN (agrafferef08_CheckWanted_L1 n w v fun _ => k) n 0 = bif (ix w v).Ranges.any badR then some 2 else k := by
      intro k
      refine loop_any' (l := (ix w v).Ranges) (p := badR) (fun back' v' hv' => ?_) (fun back' => ?_) n (by omega)
      · rw [agrafferef08_CheckWanted_L1]
        have e : ((!((decide (0 ≤ ((ix ((ix w v).Ranges) v').Lo))) && (decide (((ix ((ix w v).Ranges) v').Lo) ≤ ((ix ((ix w v).Ranges) v').Hi))))) || (decide ((1000000 : Int) < ((ix ((ix w v).Ranges) v').Hi)))) = badR (ix (ix w v).Ranges v') := by
          simp only [badR, Bool.not_and, ← decide_not, Int.not_le]
        simp only [hv', decide_true, cond_true, chk_t, agraffebase_Within, Option.bind_some, e, nI_of (by omega : v' + 1 ≤ 9223372036854775807)]
      · rw [agrafferef08_CheckWanted_L1]
        simp
    simp only [hv, decide_true, cond_true, withK_eq, IsName_eq (ix w v).Name n (by omega) (by omega), Option.bind_some, HasText2_eq (n := n) ((w.take v).map WantedPart.Name) (ix w v).Name (by simp; omega) (by simp; omega), hmap, agraffebase_Within, nI_of (by omega : v + 1 ≤ 9223372036854775807), chk_t, wantE, rngE, few16, hloop]
    rw [chk_of (room_of (by simp; omega) (by simp; omega)), List.take_succ_eq_append_getElem hv, List.map_append, List.map_cons, List.map_nil, ← ix_eq hv]
    cases nameB (ix w v).Name <;> cases (w.take v).any (fun y => y.Name == (ix w v).Name) <;> cases (decide (1 ≤ (((ix w v).Ranges.length : Nat) : Int))) && (decide ((((ix w v).Ranges.length : Nat) : Int) ≤ 6)) <;> cases (ix w v).Ranges.any badR <;> rfl
  · rw [agrafferef08_CheckWanted_L2]
    simp
theorem offered_ref {w : List OfferedPart} (h : OkO w) (hn : 1000 < n) : agrafferef08_CheckOffered n w = some (offC w) := by
  have hlen := h.len
  rw [agrafferef08_CheckOffered, offC]
  by_cases hl : 40 < w.length
  · simp [hl]
  simp only [hl, decide_false, cond_false, withK_eq]
  have e0 : (([] : List Str), 0) = (fun v => ((w.take v).map OfferedPart.Name, v)) 0 := by simp
  rw [e0, loop_first (st := fun v => ((w.take v).map OfferedPart.Name, v)) (E := offE w) (err := some) (k := some 0) (len := w.length) (fun back v hv _ => ?_) (fun back _ => ?_) n 0 (by omega) (by omega) (fun j h => by omega), Nat.sub_zero, bif_id]
  · rw [agrafferef08_CheckOffered_L2]
    have h1 := h.name _ (ix_mem hv)
    have h2 := h.siz _ (ix_mem hv)
    have hmap : ((w.take v).map OfferedPart.Name).any (isS (ix w v).Name) = (w.take v).any (fun y => y.Name == (ix w v).Name) := by
      rw [List.any_map]; rfl
    have hloop : ∀ k : Option Int, loopN (agrafferef08_CheckOffered_L1 n w v fun _ => k) n 0 = bif (ix w v).Sizes.any badS then some 2 else k := by
      intro k
      refine loop_any' (l := (ix w v).Sizes) (p := badS) (fun back' v' hv' => ?_) (fun back' => ?_) n (by omega)
      · rw [agrafferef08_CheckOffered_L1]
        simp only [hv', decide_true, cond_true, chk_t, agraffebase_Within, Option.bind_some, nI_of (by omega : v' + 1 ≤ 9223372036854775807)]
        rfl
      · rw [agrafferef08_CheckOffered_L1]
        simp
    simp only [hv, decide_true, cond_true, withK_eq, IsName_eq (ix w v).Name n (by omega) (by omega), Option.bind_some, HasText2_eq (n := n) ((w.take v).map OfferedPart.Name) (ix w v).Name (by simp; omega) (by simp; omega), hmap, agraffebase_Within, nI_of (by omega : v + 1 ≤ 9223372036854775807), chk_t, offE, sizE, few16, hloop]
    rw [chk_of (room_of (by simp; omega) (by simp; omega)), List.take_succ_eq_append_getElem hv, List.map_append, List.map_cons, List.map_nil, ← ix_eq hv]
    cases nameB (ix w v).Name <;> cases (w.take v).any (fun y => y.Name == (ix w v).Name) <;> cases (decide (1 ≤ (((ix w v).Sizes.length : Nat) : Int))) && (decide ((((ix w v).Sizes.length : Nat) : Int) ≤ 6)) <;> cases (ix w v).Sizes.any badS <;> rfl
  · rw [agrafferef08_CheckOffered_L2]
    simp
theorem both_ref {w : List WantedPart} {o : List OfferedPart} (hw : OkW w) (ho : OkO o) (hn : 1000 < n) : agrafferef08_CheckBoth n w o = some (bothC w o) := by
  rw [agrafferef08_CheckBoth, wanted_ref hw hn, offered_ref ho hn, bothC]
  simp only [Option.bind_some]
  cases wantC w != 0 <;> rfl
def fitsB (w : WantedPart) (o : OfferedPart) : Bool := decide (w.Ranges.length = o.Sizes.length) && !(List.range w.Ranges.length).any fun v => !((decide ((ix w.Ranges v).Lo ≤ ix o.Sizes v)) && (decide (ix o.Sizes v ≤ (ix w.Ranges v).Hi)))
theorem fits_res (w : WantedPart) (o : OfferedPart) (hw : w.Ranges.length ≤ 8) (hn : 1000 < n) : restore_fits n w o = some (fitsB w o) := by
  rw [restore_fits, fitsB]
  by_cases h : w.Ranges.length = o.Sizes.length
  · simp only [h, decide_true, Bool.not_true, cond_false, withK_eq, Bool.true_and]
    rw [loop_anyN (len := o.Sizes.length) (p := fun v => !((decide ((ix w.Ranges v).Lo ≤ ix o.Sizes v)) && (decide (ix o.Sizes v ≤ (ix w.Ranges v).Hi)))) (bad := some false) (no := some true) (fun back v hv => ?_) (fun back => ?_) n (by omega)]
    · cases (List.range o.Sizes.length).any fun v => !((decide ((ix w.Ranges v).Lo ≤ ix o.Sizes v)) && (decide (ix o.Sizes v ≤ (ix w.Ranges v).Hi))) <;> rfl
    · rw [restore_fits_L1]
      simp only [h, hv, decide_true, cond_true, chk_t, restore_within, Option.bind_some, nI_of (by omega : v + 1 ≤ 9223372036854775807)]
    · rw [restore_fits_L1]
      simp [h]
  · simp [h]
theorem fits_ref (w : WantedPart) (o : OfferedPart) (hw : w.Ranges.length ≤ 8) (hn : 1000 < n) : agrafferef08_Fits n w o = some (fitsB w o) := by
  rw [agrafferef08_Fits, fitsB]
  by_cases h : w.Ranges.length = o.Sizes.length
  · simp only [h, decide_true, Bool.not_true, cond_false, withK_eq, Bool.true_and]
    rw [loop_anyN (len := o.Sizes.length) (p := fun v => !((decide ((ix w.Ranges v).Lo ≤ ix o.Sizes v)) && (decide (ix o.Sizes v ≤ (ix w.Ranges v).Hi)))) (bad := some false) (no := some true) (fun back v hv => ?_) (fun back => ?_) n (by omega)]
    · cases (List.range o.Sizes.length).any fun v => !((decide ((ix w.Ranges v).Lo ≤ ix o.Sizes v)) && (decide (ix o.Sizes v ≤ (ix w.Ranges v).Hi))) <;> rfl
    · rw [agrafferef08_Fits_L1]
      simp only [h, hv, decide_true, cond_true, chk_t, agraffebase_Within, Option.bind_some, nI_of (by omega : v + 1 ≤ 9223372036854775807)]
    · rw [agrafferef08_Fits_L1]
      simp
  · simp [h]
def isI (s x : Int) : Bool := x == s
theorem isI_comm (s x : Int) : (s == x) = isI s x := by
  unfold isI
  rw [Bool.eq_iff_iff, beq_iff_eq, beq_iff_eq]
  exact eq_comm
theorem any_isI {l : List Int} {s : Int} : l.any (isI s) = true ↔ s ∈ l := by
  rw [List.any_eq_true]
  constructor
  · rintro ⟨x, hx, h⟩; rw [← eq_of_beq h]; exact hx
  · exact fun h => ⟨s, h, by simp [isI]⟩
theorem Has_eq (l : List Int) (s : Int) (hl : l.length ≤ 900) (hn : 1000 < n) : agraffebase_Has n l s = some (l.any (isI s)) := by
  rw [agraffebase_Has, withK_eq, loop_any' (l := l) (p := isI s) (fun back v hv => ?_) (fun back => ?_) n (by omega)]
  · cases l.any (isI s) <;> rfl
  · rw [agraffebase_Has_L1]; simp only [hv, decide_true, cond_true, nI_of (by omega : v + 1 ≤ 9223372036854775807), chk_t]; rfl
  · rw [agraffebase_Has_L1]; simp
theorem ContainsI_eq (l : List Int) (s : Int) (hl : l.length ≤ 900) (hn : 1000 < n) : slices_Contains_int n l s = some (l.any (isI s)) := by
  rw [slices_Contains_int, slices_Index_int, withK_eq, loop_findI (l := l) (p := isI s) (fun back v hv => ?_) (fun back => ?_) n (by omega)]
  · simp only [Option.bind_some, findI_any]
  · rw [slices_Index_int_L1]; simp only [hv, decide_true, cond_true, nI_of (by omega : v + 1 ≤ 9223372036854775807), chk_t, isI_comm]
  · rw [slices_Index_int_L1]; simp
def outI (len : Nat) (x : Int) : Bool := !((decide (0 ≤ x)) && (decide (x ≤ (((len : Nat) : Int) - 1))))
theorem outI_ok {len : Nat} {x : Int} (h : outI len x = false) : 0 ≤ x ∧ x.toNat < len := by
  unfold outI at h
  simp only [Bool.not_eq_false', Bool.and_eq_true, decide_eq_true_eq] at h
  omega
def matE (w : List WantedPart) (o : List OfferedPart) (m : List Int) (v : Nat) : Int :=
  bif ix m v == (-1 : Int) then 0 else bif outI o.length (ix m v) then 6 else bif !fitsB (ix w v) (ix o (ix m v).toNat) then 15 else bif (m.take v).any (isI (ix m v)) then 17 else 0
def cntM (m : List Int) : Nat := m.countP (fun x => !(x == (-1 : Int)))
theorem cntM_take {m : List Int} {v : Nat} (h : v < m.length) : cntM (m.take (v + 1)) = cntM (m.take v) + bif ix m v == (-1 : Int) then 0 else 1 := by
  unfold cntM
  rw [List.take_succ_eq_append_getElem h, List.countP_append, ix_eq h]
  by_cases hm : m[v] = (-1 : Int)
  · simp [hm]
  · have : (m[v] == (-1 : Int)) = false := by simpa using hm
    simp [this]
theorem cntM_le (m : List Int) : cntM m ≤ m.length := List.countP_le_length
def matR (w : List WantedPart) (o : List OfferedPart) (m : List Int) : Int × Int :=
  bif !decide (m.length = w.length) then (10, 0) else bif firstE (matE w o m) 0 m.length != 0 then (firstE (matE w o m) 0 m.length, 0) else (0, ((cntM m : Nat) : Int))
theorem match_res {w : List WantedPart} {o : List OfferedPart} {m : List Int} (hw : OkW w) (ho : OkO o) (hn : 1000 < n) : restore_CheckMatch n w o m = some (bif bothC w o != 0 then (bothC w o, 0) else matR w o m) := by
  have hlw := hw.len
  have hlo := ho.len
  rw [restore_CheckMatch, both_res hw ho hn, matR]
  simp only [Option.bind_some]
  cases bothC w o != 0
  · by_cases hl : m.length = w.length
    · simp only [hl, decide_true, Bool.not_true, cond_false, withK_eq]
      have e0 : ((0 : Nat), 0) = (fun v => (cntM (m.take v), v)) 0 := by simp [cntM]
      rw [e0, loop_first (st := fun v => (cntM (m.take v), v)) (E := matE w o m) (err := fun e => some (e, 0)) (k := some (0, ((cntM m : Nat) : Int))) (len := m.length) (fun back v hv _ => ?_) (fun back _ => ?_) n 0 (by omega) (by omega) (fun j h => by omega), Nat.sub_zero, hl]
      · cases firstE (matE w o m) 0 w.length != 0 <;> rfl
      · rw [restore_CheckMatch_L1]
        have hv2 : v < w.length := by omega
        have hc := cntM_le (m.take v)
        have hc2 : (m.take v).length ≤ 43 := by simp; omega
        have hr := hw.rng _ (ix_mem hv2)
        have hle : v ≤ m.length := by omega
        simp only [hv, hv2, hle, decide_true, cond_true, withK_eq, restore_within, Option.bind_some, chk_t, nI_of (by omega : v + 1 ≤ 9223372036854775807), nI_of (by omega : cntM (m.take v) + 1 ≤ 9223372036854775807), fits_res (n := n) (ix w v) (ix o (ix m v).toNat) hr hn, ContainsI_eq (n := n) (m.take v) (ix m v) (by omega) hn, cntM_take hv]
        rw [chk_of (inI_of (by omega) (by omega))]
        have e : (!((decide (0 ≤ ix m v)) && (decide (ix m v ≤ (((o.length : Nat) : Int) - 1))))) = outI o.length (ix m v) := rfl
        rw [e]
        unfold matE
        cases ix m v == (-1 : Int)
        · cases hb : outI o.length (ix m v)
          · obtain ⟨b1, b2⟩ := outI_ok hb
            simp only [cond_false, inB_of b1 b2, chk_t, b2, decide_true]
            cases fitsB (ix w v) (ix o (ix m v).toNat) <;> cases (m.take v).any (isI (ix m v)) <;> rfl
          · rfl
        · rfl
      · rw [restore_CheckMatch_L1]
        simp
    · simp [hl]
  · rfl
end
section
set_option maxRecDepth 4000
open Go
variable {n : Nat}
def desc (l : List Int) (v : Nat) : Bool := decide (ix l v ≤ ix l (v - 1))
def gap (w : List WantedPart) (o : List OfferedPart) (c : Arr2_ListInt) (i k : Nat) : Bool := (fitsB (ix w i) (ix o k) && !c.a0.any (isI (i : Int))) && !c.a1.any (isI (k : Int))
def covR (w : List WantedPart) (o : List OfferedPart) (c : Arr2_ListInt) : Int × Int :=
  bif c.a0.any (outI w.length) then (6, 0) else bif c.a1.any (outI o.length) then (6, 0)
  else bif (List.range' 1 (c.a0.length - 1)).any (desc c.a0) then (9, 0) else bif (List.range' 1 (c.a1.length - 1)).any (desc c.a1) then (9, 0)
  else bif (List.range' 0 (w.length - 0)).any (fun i => (List.range' 0 (o.length - 0)).any (gap w o c i)) then (14, 0)
  else (0, ((c.a0.length + c.a1.length : Nat) : Int))
theorem toNat_sub_one {v : Nat} : (((v : Nat) : Int) - 1).toNat = v - 1 := by omega
theorem out_res (l : List Int) (len : Nat) (hl : l.length ≤ 900) (hlen : len ≤ 900) (hn : 1000 < n) : slices_ContainsFunc_int_2 n l ((len : Nat) : Int) = some (l.any (outI len)) := by
  rw [slices_ContainsFunc_int_2, slices_IndexFunc_int_2, withK_eq, loop_findI (l := l) (p := outI len) (fun back v hv => ?_) (fun back => ?_) n (by omega)]
  · simp only [Option.bind_some, findI_any]
  · rw [slices_IndexFunc_int_2_L1]
    simp only [hv, decide_true, cond_true, restore_CheckCover_f1, restore_within, Option.bind_some, chk_of (inI_of (by omega : -9223372036854775808 ≤ ((len : Nat) : Int) - 1) (by omega)), nI_of (by omega : v + 1 ≤ 9223372036854775807), chk_t]
    rfl
  · rw [slices_IndexFunc_int_2_L1]; simp
theorem cover_res {w : List WantedPart} {o : List OfferedPart} {c : Arr2_ListInt} (hw : OkW w) (ho : OkO o) (h0 : c.a0.length ≤ 50) (h1 : c.a1.length ≤ 50) (hn : 1000 < n) : restore_CheckCover n w o c = some (bif bothC w o != 0 then (bothC w o, 0) else covR w o c) := by
  have hlw := hw.len
  have hlo := ho.len
  rw [restore_CheckCover, both_res hw ho hn]
  simp only [Option.bind_some, withK_eq, out_res (n := n) c.a0 w.length (by omega) (by omega) hn, out_res (n := n) c.a1 o.length (by omega) (by omega) hn]
  have l3 : ∀ (i : Nat) (k : Option (Int × Int)), i < w.length → loopN (restore_CheckCover_L3 n w o c ((i : Nat) : Int) fun _ => k) n 0 = bif (List.range' 0 (o.length - 0)).any (gap w o c i) then some (14, 0) else k := by
    intro i k hi
    refine loop_anyI (len := o.length) (p := gap w o c i) (bad := some (14, 0)) (no := k) (fun back v hv => ?_) (fun back v hv => ?_) n 0 (by omega)
    · rw [restore_CheckCover_L3]
      have hv' : ((v : Nat) : Int) < ((o.length : Nat) : Int) := by omega
      have hr := hw.rng _ (ix_mem hi)
      simp only [hv', hv, inB_of (q := ((v : Nat) : Int)) (n := o.length) (by omega) (by omega), chk_t, Int.toNat_natCast, decide_true, cond_true, fits_res (n := n) (ix w i) (ix o v) hr hn, ContainsI_eq (n := n) c.a0 ((i : Nat) : Int) (by omega) hn, ContainsI_eq (n := n) c.a1 ((v : Nat) : Int) (by omega) hn, gcall_some_, Option.bind_some, inI_of (n := ((v : Nat) : Int) + 1) (by omega) (by omega), gap]
      cases fitsB (ix w i) (ix o v) <;> cases c.a0.any (isI (i : Int)) <;> cases c.a1.any (isI (v : Int)) <;> rfl
    · rw [restore_CheckCover_L3]
      have hv' : ¬ ((v : Nat) : Int) < ((o.length : Nat) : Int) := by omega
      simp [hv']
  have l4 : ∀ (k : Option (Int × Int)), loopN (restore_CheckCover_L4 n w o c fun _ => k) n 0 = bif (List.range' 0 (w.length - 0)).any (fun i => (List.range' 0 (o.length - 0)).any (gap w o c i)) then some (14, 0) else k := by
    intro k
    refine loop_anyI (len := w.length) (p := fun i => (List.range' 0 (o.length - 0)).any (gap w o c i)) (bad := some (14, 0)) (no := k) (fun back v hv => ?_) (fun back v hv => ?_) n 0 (by omega)
    · rw [restore_CheckCover_L4]
      have hv' : ((v : Nat) : Int) < ((w.length : Nat) : Int) := by omega
      simp only [hv', hv, inB_of (q := ((v : Nat) : Int)) (n := w.length) (by omega) (by omega), chk_t, Int.toNat_natCast, decide_true, cond_true, withK_eq, l3 v _ hv, inI_of (n := ((v : Nat) : Int) + 1) (by omega) (by omega)]
    · rw [restore_CheckCover_L4]
      have hv' : ¬ ((v : Nat) : Int) < ((w.length : Nat) : Int) := by omega
      simp [hv']
  have l2 : ∀ (k : Option (Int × Int)), loopN (restore_CheckCover_L2 c fun _ => k) n 1 = bif (List.range' 1 (c.a1.length - 1)).any (desc c.a1) then some (9, 0) else k := by
    intro k
    have hF : ∀ (back : Int → Option (Int × Int)) (v : Nat), v < c.a1.length → 1 ≤ v → restore_CheckCover_L2 c (fun _ => k) back ((v : Nat) : Int) = bif desc c.a1 v then some (9, 0) else back (((v : Nat) : Int) + 1) := by
      intro back v hv h1v
      rw [restore_CheckCover_L2]
      have hv' : ((v : Nat) : Int) < ((c.a1.length : Nat) : Int) := by omega
      have hv2 : v - 1 < c.a1.length := by omega
      simp only [hv', hv, hv2, inB_of (q := ((v : Nat) : Int)) (n := c.a1.length) (by omega) (by omega), inB_of (q := ((v : Nat) : Int) - 1) (n := c.a1.length) (by omega) (by omega), chk_t, Int.toNat_natCast, toNat_sub_one, decide_true, cond_true, inI_of (n := ((v : Nat) : Int) + 1) (by omega) (by omega), inI_of (n := ((v : Nat) : Int) - 1) (by omega) (by omega), desc]
    have e : ∀ m s : Nat, 1 ≤ s → c.a1.length - s < m → loopN (restore_CheckCover_L2 c fun _ => k) m ((s : Nat) : Int) = bif (List.range' s (c.a1.length - s)).any (desc c.a1) then some (9, 0) else k := by
      intro m
      induction m with
      | zero => intro s _ h; omega
      | succ m ih =>
        intro s hs hm
        rw [loopN_s]
        by_cases h : s < c.a1.length
        · rw [hF _ s h hs, show c.a1.length - s = (c.a1.length - (s + 1)) + 1 by omega, List.range'_succ, List.any_cons]
          cases desc c.a1 s with
          | true => simp
          | false =>
            have e : (s : Int) + 1 = ((s + 1 : Nat) : Int) := by omega
            simp only [cond_false, Bool.false_or, e]
            exact ih (s + 1) (by omega) (by omega)
        · rw [show c.a1.length - s = 0 by omega, restore_CheckCover_L2]
          have hv' : ¬ ((s : Nat) : Int) < ((c.a1.length : Nat) : Int) := by omega
          simp [hv']
    exact e n 1 (by omega) (by omega)
  have l1 : ∀ (k : Option (Int × Int)), loopN (restore_CheckCover_L1 c fun _ => k) n 1 = bif (List.range' 1 (c.a0.length - 1)).any (desc c.a0) then some (9, 0) else k := by
    intro k
    have hF : ∀ (back : Int → Option (Int × Int)) (v : Nat), v < c.a0.length → 1 ≤ v → restore_CheckCover_L1 c (fun _ => k) back ((v : Nat) : Int) = bif desc c.a0 v then some (9, 0) else back (((v : Nat) : Int) + 1) := by
      intro back v hv h1v
      rw [restore_CheckCover_L1]
      have hv' : ((v : Nat) : Int) < ((c.a0.length : Nat) : Int) := by omega
      have hv2 : v - 1 < c.a0.length := by omega
      simp only [hv', hv, hv2, inB_of (q := ((v : Nat) : Int)) (n := c.a0.length) (by omega) (by omega), inB_of (q := ((v : Nat) : Int) - 1) (n := c.a0.length) (by omega) (by omega), chk_t, Int.toNat_natCast, toNat_sub_one, decide_true, cond_true, inI_of (n := ((v : Nat) : Int) + 1) (by omega) (by omega), inI_of (n := ((v : Nat) : Int) - 1) (by omega) (by omega), desc]
    have e : ∀ m s : Nat, 1 ≤ s → c.a0.length - s < m → loopN (restore_CheckCover_L1 c fun _ => k) m ((s : Nat) : Int) = bif (List.range' s (c.a0.length - s)).any (desc c.a0) then some (9, 0) else k := by
      intro m
      induction m with
      | zero => intro s _ h; omega
      | succ m ih =>
        intro s hs hm
        rw [loopN_s]
        by_cases h : s < c.a0.length
        · rw [hF _ s h hs, show c.a0.length - s = (c.a0.length - (s + 1)) + 1 by omega, List.range'_succ, List.any_cons]
          cases desc c.a0 s with
          | true => simp
          | false =>
            have e : (s : Int) + 1 = ((s + 1 : Nat) : Int) := by omega
            simp only [cond_false, Bool.false_or, e]
            exact ih (s + 1) (by omega) (by omega)
        · rw [show c.a0.length - s = 0 by omega, restore_CheckCover_L1]
          have hv' : ¬ ((s : Nat) : Int) < ((c.a0.length : Nat) : Int) := by omega
          simp [hv']
    exact e n 1 (by omega) (by omega)
  rw [l1, l2, l4, chk_of (nI_of (by omega))]
  unfold covR
  cases bothC w o != 0
  · cases c.a0.any (outI w.length)
    · cases c.a1.any (outI o.length)
      · cases (List.range' 1 (c.a0.length - 1)).any (desc c.a0)
        · cases (List.range' 1 (c.a1.length - 1)).any (desc c.a1)
          · cases (List.range' 0 (w.length - 0)).any (fun i => (List.range' 0 (o.length - 0)).any (gap w o c i)) <;> rfl
          · rfl
        · rfl
      · rfl
    · rfl
  · rfl
theorem cover_ref {w : List WantedPart} {o : List OfferedPart} {c : Arr2_ListInt} (hw : OkW w) (ho : OkO o) (h0 : c.a0.length ≤ 50) (h1 : c.a1.length ≤ 50) (hn : 1000 < n) : agrafferef08_CheckCover n w o c = some (covR w o c) := by
  have hlw := hw.len
  have hlo := ho.len
  rw [agrafferef08_CheckCover]
  simp only [withK_eq]
  have l5 : ∀ (i : Nat) (k : Option (Int × Int)), i < w.length → loopN (agrafferef08_CheckCover_L5 n w o c ((i : Nat) : Int) fun _ => k) n 0 = bif (List.range' 0 (o.length - 0)).any (gap w o c i) then some (14, 0) else k := by
    intro i k hi
    refine loop_anyI (len := o.length) (p := gap w o c i) (bad := some (14, 0)) (no := k) (fun back v hv => ?_) (fun back v hv => ?_) n 0 (by omega)
    · rw [agrafferef08_CheckCover_L5]
      have hv' : ((v : Nat) : Int) < ((o.length : Nat) : Int) := by omega
      have hr := hw.rng _ (ix_mem hi)
      simp only [hv', hv, hi, inB_of (q := ((v : Nat) : Int)) (n := o.length) (by omega) (by omega), inB_of (q := ((i : Nat) : Int)) (n := w.length) (by omega) (by omega), chk_t, Int.toNat_natCast, decide_true, cond_true, fits_ref (n := n) (ix w i) (ix o v) hr hn, Has_eq (n := n) c.a0 ((i : Nat) : Int) (by omega) hn, Has_eq (n := n) c.a1 ((v : Nat) : Int) (by omega) hn, gcall_some_, Option.bind_some, inI_of (n := ((v : Nat) : Int) + 1) (by omega) (by omega), gap]
      cases fitsB (ix w i) (ix o v) <;> cases c.a0.any (isI (i : Int)) <;> cases c.a1.any (isI (v : Int)) <;> rfl
    · rw [agrafferef08_CheckCover_L5]
      have hv' : ¬ ((v : Nat) : Int) < ((o.length : Nat) : Int) := by omega
      simp [hv']
  have l6 : ∀ (k : Option (Int × Int)), loopN (agrafferef08_CheckCover_L6 n w o c fun _ => k) n 0 = bif (List.range' 0 (w.length - 0)).any (fun i => (List.range' 0 (o.length - 0)).any (gap w o c i)) then some (14, 0) else k := by
    intro k
    refine loop_anyI (len := w.length) (p := fun i => (List.range' 0 (o.length - 0)).any (gap w o c i)) (bad := some (14, 0)) (no := k) (fun back v hv => ?_) (fun back v hv => ?_) n 0 (by omega)
    · rw [agrafferef08_CheckCover_L6]
      have hv' : ((v : Nat) : Int) < ((w.length : Nat) : Int) := by omega
      simp only [hv', hv, chk_t, decide_true, cond_true, withK_eq, l5 v _ hv, inI_of (n := ((v : Nat) : Int) + 1) (by omega) (by omega)]
    · rw [agrafferef08_CheckCover_L6]
      have hv' : ¬ ((v : Nat) : Int) < ((w.length : Nat) : Int) := by omega
      simp [hv']
  have asc : ∀ (l : List Int) (k : Option (Int × Int)) (F : (Int → Option (Int × Int)) → Int → Option (Int × Int)), l.length ≤ 50 →
      (∀ (back : Int → Option (Int × Int)) (v : Nat), v < l.length → 1 ≤ v → F back ((v : Nat) : Int) = bif desc l v then some (9, 0) else back (((v : Nat) : Int) + 1)) →
      (∀ (back : Int → Option (Int × Int)) (v : Nat), l.length ≤ v → F back ((v : Nat) : Int) = k) → loopN F n 1 = bif (List.range' 1 (l.length - 1)).any (desc l) then some (9, 0) else k := by
    intro l k F hl hF hE
    have e : ∀ m s : Nat, 1 ≤ s → l.length - s < m → loopN F m ((s : Nat) : Int) = bif (List.range' s (l.length - s)).any (desc l) then some (9, 0) else k := by
      intro m
      induction m with
      | zero => intro s _ h; omega
      | succ m ih =>
        intro s hs hm
        rw [loopN_s]
        by_cases h : s < l.length
        · rw [hF _ s h hs, show l.length - s = (l.length - (s + 1)) + 1 by omega, List.range'_succ, List.any_cons]
          cases desc l s with
          | true => simp
          | false =>
            have e : (s : Int) + 1 = ((s + 1 : Nat) : Int) := by omega
            simp only [cond_false, Bool.false_or, e]
            exact ih (s + 1) (by omega) (by omega)
        · rw [show l.length - s = 0 by omega, hE _ s (by omega)]
          rfl
    exact e n 1 (by omega) (by omega)
  have l4 : ∀ (k : Option (Int × Int)), loopN (agrafferef08_CheckCover_L4 c fun _ => k) n 1 = bif (List.range' 1 (c.a1.length - 1)).any (desc c.a1) then some (9, 0) else k := by
    intro k
    refine asc c.a1 k _ h1 (fun back v hv h1v => ?_) (fun back v hv => ?_)
    · rw [agrafferef08_CheckCover_L4]
      have hv' : ((v : Nat) : Int) < ((c.a1.length : Nat) : Int) := by omega
      have hv2 : v - 1 < c.a1.length := by omega
      simp only [hv', hv, hv2, inB_of (q := ((v : Nat) : Int)) (n := c.a1.length) (by omega) (by omega), inB_of (q := ((v : Nat) : Int) - 1) (n := c.a1.length) (by omega) (by omega), chk_t, Int.toNat_natCast, toNat_sub_one, decide_true, cond_true, inI_of (n := ((v : Nat) : Int) + 1) (by omega) (by omega), inI_of (n := ((v : Nat) : Int) - 1) (by omega) (by omega), desc]
    · rw [agrafferef08_CheckCover_L4]
      have hv' : ¬ ((v : Nat) : Int) < ((c.a1.length : Nat) : Int) := by omega
      simp [hv']
  have l3 : ∀ (k : Option (Int × Int)), loopN (agrafferef08_CheckCover_L3 c fun _ => k) n 1 = bif (List.range' 1 (c.a0.length - 1)).any (desc c.a0) then some (9, 0) else k := by
    intro k
    refine asc c.a0 k _ h0 (fun back v hv h1v => ?_) (fun back v hv => ?_)
    · rw [agrafferef08_CheckCover_L3]
      have hv' : ((v : Nat) : Int) < ((c.a0.length : Nat) : Int) := by omega
      have hv2 : v - 1 < c.a0.length := by omega
      simp only [hv', hv, hv2, inB_of (q := ((v : Nat) : Int)) (n := c.a0.length) (by omega) (by omega), inB_of (q := ((v : Nat) : Int) - 1) (n := c.a0.length) (by omega) (by omega), chk_t, Int.toNat_natCast, toNat_sub_one, decide_true, cond_true, inI_of (n := ((v : Nat) : Int) + 1) (by omega) (by omega), inI_of (n := ((v : Nat) : Int) - 1) (by omega) (by omega), desc]
    · rw [agrafferef08_CheckCover_L3]
      have hv' : ¬ ((v : Nat) : Int) < ((c.a0.length : Nat) : Int) := by omega
      simp [hv']
  have any0 : ∀ (l : List Int) (p : Int → Bool), (List.range' 0 (l.length - 0)).any (fun v => p (ix l v)) = l.any p := by
    intro l p
    rw [Bool.eq_iff_iff, List.any_eq_true, List.any_eq_true]
    constructor
    · rintro ⟨v, hv, h⟩
      rw [List.mem_range'_1] at hv
      exact ⟨ix l v, ix_mem (by omega), h⟩
    · rintro ⟨x, hx, h⟩
      obtain ⟨i, hi, rfl⟩ := List.mem_iff_getElem.1 hx
      exact ⟨i, by rw [List.mem_range'_1]; omega, by rw [ix_eq hi]; exact h⟩
  have l2 : ∀ (k : Option (Int × Int)), loopN (agrafferef08_CheckCover_L2 n o c fun _ => k) n 0 = bif c.a1.any (outI o.length) then some (6, 0) else k := by
    intro k
    rw [← any0 c.a1 (outI o.length)]
    refine loop_anyI (len := c.a1.length) (p := fun v => outI o.length (ix c.a1 v)) (bad := some (6, 0)) (no := k) (fun back v hv => ?_) (fun back v hv => ?_) n 0 (by omega)
    · rw [agrafferef08_CheckCover_L2]
      have hv' : ((v : Nat) : Int) < ((c.a1.length : Nat) : Int) := by omega
      simp only [hv', hv, inB_of (q := ((v : Nat) : Int)) (n := c.a1.length) (by omega) (by omega), chk_t, Int.toNat_natCast, decide_true, cond_true, agraffebase_Within, Option.bind_some, inI_of (n := ((o.length : Nat) : Int) - 1) (by omega) (by omega), inI_of (n := ((v : Nat) : Int) + 1) (by omega) (by omega)]
      rfl
    · rw [agrafferef08_CheckCover_L2]
      have hv' : ¬ ((v : Nat) : Int) < ((c.a1.length : Nat) : Int) := by omega
      simp [hv']
  have l1 : ∀ (k : Option (Int × Int)), loopN (agrafferef08_CheckCover_L1 n w c fun _ => k) n 0 = bif c.a0.any (outI w.length) then some (6, 0) else k := by
    intro k
    rw [← any0 c.a0 (outI w.length)]
    refine loop_anyI (len := c.a0.length) (p := fun v => outI w.length (ix c.a0 v)) (bad := some (6, 0)) (no := k) (fun back v hv => ?_) (fun back v hv => ?_) n 0 (by omega)
    · rw [agrafferef08_CheckCover_L1]
      have hv' : ((v : Nat) : Int) < ((c.a0.length : Nat) : Int) := by omega
      simp only [hv', hv, inB_of (q := ((v : Nat) : Int)) (n := c.a0.length) (by omega) (by omega), chk_t, Int.toNat_natCast, decide_true, cond_true, agraffebase_Within, Option.bind_some, inI_of (n := ((w.length : Nat) : Int) - 1) (by omega) (by omega), inI_of (n := ((v : Nat) : Int) + 1) (by omega) (by omega)]
      rfl
    · rw [agrafferef08_CheckCover_L1]
      have hv' : ¬ ((v : Nat) : Int) < ((c.a0.length : Nat) : Int) := by omega
      simp [hv']
  rw [l1, l2, l3, l4, l6, chk_of (nI_of (by omega))]
  unfold covR
  cases c.a0.any (outI w.length)
  · cases c.a1.any (outI o.length)
    · cases (List.range' 1 (c.a0.length - 1)).any (desc c.a0)
      · cases (List.range' 1 (c.a1.length - 1)).any (desc c.a1)
        · cases (List.range' 0 (w.length - 0)).any (fun i => (List.range' 0 (o.length - 0)).any (gap w o c i)) <;> rfl
        · rfl
      · rfl
    · rfl
  · rfl
theorem nodup_map {α β : Type} {f : α → β} {l : List α} (hi : ∀ a ∈ l, ∀ b ∈ l, a ≠ b → f a ≠ f b) (h : l.Nodup) : (l.map f).Nodup := by
  induction l with
  | nil => exact List.nodup_nil
  | cons x l ih =>
    rw [List.nodup_cons] at h
    rw [List.map_cons, List.nodup_cons]
    refine ⟨fun hm => ?_, ih (fun a ha b hb => hi a (by simp [ha]) b (by simp [hb])) h.2⟩
    obtain ⟨y, hy, e⟩ := List.mem_map.1 hm
    exact hi y (by simp [hy]) x (by simp) (by rintro rfl; exact h.1 hy) e
theorem weak {w : List WantedPart} {o : List OfferedPart} {m : List Int} {c : Arr2_ListInt} (hm : (matR w o m).1 = 0) (hc : (covR w o c).1 = 0) : (matR w o m).2 ≤ (covR w o c).2 := by
  unfold matR at hm ⊢
  by_cases hl : m.length = w.length
  · simp only [hl, decide_true, Bool.not_true, cond_false] at hm ⊢
    by_cases hz : firstE (matE w o m) 0 w.length = 0
    · simp only [hz, bne_self_eq_false, cond_false]
      unfold covR at hc ⊢
      cases h1 : c.a0.any (outI w.length)
      · rw [h1] at hc
        cases h2 : c.a1.any (outI o.length)
        · rw [h2] at hc
          cases h3 : (List.range' 1 (c.a0.length - 1)).any (desc c.a0)
          · rw [h3] at hc
            cases h4 : (List.range' 1 (c.a1.length - 1)).any (desc c.a1)
            · rw [h4] at hc
              cases h5 : (List.range' 0 (w.length - 0)).any (fun i => (List.range' 0 (o.length - 0)).any (gap w o c i))
              · simp only [cond_false]
                have hmz : ∀ v, v < w.length → matE w o m v = 0 := fun v hv => firstE_zero hz v (by omega) (by omega)
                let M := (List.range m.length).filter fun v => !(ix m v == (-1 : Int))
                have hM : cntM m = M.length := by
                  have : ∀ k, k ≤ m.length → cntM (m.take k) = ((List.range k).filter fun v => !(ix m v == (-1 : Int))).length := by
                    intro k
                    induction k with
                    | zero => intro _; rfl
                    | succ k ih =>
                      intro hk
                      rw [cntM_take (by omega), ih (by omega), List.range_succ, List.filter_append, List.length_append]
                      cases hb : ix m k == (-1 : Int) <;> simp [List.filter_cons, hb]
                  have := this m.length (Nat.le_refl _)
                  rwa [List.take_length] at this
                have hMn : M.Nodup := List.Pairwise.filter _ List.nodup_range
                have hMm : ∀ v ∈ M, v < m.length ∧ (ix m v == (-1 : Int)) = false := by
                  intro v hv
                  rw [List.mem_filter, List.mem_range] at hv
                  exact ⟨hv.1, by simpa using hv.2⟩
                have hmat : ∀ v ∈ M, 0 ≤ ix m v ∧ (ix m v).toNat < o.length ∧ fitsB (ix w v) (ix o (ix m v).toNat) = true ∧ ix m v ∉ m.take v := by
                  intro v hv
                  obtain ⟨a, b⟩ := hMm v hv
                  have := hmz v (by omega)
                  unfold matE at this
                  rw [b] at this
                  simp only [cond_false] at this
                  cases q1 : outI o.length (ix m v)
                  · rw [q1] at this
                    simp only [cond_false] at this
                    cases q2 : fitsB (ix w v) (ix o (ix m v).toNat)
                    · rw [q2] at this; simp at this
                    · rw [q2] at this
                      simp only [Bool.not_true, cond_false] at this
                      cases q3 : (m.take v).any (isI (ix m v))
                      · exact ⟨(outI_ok q1).1, (outI_ok q1).2, rfl, fun h => by rw [any_isI.2 h] at q3; cases q3⟩
                      · rw [q3] at this; simp at this
                  · rw [q1] at this; simp at this
                let M1 := M.filter fun (v : Nat) => c.a0.any (isI ((v : Nat) : Int))
                let M2 := M.filter fun (v : Nat) => !c.a0.any (isI ((v : Nat) : Int))
                have hsplit : M.length = M1.length + M2.length := by
                  have : ∀ l : List Nat, l.length = (l.filter fun (v : Nat) => c.a0.any (isI ((v : Nat) : Int))).length + (l.filter fun (v : Nat) => !c.a0.any (isI ((v : Nat) : Int))).length := by
                    intro l
                    induction l with
                    | nil => rfl
                    | cons x l ih =>
                      simp only [List.filter_cons, List.length_cons]
                      cases c.a0.any (isI (x : Int)) <;> simp <;> omega
                  exact this M
                have b1 : M1.length ≤ c.a0.length := by
                  have hn1 : (M1.map fun v => ((v : Nat) : Int)).Nodup := by
                    refine nodup_map (fun a _ b _ hab h => hab (by omega)) (List.Pairwise.filter _ hMn)
                  have := nodup_len (M1.map fun v => ((v : Nat) : Int)) c.a0 hn1 fun x hx => by
                    obtain ⟨v, hv, rfl⟩ := List.mem_map.1 hx
                    rw [List.mem_filter] at hv
                    exact any_isI.1 hv.2
                  simpa using this
                have b2 : M2.length ≤ c.a1.length := by
                  have hinj : ∀ a ∈ M, ∀ b ∈ M, a < b → ix m a ≠ ix m b := by
                    intro a ha b hb hab h
                    refine (hmat b hb).2.2.2 ?_
                    rw [← h, ix_eq (by have := (hMm a ha).1; exact this)]
                    exact List.mem_iff_getElem.2 ⟨a, by simp; have := (hMm a ha).1; omega, by simp⟩
                  have hn2 : (M2.map fun v => ix m v).Nodup := by
                    refine nodup_map (fun a ha b hb hab h => ?_) (List.Pairwise.filter _ hMn)
                    have ha := (List.mem_filter.1 ha).1
                    have hb := (List.mem_filter.1 hb).1
                    rcases Nat.lt_or_gt_of_ne hab with q | q
                    · exact hinj a ha b hb q h
                    · exact hinj b hb a ha q h.symm
                  have := nodup_len (M2.map fun v => ix m v) c.a1 hn2 fun x hx => by
                    obtain ⟨v, hv, rfl⟩ := List.mem_map.1 hx
                    rw [List.mem_filter] at hv
                    obtain ⟨g1, g2, g3, _⟩ := hmat v hv.1
                    have hvw : v < w.length := by have := (hMm v hv.1).1; omega
                    have hgap : gap w o c v (ix m v).toNat = false := by
                      rw [List.any_eq_false] at h5
                      have := h5 v (by rw [List.mem_range'_1]; omega)
                      rw [Bool.not_eq_true, List.any_eq_false] at this
                      have := this (ix m v).toNat (by rw [List.mem_range'_1]; omega)
                      simpa using this
                    unfold gap at hgap
                    have e1 : (((ix m v).toNat : Nat) : Int) = ix m v := by omega
                    rw [g3, e1] at hgap
                    have e2 : c.a0.any (isI (v : Int)) = false := by simpa using hv.2
                    rw [e2] at hgap
                    simp only [Bool.not_false, Bool.and_self, Bool.true_and, Bool.not_eq_false'] at hgap
                    exact any_isI.1 hgap
                  simpa using this
                omega
              · rw [h5] at hc; simp at hc
            · rw [h4] at hc; simp at hc
          · rw [h3] at hc; simp at hc
        · rw [h2] at hc; simp at hc
      · rw [h1] at hc; simp at hc
    · rw [bne_t hz, cond_true] at hm
      exact absurd hm hz
  · simp [hl] at hm
def badW (x : WantedPart) : Bool := (decide (20 < x.Name.length)) || (decide (8 < x.Ranges.length))
def badO (x : OfferedPart) : Bool := (decide (20 < x.Name.length)) || (decide (8 < x.Sizes.length))
def lens (a b : Nat) : Bool := ((((decide (8 < a)) && (decide (a ≤ 40))) || (decide (43 < a))) || ((decide (8 < b)) && (decide (b ≤ 40)))) || (decide (43 < b))
def placesB (w : List WantedPart) (o : List OfferedPart) : Bool := !lens w.length o.length && (!w.any badW && !o.any badO)
theorem places_eq (w : List WantedPart) (o : List OfferedPart) (hn : 1000 < n) : agraffelaw08_places n w o = some (placesB w o) := by
  rw [agraffelaw08_places, placesB]
  have e : (((((decide (8 < w.length)) && (decide (w.length ≤ 40))) || (decide (43 < w.length))) || ((decide (8 < o.length)) && (decide (o.length ≤ 40)))) || (decide (43 < o.length))) = lens w.length o.length := rfl
  rw [e]
  cases hl : lens w.length o.length
  · unfold lens at hl
    simp only [Bool.or_eq_false_iff, decide_eq_false_iff_not] at hl
    simp only [cond_false, withK_eq]
    rw [loop_any' (l := w) (p := badW) (bad := some false) (no := bif o.any badO then some false else some true) (fun back v hv => ?_) (fun back => ?_) n (by omega)]
    · cases w.any badW <;> cases o.any badO <;> rfl
    · rw [agraffelaw08_places_L1]
      simp only [hv, decide_true, cond_true, nI_of (by omega : v + 1 ≤ 9223372036854775807), chk_t]
      rfl
    · rw [agraffelaw08_places_L1]
      simp only [Nat.lt_irrefl, decide_false, cond_false]
      refine loop_any' (l := o) (p := badO) (bad := some false) (no := some true) (fun back v hv => ?_) (fun back => ?_) n (by omega)
      · rw [agraffelaw08_places_L2]
        simp only [hv, decide_true, cond_true, nI_of (by omega : v + 1 ≤ 9223372036854775807), chk_t]
        rfl
      · rw [agraffelaw08_places_L2]
        simp
  · rfl
theorem places_ok {w : List WantedPart} {o : List OfferedPart} (h : placesB w o = true) : OkW w ∧ OkO o := by
  unfold placesB lens at h
  simp only [Bool.and_eq_true, Bool.not_eq_true', Bool.or_eq_false_iff, decide_eq_false_iff_not, List.any_eq_false] at h
  obtain ⟨hl, h1, h2⟩ := h
  have k1 : ∀ x ∈ w, x.Name.length ≤ 20 ∧ x.Ranges.length ≤ 8 := by
    intro x hx
    have := h1 x hx
    unfold badW at this
    simp only [Bool.not_eq_true, Bool.or_eq_false_iff, decide_eq_false_iff_not] at this
    omega
  have k2 : ∀ x ∈ o, x.Name.length ≤ 20 ∧ x.Sizes.length ≤ 8 := by
    intro x hx
    have := h2 x hx
    unfold badO at this
    simp only [Bool.not_eq_true, Bool.or_eq_false_iff, decide_eq_false_iff_not] at this
    omega
  exact ⟨⟨by omega, fun x hx => (k1 x hx).1, fun x hx => (k1 x hx).2⟩, ⟨by omega, fun x hx => (k2 x hx).1, fun x hx => (k2 x hx).2⟩⟩
theorem wanted_copy {w : List WantedPart} (h : OkW w) (hn : 1000 < n) : agraffelaw08_wanted n w = some w := by
  have hlen := h.len
  rw [agraffelaw08_wanted, chk_of (room_of (by omega) (by omega)), withK_eq]
  refine loop_fold' (σ := List WantedPart) (st := fun _ => w) (len := w.length) (fun back v hv => ?_) (fun back => ?_) n (by omega) rfl
  · rw [agraffelaw08_wanted_L1]
    have h1 := h.rng _ (ix_mem hv)
    simp only [hv, decide_true, cond_true, set_ix hv, room_of (b := 16) (n := (ix w v).Ranges.length) (by omega) (by omega), nI_of (by omega : v + 1 ≤ 9223372036854775807), chk_t]
  · rw [agraffelaw08_wanted_L1]
    simp
theorem offered_copy {o : List OfferedPart} (h : OkO o) (hn : 1000 < n) : agraffelaw08_offered n o = some o := by
  have hlen := h.len
  rw [agraffelaw08_offered, chk_of (room_of (by omega) (by omega)), withK_eq]
  refine loop_fold' (σ := List OfferedPart) (st := fun _ => o) (len := o.length) (fun back v hv => ?_) (fun back => ?_) n (by omega) rfl
  · rw [agraffelaw08_offered_L1]
    have h1 := h.siz _ (ix_mem hv)
    simp only [hv, decide_true, cond_true, set_ix hv, agraffebase_CopyInts, room_of (b := 8) (n := (ix o v).Sizes.length) (by omega) (by omega), Option.bind_some, nI_of (by omega : v + 1 ≤ 9223372036854775807), chk_t]
  · rw [agraffelaw08_offered_L1]
    simp
end
section
set_option maxRecDepth 4000
open Go
theorem ix_set {α : Type} [Inhabited α] {l : List α} {i k : Nat} {x : α} (hi : i < l.length) (hk : k < l.length) : ix (l.set i x) k = if i = k then x else ix l k := by
  rw [ix_eq (by simpa using hk), ix_eq hk, List.getElem_set]
theorem ix_set_at {α : Type} [Inhabited α] {l : List α} {i : Nat} {x : α} (hi : i < l.length) : ix (l.set i x) i = x := by rw [ix_set hi hi, if_pos rfl]
theorem ix_set_ne {α : Type} [Inhabited α] {l : List α} {i k : Nat} {x : α} (hk : k < l.length) (h : i ≠ k) : ix (l.set i x) k = ix l k := by
  rw [ix_eq (by simpa using hk), ix_eq hk, List.getElem_set_ne h]
def untr (t : List Bool) : Nat := t.countP (fun b => !b)
theorem untr_set : ∀ {t : List Bool} {v : Nat}, v < t.length → ix t v = false → untr (t.set v true) + 1 = untr t
  | [], v, h, _ => by simp at h
  | b :: t, 0, _, h => by
    have : b = false := h
    subst this
    simp [untr]
  | b :: t, v + 1, h, e => by
    have h' : v < t.length := by simpa using h
    have e' : ix t v = false := by
      rw [ix_eq h] at e
      rw [ix_eq h']; simpa using e
    have := untr_set h' e'
    simp only [untr, List.set_cons_succ, List.countP_cons] at this ⊢
    omega
theorem untr_le : ∀ {t t' : List Bool}, t.length = t'.length → (∀ k, k < t.length → ix t k = true → ix t' k = true) → untr t' ≤ untr t
  | [], [], _, _ => Nat.le_refl _
  | [], _ :: _, h, _ => by simp at h
  | _ :: _, [], h, _ => by simp at h
  | b :: t, b' :: t', h, hl => by
    have ih := untr_le (t := t) (t' := t') (by simpa using h) fun k hk e => by
      have := hl (k + 1) (by simpa using hk) (by rw [ix_eq (by simpa using hk)]; rw [ix_eq hk] at e; simpa using e)
      have hk' : k < t'.length := by simp at h; omega
      rw [ix_eq (by simpa using hk')] at this
      rw [ix_eq hk']; simpa using this
    have h0 := hl 0 (by simp)
    have e1 : ix (b :: t) 0 = b := rfl
    have e2 : ix (b' :: t') 0 = b' := rfl
    rw [e1, e2] at h0
    simp only [untr, List.countP_cons] at ih ⊢
    cases b <;> cases b' <;> simp_all <;> omega
section
variable {F : Nat → Nat → Bool} {p q : Nat}
structure Two (F : Nat → Nat → Bool) (p q : Nat) (m pl : List Int) : Prop where
  lm : m.length = p
  lp : pl.length = q
  hm : ∀ i, i < p → ix m i = -1 ∨ ∃ k, k < q ∧ ix m i = (k : Int) ∧ F i k = true ∧ ix pl k = (i : Int)
  hp : ∀ k, k < q → ix pl k = -1 ∨ ∃ i, i < p ∧ ix pl k = (i : Int) ∧ ix m i = (k : Int)
def Clo (F : Nat → Nat → Bool) (p q : Nat) (pl : List Int) (R T : Nat → Prop) : Prop :=
  (∀ i, i < p → R i → ∀ k, k < q → F i k = true → T k) ∧ ∀ k, k < q → T k → ∃ j, j < p ∧ ix pl k = (j : Int) ∧ R j
structure Fai (F : Nat → Nat → Bool) (p q : Nat) (pl : List Int) (t : List Bool) (i : Nat) (t' : List Bool) : Prop where
  len : t'.length = q
  le : ∀ k, k < q → ix t k = true → ix t' k = true
  all : ∀ k, k < q → F i k = true → ix t' k = true
  new : ∀ k, k < q → ix t' k = true → ix t k = false → ∃ j, j < p ∧ ix pl k = (j : Int) ∧ ∀ k2, k2 < q → F j k2 = true → ix t' k2 = true
def Aff (q : Nat) (m : List Int) (t : List Bool) (i j : Nat) : Prop := j = i ∨ ∃ k, k < q ∧ ix m j = (k : Int) ∧ ix t k = false
structure Suc (F : Nat → Nat → Bool) (p q : Nat) (m pl : List Int) (t : List Bool) (i : Nat) (m' pl' : List Int) : Prop where
  lm : m'.length = p
  lp : pl'.length = q
  s1 : ∀ k, k < q → ix t k = true → ix pl' k = ix pl k
  s2 : ∀ j, j < p → ¬ Aff q m t i j → ix m' j = ix m j
  s3 : ∀ j, j < p → Aff q m t i j → ∃ k, k < q ∧ ix m' j = (k : Int) ∧ ix t k = false ∧ F j k = true ∧ ix pl' k = (j : Int)
  s4 : ∀ k, k < q → ix t k = false → (ix pl' k = -1 ∧ ix pl k = -1) ∨ ∃ j, j < p ∧ ix pl' k = (j : Int) ∧ ix m' j = (k : Int) ∧ Aff q m t i j
  s5 : ∀ R T : Nat → Prop, Clo F p q pl R T → ¬ R i ∧ ∀ k, k < q → T k → ix pl' k = ix pl k
def Pre (q : Nat) (m : List Int) (t : List Bool) (i : Nat) : Prop := ix m i = -1 ∨ ∃ k, k < q ∧ ix m i = (k : Int) ∧ ix t k = true
theorem Pre.not {m : List Int} {t : List Bool} {i k : Nat} (h : Pre q m t i) (hk : ix t k = false) : ix m i ≠ (k : Int) := by
  rcases h with h | ⟨k2, h1, h2, h3⟩
  · rw [h]; omega
  · rw [h2]
    intro e
    have : k2 = k := by omega
    subst this
    rw [h3] at hk; cases hk
theorem Suc.more {m pl m' pl' : List Int} {t tc : List Bool} {i : Nat} (hT : Two F p q m pl) (hp : Pre q m t i) (hle : ∀ k, k < q → ix t k = true → ix tc k = true) (h : Suc F p q m pl tc i m' pl') : Suc F p q m pl t i m' pl' := by
  have hAff : ∀ j, Aff q m tc i j → Aff q m t i j := by
    rintro j (e | ⟨k, k1, k2, k3⟩)
    · exact .inl e
    · refine .inr ⟨k, k1, k2, ?_⟩
      cases e : ix t k
      · rfl
      · rw [hle k k1 e] at k3; cases k3
  refine ⟨h.lm, h.lp, fun k h1 h2 => h.s1 k h1 (hle k h1 h2), fun j h1 h2 => h.s2 j h1 fun c => h2 (hAff j c), fun j h1 h2 => ?_, fun k h1 h2 => ?_, h.s5⟩
  · by_cases c : Aff q m tc i j
    · obtain ⟨k, k1, k2, k3, k4, k5⟩ := h.s3 j h1 c
      refine ⟨k, k1, k2, ?_, k4, k5⟩
      cases e : ix t k
      · rfl
      · rw [hle k k1 e] at k3; cases k3
    · rcases h2 with e | ⟨k, k1, k2, k3⟩
      · exact absurd (.inl e) c
      · have hk : ix tc k = true := by
          cases e : ix tc k
          · exact absurd (.inr ⟨k, k1, k2, e⟩) c
          · rfl
        rcases hT.hm j h1 with e | ⟨k', g1, g2, g3, g4⟩
        · rw [k2] at e; omega
        · have : k' = k := by omega
          subst this
          exact ⟨k', k1, by rw [h.s2 j h1 c]; exact g2, k3, g3, by rw [h.s1 k' k1 hk]; exact g4⟩
  · cases e : ix tc k
    · rcases h.s4 k h1 e with a | ⟨j, j1, j2, j3, j4⟩
      · exact .inl a
      · exact .inr ⟨j, j1, j2, j3, hAff j j4⟩
    · have e1 := h.s1 k h1 e
      rcases hT.hp k h1 with a | ⟨j, j1, j2, j3⟩
      · exact .inl ⟨by rw [e1, a], a⟩
      · refine .inr ⟨j, j1, by rw [e1, j2], ?_, .inr ⟨k, h1, j3, h2⟩⟩
        rw [h.s2 j j1, j3]
        rintro (c | ⟨k', c1, c2, c3⟩)
        · subst c; exact hp.not h2 j3
        · have : k' = k := by omega
          subst this; rw [e] at c3; cases c3
theorem Suc.free {m pl : List Int} {t : List Bool} {i k : Nat} (hT : Two F p q m pl) (hi : i < p) (hp : Pre q m t i) (hk : k < q) (ht : ix t k = false) (hF : F i k = true) (hf : ix pl k = -1) : Suc F p q m pl t i (m.set i (k : Int)) (pl.set k (i : Int)) := by
  have lm := hT.lm
  have lp := hT.lp
  refine ⟨by simp [lm], by simp [lp], fun k' h1 h2 => ?_, fun j h1 h2 => ?_, fun j h1 h2 => ?_, fun k' h1 h2 => ?_, fun R T hC => ?_⟩
  · refine ix_set_ne (by omega) fun e => ?_
    subst e; rw [ht] at h2; cases h2
  · exact ix_set_ne (by omega) fun e => h2 (.inl e.symm)
  · by_cases e : j = i
    · subst e
      exact ⟨k, hk, ix_set_at (by omega), ht, hF, ix_set_at (by omega)⟩
    · rcases h2 with c | ⟨k', c1, c2, c3⟩
      · exact absurd c e
      · rcases hT.hm j h1 with g | ⟨k2, g1, g2, g3, g4⟩
        · rw [c2] at g; omega
        · have : k2 = k' := by omega
          subst this
          have hne : k ≠ k2 := by rintro rfl; rw [hf] at g4; omega
          exact ⟨k2, g1, by rw [ix_set_ne (by omega) (Ne.symm e)]; exact g2, c3, g3, by rw [ix_set_ne (by omega) hne]; exact g4⟩
  · by_cases e : k' = k
    · subst e
      exact .inr ⟨i, hi, ix_set_at (by omega), ix_set_at (by omega), .inl rfl⟩
    · rw [ix_set_ne (by omega) (Ne.symm e)]
      rcases hT.hp k' h1 with a | ⟨j, j1, j2, j3⟩
      · exact .inl ⟨a, a⟩
      · have hne : i ≠ j := by rintro rfl; exact hp.not h2 j3
        exact .inr ⟨j, j1, j2, by rw [ix_set_ne (by omega) hne]; exact j3, .inr ⟨k', h1, j3, h2⟩⟩
  · have hTk : ¬ T k := fun c => by
      obtain ⟨j, j1, j2, _⟩ := hC.2 k hk c
      rw [hf] at j2; omega
    exact ⟨fun c => hTk (hC.1 i hi c k hk hF), fun k' h1 h2 => ix_set_ne (by omega) fun e => hTk (e ▸ h2)⟩
theorem Suc.give {m pl m1 pl1 : List Int} {t : List Bool} {i j k : Nat} (hT : Two F p q m pl) (lt : t.length = q) (hi : i < p) (hp : Pre q m t i) (hk : k < q) (ht : ix t k = false) (hF : F i k = true) (hj : j < p) (ho : ix pl k = (j : Int)) (hmj : ix m j = (k : Int))
    (h : Suc F p q m pl (t.set k true) j m1 pl1) : Suc F p q m pl t i (m1.set i (k : Int)) (pl1.set k (i : Int)) := by
  have lm := h.lm
  have lp := h.lp
  have hij : i ≠ j := by rintro rfl; exact hp.not ht hmj
  have t1 : ∀ k', k' < q → k' ≠ k → ix (t.set k true) k' = ix t k' := fun k' h1 h2 => ix_set_ne (by omega) (Ne.symm h2)
  have t2 : ix (t.set k true) k = true := ix_set_at (by omega)
  have hnf : ∀ {k'}, k' < q → ix (t.set k true) k' = false → k' ≠ k ∧ ix t k' = false := fun {k'} h1 h2 => by
    have : k' ≠ k := by rintro rfl; rw [t2] at h2; cases h2
    exact ⟨this, by rw [← t1 k' h1 this]; exact h2⟩
  have a1 : ∀ j', j' < p → Aff q m (t.set k true) j j' → Aff q m t i j' ∧ j' ≠ i := by
    rintro j' hj' (e | ⟨k', c1, c2, c3⟩)
    · subst e; exact ⟨.inr ⟨k, hk, hmj, ht⟩, Ne.symm hij⟩
    · obtain ⟨d1, d2⟩ := hnf c1 c3
      exact ⟨.inr ⟨k', c1, c2, d2⟩, by rintro rfl; exact hp.not d2 c2⟩
  have a2 : ∀ j', j' < p → Aff q m t i j' → j' ≠ i → Aff q m (t.set k true) j j' := by
    rintro j' hj' (e | ⟨k', c1, c2, c3⟩) hne
    · exact absurd e hne
    · by_cases e : k' = k
      · subst e
        left
        rcases hT.hm j' hj' with g | ⟨k2, g1, g2, g3, g4⟩
        · rw [c2] at g; omega
        · have : k2 = k' := by omega
          subst this
          rw [ho] at g4; omega
      · exact .inr ⟨k', c1, c2, by rw [t1 k' c1 e]; exact c3⟩
  refine ⟨by simp [lm], by simp [lp], fun k' h1 h2 => ?_, fun j' h1 h2 => ?_, fun j' h1 h2 => ?_, fun k' h1 h2 => ?_, fun R T hC => ?_⟩
  · have hne : k ≠ k' := by rintro rfl; rw [ht] at h2; cases h2
    rw [ix_set_ne (by omega) hne]
    exact h.s1 k' h1 (by rw [t1 k' h1 (Ne.symm hne)]; exact h2)
  · have hne : i ≠ j' := fun e => h2 (.inl e.symm)
    rw [ix_set_ne (by omega) hne]
    exact h.s2 j' h1 fun c => h2 (a1 j' h1 c).1
  · by_cases e : j' = i
    · subst e
      exact ⟨k, hk, ix_set_at (by omega), ht, hF, ix_set_at (by omega)⟩
    · obtain ⟨k', c1, c2, c3, c4, c5⟩ := h.s3 j' h1 (a2 j' h1 h2 e)
      obtain ⟨d1, d2⟩ := hnf c1 c3
      exact ⟨k', c1, by rw [ix_set_ne (by omega) (Ne.symm e)]; exact c2, d2, c4, by rw [ix_set_ne (by omega) (Ne.symm d1)]; exact c5⟩
  · by_cases e : k' = k
    · subst e
      exact .inr ⟨i, hi, ix_set_at (by omega), ix_set_at (by omega), .inl rfl⟩
    · rw [ix_set_ne (by omega) (Ne.symm e)]
      rcases h.s4 k' h1 (by rw [t1 k' h1 e]; exact h2) with c | ⟨j', c1, c2, c3, c4⟩
      · exact .inl c
      · obtain ⟨d1, d2⟩ := a1 j' c1 c4
        exact .inr ⟨j', c1, c2, by rw [ix_set_ne (by omega) (Ne.symm d2)]; exact c3, d1⟩
  · obtain ⟨c1, c2⟩ := h.s5 R T hC
    have hTk : ¬ T k := fun c => by
      obtain ⟨j', j1, j2, j3⟩ := hC.2 k hk c
      have : j' = j := by omega
      subst this; exact c1 j3
    refine ⟨fun c => hTk (hC.1 i hi c k hk hF), fun k' h1 h2 => ?_⟩
    have hne : k ≠ k' := by rintro rfl; exact hTk h2
    rw [ix_set_ne (by omega) hne]
    exact c2 k' h1 h2
theorem Suc.two {m pl m' pl' : List Int} {t : List Bool} {i : Nat} (hT : Two F p q m pl) (hi : i < p) (ht : ∀ k, k < q → ix t k = false) (h : Suc F p q m pl t i m' pl') : Two F p q m' pl' ∧ (∀ j, j < p → j ≠ i → (ix m' j = -1 ↔ ix m j = -1)) ∧ ix m' i ≠ -1 := by
  have aff : ∀ j, j < p → ix m j ≠ -1 → Aff q m t i j := fun j hj c => by
    rcases hT.hm j hj with e | ⟨k, k1, k2, _⟩
    · exact absurd e c
    · exact .inr ⟨k, k1, k2, ht k k1⟩
  refine ⟨⟨h.lm, h.lp, fun j hj => ?_, fun k hk => ?_⟩, fun j hj hne => ?_, ?_⟩
  · by_cases c : Aff q m t i j
    · obtain ⟨k, k1, k2, k3, k4, k5⟩ := h.s3 j hj c
      exact .inr ⟨k, k1, k2, k4, k5⟩
    · left
      rw [h.s2 j hj c]
      by_cases e : ix m j = -1
      · exact e
      · exact absurd (aff j hj e) c
  · rcases h.s4 k hk (ht k hk) with ⟨c, _⟩ | ⟨j, j1, j2, j3, _⟩
    · exact .inl c
    · exact .inr ⟨j, j1, j2, j3⟩
  · constructor
    · intro e
      by_cases c : ix m j = -1
      · exact c
      · obtain ⟨k, k1, k2, _⟩ := h.s3 j hj (aff j hj c)
        rw [k2] at e; omega
    · intro e
      have : ¬ Aff q m t i j := by
        rintro (c | ⟨k, k1, k2, _⟩)
        · exact hne c
        · rw [k2] at e; omega
      rw [h.s2 j hj this, e]
  · obtain ⟨k, k1, k2, _⟩ := h.s3 i hi (.inl rfl)
    rw [k2]; omega
theorem Fai.clo {m pl : List Int} {t t' : List Bool} {i : Nat} (hT : Two F p q m pl) (ht : ∀ k, k < q → ix t k = false) (h : Fai F p q pl t i t') : Clo F p q pl (fun j => j = i ∨ ∃ k, k < q ∧ ix t' k = true ∧ ix pl k = (j : Int)) (fun k => ix t' k = true) := by
  refine ⟨fun j hj hR k hk hF => ?_, fun k hk hk' => ?_⟩
  · rcases hR with rfl | ⟨k2, c1, c2, c3⟩
    · exact h.all k hk hF
    · obtain ⟨j', j1, j2, j3⟩ := h.new k2 c1 c2 (ht k2 c1)
      have : j' = j := by omega
      subst this
      exact j3 k hk hF
  · obtain ⟨j, j1, j2, j3⟩ := h.new k hk hk' (ht k hk)
    exact ⟨j, j1, j2, .inr ⟨k, hk, hk', j2⟩⟩
theorem Clo.union {pl : List Int} {R T R2 T2 : Nat → Prop} (h : Clo F p q pl R T) (h2 : Clo F p q pl R2 T2) : Clo F p q pl (fun i => R i ∨ R2 i) (fun k => T k ∨ T2 k) := by
  refine ⟨fun i hi hR k hk hF => ?_, fun k hk hT => ?_⟩
  · rcases hR with c | c
    · exact .inl (h.1 i hi c k hk hF)
    · exact .inr (h2.1 i hi c k hk hF)
  · rcases hT with c | c
    · obtain ⟨j, j1, j2, j3⟩ := h.2 k hk c
      exact ⟨j, j1, j2, .inl j3⟩
    · obtain ⟨j, j1, j2, j3⟩ := h2.2 k hk c
      exact ⟨j, j1, j2, .inr j3⟩
end
end
section
set_option maxRecDepth 4000
open Go
def fitF (w : List WantedPart) (o : List OfferedPart) (i k : Nat) : Bool := fitsB (ix w i) (ix o k)
def lastI (m : List Int) (x : Int) : Nat → Int
  | 0 => -1
  | v + 1 => bif ix m v == x then ((v : Nat) : Int) else lastI m x v
theorem lastI_none {m : List Int} {x : Int} : ∀ v, (∀ i, i < v → ix m i ≠ x) → lastI m x v = -1
  | 0, _ => rfl
  | v + 1, h => by
    have : (ix m v == x) = false := by rw [beq_eq_false_iff_ne]; exact h v (by omega)
    rw [lastI, this, cond_false]
    exact lastI_none v fun i hi => h i (by omega)
theorem lastI_at {m : List Int} {x : Int} {j : Nat} (hj : ix m j = x) : ∀ v, j < v → (∀ i, i < v → ix m i = x → i = j) → lastI m x v = (j : Int)
  | 0, h, _ => by omega
  | v + 1, h, hu => by
    rw [lastI]
    by_cases e : v = j
    · subst e; simp [hj]
    · have : (ix m v == x) = false := by rw [beq_eq_false_iff_ne]; exact fun c => e (hu v (by omega) c)
      rw [this, cond_false]
      exact lastI_at hj v (by omega) fun i hi => hu i (by omega)
section
variable {n p q : Nat} {F : Nat → Nat → Bool} {m pl : List Int}
theorem owner_loop (hT : Two F p q m pl) {k : Nat} (hk : k < q) (hp : p ≤ 900) (hn : 1000 < n) (K : Int → Option (List Bool × List Int × Bool)) : loopN (agrafferef08_improve_L1 k m K) n (-1, 0) = K (ix pl k) := by
  have lm := hT.lm
  have e : lastI m (k : Int) p = ix pl k := by
    rcases hT.hp k hk with c | ⟨j, j1, j2, j3⟩
    · rw [c]
      refine lastI_none p fun i hi e => ?_
      rcases hT.hm i hi with g | ⟨k', g1, g2, g3, g4⟩
      · rw [e] at g; omega
      · have : k' = k := by omega
        subst this; rw [c] at g4; omega
    · rw [j2]
      refine lastI_at j3 p j1 fun i hi e => ?_
      rcases hT.hm i hi with g | ⟨k', g1, g2, g3, g4⟩
      · rw [e] at g; omega
      · have : k' = k := by omega
        subst this; omega
  refine loop_fold (st := fun v => lastI m (k : Int) v) (len := p) (fun back v hv => ?_) (fun back => ?_) n (by omega) rfl
  · simp only [agrafferef08_improve_L1, lm, hv, decide_true, cond_true, withK_eq, lastI]
    rw [chk_of (nI_of (by omega)), chk_of (nI_of (by omega))]
    cases ix m v == (k : Int) <;> rfl
  · simp only [agrafferef08_improve_L1, lm, Nat.lt_irrefl, decide_false, cond_false, e]
def Out (F : Nat → Nat → Bool) (p q : Nat) (m pl : List Int) (t : List Bool) (i : Nat) (g : Option (List Bool × List Int × List Int × Bool)) (r : Option (List Bool × List Int × Bool)) : Prop :=
  (∃ t', g = some (t', pl, m, false) ∧ r = some (t', m, false) ∧ Fai F p q pl t i t') ∨ ∃ t' m' pl', g = some (t', pl', m', true) ∧ r = some (t', m', true) ∧ t'.length = q ∧ Suc F p q m pl t i m' pl'
def RowsOf (F : Nat → Nat → Bool) (p q : Nat) (rows : List (List Bool)) : Prop := rows.length = p ∧ ∀ i, i < p → (ix rows i).length = q ∧ ∀ k, k < q → ix (ix rows i) k = F i k
abbrev GS := (List (List Bool)) × (List Int) × Nat × Nat × (List Int) × Nat × Nat × Int × (List Bool) → Option ((List Bool) × (List Int) × (List Int) × Bool)
abbrev IS := (List WantedPart) × (List OfferedPart) × (List Int) × Int × (List Bool) → Option ((List Bool) × (List Int) × Bool)
theorem search_loop {w : List WantedPart} {o : List OfferedPart} (hw : OkW w) (ho : OkO o) (hwp : w.length = p) (hoq : o.length = q) (hn : 1000 < n) {rows : List (List Bool)} (hr : RowsOf (fitF w o) p q rows) (hT : Two (fitF w o) p q m pl)
    {fu : Nat} {s1 : GS} {s2 : IS} (hs : ∀ (t : List Bool) (i : Nat), untr t < fu → t.length = q → i < p → Pre q m t i → Out (fitF w o) p q m pl t i (s1 (rows, m, 0, p, pl, 0, q, (i : Int), t)) (s2 (w, o, m, (i : Int), t)))
    {k3 : List Bool × List Int × List Int → Option (List Bool × List Int × List Int × Bool)} {k5 : List Bool × List Int → Option (List Bool × List Int × Bool)} (h3 : ∀ a b c, k3 (a, b, c) = some (a, b, c, false)) (h5 : ∀ a b, k5 (a, b) = some (a, b, false))
    {t : List Bool} {i : Nat} (hi : i < p) (hp : Pre q m t i) : ∀ d v tc N1 N2, v + d = q → d < N1 → d < N2 → tc.length = q → (∀ k, k < q → ix t k = true → ix tc k = true) → (∀ k, k < v → fitF w o i k = true → ix tc k = true) →
      (∀ k, k < q → ix tc k = true → ix t k = false → ∃ j, j < p ∧ ix pl k = (j : Int) ∧ ∀ k2, k2 < q → fitF w o j k2 = true → ix tc k2 = true) → untr tc ≤ fu →
      Out (fitF w o) p q m pl t i (loopN (restore_matching_grow_L1 rows 0 p 0 q (i : Int) s1 k3) N1 (v, tc, pl, m)) (loopN (agrafferef08_improve_L2 n w o (i : Int) s2 k5) N2 (v, tc, m)) := by
  have lm := hT.lm
  have lp := hT.lp
  have hpl : p ≤ 43 := by rw [← hwp]; exact hw.len
  have hql : q ≤ 43 := by rw [← hoq]; exact ho.len
  have hi2 : ((i : Nat) : Int).toNat = i := by omega
  obtain ⟨hri, hrk⟩ := hr.2 i hi
  intro d
  induction d with
  | zero =>
    intro v tc N1 N2 hv h1 h2 ht hle hall hnew hu
    obtain ⟨N1, rfl⟩ : ∃ a, N1 = a + 1 := ⟨N1 - 1, by omega⟩
    obtain ⟨N2, rfl⟩ : ∃ a, N2 = a + 1 := ⟨N2 - 1, by omega⟩
    have hv : v = q := by omega
    subst hv
    refine .inl ⟨tc, ?_, ?_, ⟨ht, hle, hall, hnew⟩⟩
    · rw [loopN_s]
      simp only [restore_matching_grow_L1, hi2, hri, Nat.lt_irrefl, decide_false, cond_false, h3]
    · rw [loopN_s]
      simp only [agrafferef08_improve_L2, hoq, Nat.lt_irrefl, decide_false, cond_false, h5]
  | succ d ih =>
    intro v tc N1 N2 hv h1 h2 ht hle hall hnew hu
    obtain ⟨N1, rfl⟩ : ∃ a, N1 = a + 1 := ⟨N1 - 1, by omega⟩
    obtain ⟨N2, rfl⟩ : ∃ a, N2 = a + 1 := ⟨N2 - 1, by omega⟩
    have hvq : v < q := by omega
    have hvt : v < tc.length := by omega
    have hvp : v < pl.length := by omega
    have hiw : i < w.length := by omega
    have hnI : nI (v + 1) = true := nI_of (by omega)
    have hinr : inB ((i : Nat) : Int) p = true := inB_of (by omega) (by omega)
    have hinw : inB ((i : Nat) : Int) w.length = true := inB_of (by omega) (by omega)
    have hfit := fits_ref (n := n) (ix w i) (ix o v) (hw.rng _ (ix_mem hiw)) hn
    have hFr : ix (ix rows i) v = fitsB (ix w i) (ix o v) := hrk v hvq
    rw [loopN_s, loopN_s]
    simp only [restore_matching_grow_L1, agrafferef08_improve_L2, hi2, hri, hvq, hvt, hvp, hiw, hoq, hFr, hfit, hinr, hinw, decide_true, cond_true, withK_eq, Bool.or_true, chk_t, gcall_some_, Option.bind_some, Nat.zero_add, hnI]
    have skip : (ix tc v = true ∨ fitsB (ix w i) (ix o v) = false) → Out (fitF w o) p q m pl t i (loopN (restore_matching_grow_L1 rows 0 p 0 q (i : Int) s1 k3) N1 (v + 1, tc, pl, m)) (loopN (agrafferef08_improve_L2 n w o (i : Int) s2 k5) N2 (v + 1, tc, m)) := fun hsk => by
      refine ih (v + 1) tc N1 N2 (by omega) (by omega) (by omega) ht hle (fun k hk hF => ?_) hnew hu
      by_cases e : k = v
      · subst e
        rcases hsk with c | c
        · exact c
        · have : fitF w o i k = false := c
          rw [this] at hF; cases hF
      · exact hall k (by omega) hF
    cases hq : ix tc v
    · cases hF : fitsB (ix w i) (ix o v)
      · simpa using skip (.inr hF)
      · have hFv : fitF w o i v = true := hF
        have htv : ix t v = false := by
          cases e : ix t v
          · rfl
          · rw [hle v hvq e] at hq; cases hq
        have hPc : Pre q m tc i := by
          rcases hp with c | ⟨k, k1, k2, k3⟩
          · exact .inl c
          · exact .inr ⟨k, k1, k2, hle k k1 k3⟩
        simp only [Bool.not_true, Bool.or_self, cond_false, Bool.not_false, cond_true, Bool.or_false]
        rw [owner_loop hT hvq (by omega) hn]
        rcases hT.hp v hvq with c | ⟨j, j1, j2, j3⟩
        · refine .inr ⟨tc.set v true, m.set i (v : Int), pl.set v (i : Int), ?_, ?_, by simpa using ht, (Suc.free hT hi hPc hvq hq hFv c).more hT hp hle⟩
          · simp [c, hinr, lm, hi]
          · have : inB ((i : Nat) : Int) m.length = true := by rw [lm]; exact hinr
            simp [c, this, lm, hi, hinr]
        · have hj0 : ¬ ((j : Nat) : Int) < 0 := by omega
          have hu1 := untr_set hvt hq
          have hPj : Pre q m (tc.set v true) j := .inr ⟨v, hvq, j3, ix_set_at hvt⟩
          rcases hs (tc.set v true) j (by omega) (by simpa using ht) j1 hPj with ⟨t', e1, e2, hf⟩ | ⟨t', m', pl', e1, e2, lt', hsuc⟩
          · have lt' := hf.len
            simp only [j2, hj0, decide_false, Bool.not_false, cond_true, e1, e2, Option.bind_some, ht, lt', decide_true, chk_t, Bool.or_self, cond_false]
            have hlec : ∀ k, k < q → ix tc k = true → ix t' k = true := fun k hk hc => hf.le k hk (by
              by_cases e : k = v
              · subst e; exact ix_set_at hvt
              · rw [ix_set_ne (by omega) (Ne.symm e)]; exact hc)
            have hvt' : ix t' v = true := hf.le v hvq (ix_set_at hvt)
            have hmono : untr t' ≤ fu := by
              have := untr_le (t := tc) (t' := t') (by omega) fun k hk hc => hlec k (by omega) hc
              omega
            refine ih (v + 1) t' N1 N2 (by omega) (by omega) (by omega) lt' (fun k hk hc => hlec k hk (hle k hk hc)) (fun k hk hF' => ?_) (fun k hk hc hc' => ?_) hmono
            · by_cases e : k = v
              · subst e; exact hvt'
              · exact hlec k (by omega) (hall k (by omega) hF')
            · by_cases e : k = v
              · subst e
                exact ⟨j, j1, j2, hf.all⟩
              · cases ec : ix tc k
                · exact hf.new k hk hc (by rw [ix_set_ne (by omega) (Ne.symm e)]; exact ec)
                · obtain ⟨j', a1, a2, a3⟩ := hnew k hk ec hc'
                  exact ⟨j', a1, a2, fun k2 h1 h2 => hlec k2 h1 (a3 k2 h1 h2)⟩
          · refine .inr ⟨t', m'.set i (v : Int), pl'.set v (i : Int), ?_, ?_, lt', (Suc.give hT ht hi hPc hvq hq hFv j1 j2 j3 hsuc).more hT hp hle⟩
            · have l1 := hsuc.lm
              have l2 := hsuc.lp
              simp [j2, hj0, e1, ht, lt', hinr, l1, l2, hi, hvq]
            · have l1 := hsuc.lm
              have : inB ((i : Nat) : Int) m'.length = true := by rw [l1]; exact hinr
              simp [j2, hj0, e2, ht, lt', lm, l1, this, hi, hinr]
    · simpa using skip (.inl hq)
theorem search {w : List WantedPart} {o : List OfferedPart} (hw : OkW w) (ho : OkO o) (hwp : w.length = p) (hoq : o.length = q) (hn : 1000 < n) {rows : List (List Bool)} (hr : RowsOf (fitF w o) p q rows) (hT : Two (fitF w o) p q m pl) :
    ∀ (fu : Nat) (t : List Bool) (i : Nat), untr t < fu → t.length = q → i < p → Pre q m t i → Out (fitF w o) p q m pl t i (loopN (restore_matching_grow_F n) fu (rows, m, 0, p, pl, 0, q, (i : Int), t)) (loopN (agrafferef08_improve_F n) fu (w, o, m, (i : Int), t)) := by
  have hpl : p ≤ 43 := by rw [← hwp]; exact hw.len
  have hql : q ≤ 43 := by rw [← hoq]; exact ho.len
  intro fu
  induction fu with
  | zero => intro t i h; omega
  | succ fu ih =>
    intro t i hu ht hi hp
    rw [loopN_s, loopN_s]
    have hinr : inB ((i : Nat) : Int) p = true := inB_of (by omega) (by omega)
    have hi2 : ((i : Nat) : Int).toNat = i := by omega
    simp only [restore_matching_grow_F, agrafferef08_improve_F, withK_eq, hr.1, hinr, hi2, hi, decide_true, chk_t]
    refine search_loop hw ho hwp hoq hn hr hT ih (k3 := fun x => some (x.1, x.2.1, x.2.2, false)) (k5 := fun x => some (x.1, x.2, false)) (fun a b c => rfl) (fun a b => rfl) hi hp q 0 t n n (by omega) (by omega) (by omega) ht (fun k _ h => h) (fun k hk => by omega) (fun k _ h1 h2 => by rw [h1] at h2; cases h2) (by omega)
end
end
section
set_option maxRecDepth 4000
open Go
def rowV (w : List WantedPart) (o : List OfferedPart) (i v : Nat) : List Bool := (List.range o.length).map fun k => decide (k < v) && fitF w o i k
theorem rowV_ix (w : List WantedPart) (o : List OfferedPart) (i v : Nat) {k : Nat} (hk : k < o.length) : ix (rowV w o i v) k = (decide (k < v) && fitF w o i k) := by
  rw [ix_eq (by simpa [rowV] using hk)]; simp [rowV]
theorem rowV_len (w : List WantedPart) (o : List OfferedPart) (i v : Nat) : (rowV w o i v).length = o.length := by simp [rowV]
theorem rowV_zero (w : List WantedPart) (o : List OfferedPart) (i : Nat) : rowV w o i 0 = List.replicate o.length false := by
  refine List.ext_getElem (by simp [rowV]) fun j h1 h2 => ?_
  simp [rowV]
theorem rowV_step (w : List WantedPart) (o : List OfferedPart) (i : Nat) {v : Nat} (hv : v < o.length) : (rowV w o i v).set v (fitF w o i v) = rowV w o i (v + 1) := by
  refine List.ext_getElem (by simp [rowV]) fun j h1 h2 => ?_
  have hj : j < o.length := by simpa [rowV] using h2
  rw [List.getElem_set]
  by_cases e : v = j
  · subst e; simp [rowV]
  · rw [if_neg e]
    have : decide (j < v) = decide (j < v + 1) := decide_eq_decide.2 ⟨fun h => by omega, fun h => by omega⟩
    simp [rowV, this]
def rowsV (w : List WantedPart) (o : List OfferedPart) (v : Nat) : List (List Bool) := (List.range v).map fun i => rowV w o i o.length
theorem rows_of (w : List WantedPart) (o : List OfferedPart) : RowsOf (fitF w o) w.length o.length (rowsV w o w.length) := by
  refine ⟨by simp [rowsV], fun i hi => ?_⟩
  have e : ix (rowsV w o w.length) i = rowV w o i o.length := by rw [ix_eq (by simpa [rowsV] using hi)]; simp [rowsV]
  rw [e]
  refine ⟨rowV_len _ _ _ _, fun k hk => ?_⟩
  rw [rowV_ix _ _ _ _ hk, decide_eq_true hk]; rfl
abbrev MR := Option (Int ⊕ (Nat × (List Int) × (List Int) × (List Int)))
theorem rows_loop {n : Nat} {w : List WantedPart} {o : List OfferedPart} (hw : OkW w) (ho : OkO o) (hn : 1000 < n) (K : List (List Bool) → MR) : loopN (restore_Match_L2 n w o K) n (0, []) = K (rowsV w o w.length) := by
  have hlw := hw.len
  have hlo := ho.len
  refine loop_fold' (st := fun v => rowsV w o v) (len := w.length) (fun back v hv => ?_) (fun back => ?_) n (by omega) rfl
  · have hmk : mkroom 1 o.length = true := by simp [mkroom]; omega
    simp only [restore_Match_L2, hv, decide_true, cond_true, withK_eq, hmk, chk_t]
    refine loop_fold' (st := fun k => rowV w o v k) (len := o.length) (fun back' k hk => ?_) (fun back' => ?_) n (by omega) (rowV_zero w o v)
    · have hfit := fits_res (n := n) (ix w v) (ix o k) (hw.rng _ (ix_mem hv)) hn
      simp only [restore_Match_L1, hk, decide_true, cond_true, hfit, Option.bind_some, rowV_len, chk_t]
      rw [chk_of (nI_of (by omega)), ← rowV_step w o v hk]; rfl
    · simp only [restore_Match_L1, Nat.lt_irrefl, decide_false, cond_false]
      have e : rowsV w o v ++ [rowV w o v o.length] = rowsV w o (v + 1) := by simp [rowsV, List.range_succ]
      rw [e, chk_of (room_of (by simp [rowsV]; omega) (by simp [rowsV]; omega)), chk_of (nI_of (by omega))]
  · simp only [restore_Match_L2, Nat.lt_irrefl, decide_false, cond_false]
theorem cntM_step {m m' : List Int} {v : Nat} (hl : m'.length = m.length) (hv : v < m.length) (h : ∀ j, j < m.length → j ≠ v → (ix m' j = -1 ↔ ix m j = -1)) (h0 : ix m v = -1) (h1 : ix m' v ≠ -1) : cntM m' = cntM m + 1 := by
  have key : ∀ k, k ≤ m.length → cntM (m'.take k) = cntM (m.take k) + (if v < k then 1 else 0) := by
    intro k
    induction k with
    | zero => intro _; simp [cntM]
    | succ k ih =>
      intro hk
      rw [cntM_take (by omega), cntM_take (by omega), ih (by omega)]
      by_cases e : k = v
      · subst e
        have c1 : (ix m' k == (-1 : Int)) = false := by simpa using h1
        have c2 : (ix m k == (-1 : Int)) = true := by simpa using h0
        rw [c1, c2]; simp
      · have c : (ix m' k == (-1 : Int)) = (ix m k == (-1 : Int)) := by
          have := h k (by omega) e
          rw [Bool.eq_iff_iff, beq_iff_eq, beq_iff_eq]; exact this
        rw [c]
        by_cases q : v < k
        · rw [if_pos q, if_pos (by omega)]; omega
        · rw [if_neg q, if_neg (by omega)]; omega
  have := key m.length (Nat.le_refl _)
  rw [List.take_length, ← hl, List.take_length, hl, if_pos hv] at this
  exact this
structure Mid (F : Nat → Nat → Bool) (p q v : Nat) (m pl : List Int) : Prop where
  two : Two F p q m pl
  rest : ∀ i, v ≤ i → i < p → ix m i = -1
  dead : ∃ R T : Nat → Prop, Clo F p q pl R T ∧ ∀ i, i < v → i < p → ix m i = -1 → R i
theorem untr_rep (q : Nat) : untr (List.replicate q false) = q := by
  induction q with
  | zero => rfl
  | succ q ih =>
    have : List.replicate (q + 1) false = false :: List.replicate q false := rfl
    rw [this]
    simp only [untr, List.countP_cons] at ih ⊢
    simp [ih]
theorem ix_rep {α : Type} [Inhabited α] {x : α} {q k : Nat} (h : k < q) : ix (List.replicate q x) k = x := by rw [ix_eq (by simpa using h)]; simp
theorem places_loop {n : Nat} {w : List WantedPart} {o : List OfferedPart} (hw : OkW w) (ho : OkO o) (hn : 1000 < n) {rows : List (List Bool)} (hr : RowsOf (fitF w o) w.length o.length rows) :
    ∀ d v m pl, v + d = w.length → Mid (fitF w o) w.length o.length v m pl → ∃ m' pl', Mid (fitF w o) w.length o.length w.length m' pl' ∧
      (∀ (K : Nat × Nat × List Int × List Int → MR) N, d < N → loopN (restore_Match_L3 n w o rows K) N (v, w.length, o.length, pl, m) = K (w.length, o.length, pl', m')) ∧
      ∀ (K : Nat → Option Int) N, d < N → loopN (agrafferef08_Most_L2 n w o K) N (cntM m, v, m) = K (cntM m') := by
  have hlw := hw.len
  have hlo := ho.len
  intro d
  induction d with
  | zero =>
    intro v m pl hv hM
    have hv : v = w.length := by omega
    subst hv
    have lm := hM.two.lm
    refine ⟨m, pl, hM, fun K N h => ?_, fun K N h => ?_⟩
    · obtain ⟨N, rfl⟩ : ∃ a, N = a + 1 := ⟨N - 1, by omega⟩
      rw [loopN_s]; simp only [restore_Match_L3, Nat.lt_irrefl, decide_false, cond_false]
    · obtain ⟨N, rfl⟩ : ∃ a, N = a + 1 := ⟨N - 1, by omega⟩
      rw [loopN_s]; simp only [agrafferef08_Most_L2, lm, Nat.lt_irrefl, decide_false, cond_false]
  | succ d ih =>
    intro v m pl hv hM
    have hvw : v < w.length := by omega
    have hT := hM.two
    have lm := hT.lm
    have lp := hT.lp
    have hmk : mkroom 1 o.length = true := by simp [mkroom]; omega
    have hnI : nI (v + 1) = true := nI_of (by omega)
    have h0 := hM.rest v (Nat.le_refl _) hvw
    have hrep : ∀ k, k < o.length → ix (List.replicate o.length false) k = false := fun k hk => ix_rep hk
    have hcm := cntM_le m
    obtain ⟨R, T, hC, hRd⟩ := hM.dead
    rcases search hw ho rfl rfl hn hr hT n (List.replicate o.length false) v (by rw [untr_rep]; omega) (by simp) hvw (.inl h0) with ⟨t', e1, e2, hf⟩ | ⟨t', m', pl', e1, e2, lt', hs⟩
    · have lt' := hf.len
      obtain ⟨m2, pl2, hM2, i1, i2⟩ := ih (v + 1) m pl (by omega) ⟨hT, fun i h1 h2 => hM.rest i (by omega) h2, by
        refine ⟨_, _, hC.union (hf.clo hT hrep), fun i h1 h2 h3 => ?_⟩
        by_cases e : i = v
        · exact .inr (.inl e)
        · exact .inl (hRd i (by omega) h2 h3)⟩
      refine ⟨m2, pl2, hM2, fun K N h => ?_, fun K N h => ?_⟩
      · obtain ⟨N, rfl⟩ : ∃ a, N = a + 1 := ⟨N - 1, by omega⟩
        rw [loopN_s]
        simp only [restore_Match_L3, hvw, decide_true, cond_true, hmk, chk_t, restore_matching_grow, e1, Option.bind_some, hnI]
        exact i1 K N (by omega)
      · obtain ⟨N, rfl⟩ : ∃ a, N = a + 1 := ⟨N - 1, by omega⟩
        rw [loopN_s]
        simp only [agrafferef08_Most_L2, hvw, lm, decide_true, cond_true, hmk, chk_t, withK_eq, agrafferef08_improve, e2, Option.bind_some, hnI, lt', List.length_replicate, cond_false]
        exact i2 K N (by omega)
    · obtain ⟨hT', hiff, hne⟩ := hs.two hT hvw hrep
      obtain ⟨hnR, hTe⟩ := hs.s5 R T hC
      have lm' := hT'.lm
      have hcnt : cntM m' = cntM m + 1 := cntM_step (by omega) (by omega) (fun j hj hne => hiff j (by omega) hne) h0 hne
      have hnc : nI (cntM m') = true := nI_of (by omega)
      obtain ⟨m2, pl2, hM2, i1, i2⟩ := ih (v + 1) m' pl' (by omega) ⟨hT', fun i h1 h2 => (hiff i h2 (by omega)).2 (hM.rest i (by omega) h2), R, T, ⟨hC.1, fun k hk hTk => by rw [hTe k hk hTk]; exact hC.2 k hk hTk⟩, fun i h1 h2 h3 => by
        by_cases e : i = v
        · subst e; exact absurd h3 hne
        · exact hRd i (by omega) h2 ((hiff i h2 e).1 h3)⟩
      refine ⟨m2, pl2, hM2, fun K N h => ?_, fun K N h => ?_⟩
      · obtain ⟨N, rfl⟩ : ∃ a, N = a + 1 := ⟨N - 1, by omega⟩
        rw [loopN_s]
        simp only [restore_Match_L3, hvw, decide_true, cond_true, hmk, chk_t, restore_matching_grow, e1, Option.bind_some, hnI]
        exact i1 K N (by omega)
      · obtain ⟨N, rfl⟩ : ∃ a, N = a + 1 := ⟨N - 1, by omega⟩
        rw [loopN_s]
        simp only [agrafferef08_Most_L2, hvw, lm, lm', decide_true, cond_true, hmk, chk_t, withK_eq, agrafferef08_improve, e2, Option.bind_some, hnI, lt', List.length_replicate, ← hcnt, hnc]
        exact i2 K N (by omega)
theorem Mid.start (F : Nat → Nat → Bool) (p q : Nat) : Mid F p q 0 (List.replicate p (-1)) (List.replicate q (-1)) :=
  ⟨⟨by simp, by simp, fun i hi => .inl (ix_rep hi), fun k hk => .inl (ix_rep hk)⟩, fun i _ hi => ix_rep hi, fun _ => False, fun _ => False, ⟨fun _ _ h => h.elim, fun _ _ h => h.elim⟩, fun i hi => by omega⟩
theorem most_eq {n : Nat} {w : List WantedPart} {o : List OfferedPart} (hw : OkW w) (hn : 1000 < n) : ∃ K2 : Nat → Option Int, (∀ c, K2 c = some ((c : Nat) : Int)) ∧ agrafferef08_Most n w o = loopN (agrafferef08_Most_L2 n w o K2) n (0, 0, List.replicate w.length (-1)) := by
  have hlw := hw.len
  refine ⟨fun c => some ((c : Nat) : Int), fun c => rfl, ?_⟩
  rw [agrafferef08_Most, chk_of (by simp [mkroom]; omega)]
  simp only [withK_eq]
  refine loop_fold' (st := fun v => (List.range w.length).map fun i => if i < v then (-1 : Int) else 0) (len := w.length) (fun back v hv => ?_) (fun back => ?_) n (by omega) ?_
  · simp only [agrafferef08_Most_L1, List.length_map, List.length_range, hv, decide_true, cond_true]
    rw [chk_of (nI_of (by omega))]
    congr 2
    refine List.ext_getElem (by simp) fun j h1 h2 => ?_
    rw [List.getElem_set]
    by_cases e : v = j
    · subst e; simp
    · rw [if_neg e]
      simp only [List.getElem_map, List.getElem_range]
      by_cases q : j < v
      · rw [if_pos q, if_pos (by omega)]
      · rw [if_neg q, if_neg (by omega)]
  · simp only [agrafferef08_Most_L1, List.length_map, List.length_range, Nat.lt_irrefl, decide_false, cond_false]
    congr 3
    refine List.ext_getElem (by simp) fun j h1 h2 => ?_
    have : j < w.length := by simpa using h1
    simp [this]
  · refine List.ext_getElem (by simp) fun j h1 h2 => ?_
    simp
end
section
set_option maxRecDepth 4000
open Go
section
variable {n p q : Nat} {F : Nat → Nat → Bool} {pl : List Int} {R T : Nat → Prop}
structure Rch (F : Nat → Nat → Bool) (p q : Nat) (pl : List Int) (R T : Nat → Prop) (re se : List Bool) (re' se' : List Bool) : Prop where
  lr : re'.length = p
  ls : se'.length = q
  mr : ∀ j, j < p → ix re j = true → ix re' j = true
  ms : ∀ k, k < q → ix se k = true → ix se' k = true
  nr : ∀ j, j < p → ix re' j = true → ix re j = false → R j ∧ ∀ k, k < q → F j k = true → ix se' k = true
  ns : ∀ k, k < q → ix se' k = true → ix se k = false → T k ∧ ∃ j, j < p ∧ ix pl k = (j : Int) ∧ ix re' j = true
abbrev RS := Int × (List Bool) × Nat × Nat × (List (List Bool)) × (List Int) × Nat × Nat × (List Int) × Nat × Nat × (List Bool) × Nat × Nat → Option ((List Bool) × (List Bool))
theorem reach_loop {rows : List (List Bool)} (hq : q ≤ 43) (hr : RowsOf F p q rows) (lp : pl.length = q) (hC : Clo F p q pl R T) {fu c6 c7 : Nat} {m5 : List Int} {s : RS}
    (hs : ∀ (re se : List Bool) (i : Nat), untr se < fu → re.length = p → se.length = q → i < p → R i → ∃ se' re', s ((i : Int), re, 0, p, rows, m5, c6, c7, pl, 0, q, se, 0, q) = some (se', re') ∧ Rch F p q pl R T re se re' se' ∧ ix re' i = true)
    {re se : List Bool} {i : Nat} (hi : i < p) (hR : R i) (lr0 : re.length = p) (hri : ix re i = false) : ∀ d v rc sc N, v + d = q → d < N → rc.length = p → sc.length = q →
      (∀ j, j < p → ix re j = true → ix rc j = true) → ix rc i = true → (∀ k, k < q → ix se k = true → ix sc k = true) → (∀ j, j < p → ix rc j = true → ix re j = false → j ≠ i → R j ∧ ∀ k, k < q → F j k = true → ix sc k = true) →
      (∀ k, k < q → ix sc k = true → ix se k = false → T k ∧ ∃ j, j < p ∧ ix pl k = (j : Int) ∧ ix rc j = true) → (∀ k, k < v → F i k = true → ix sc k = true) → untr sc ≤ fu →
      ∃ se' re', loopN (restore_Match_f1_2_L1 (i : Int) 0 p rows m5 c6 c7 pl 0 q 0 q s) N (v, sc, rc) = some (se', re') ∧ Rch F p q pl R T re se re' se' ∧ ix re' i = true := by
  have hi2 : ((i : Nat) : Int).toNat = i := by omega
  obtain ⟨hrl, hrk⟩ := hr.2 i hi
  intro d
  induction d with
  | zero =>
    intro v rc sc N hv h1 lrc lsc a1 a2 a3 a4 a5 a6 hu
    obtain ⟨N, rfl⟩ : ∃ a, N = a + 1 := ⟨N - 1, by omega⟩
    have hv : v = q := by omega
    subst hv
    refine ⟨sc, rc, ?_, ⟨lrc, lsc, a1, a3, fun j hj h1 h2 => ?_, a5⟩, a2⟩
    · rw [loopN_s]
      simp only [restore_Match_f1_2_L1, hi2, hrl, Nat.lt_irrefl, decide_false, cond_false]
    · by_cases e : j = i
      · subst e; exact ⟨hR, a6⟩
      · exact a4 j hj h1 h2 e
  | succ d ih =>
    intro v rc sc N hv h1 lrc lsc a1 a2 a3 a4 a5 a6 hu
    obtain ⟨N, rfl⟩ : ∃ a, N = a + 1 := ⟨N - 1, by omega⟩
    have hvq : v < q := by omega
    have hvs : v < sc.length := by omega
    have hvp : v < pl.length := by omega
    have hFr : ix (ix rows i) v = F i v := hrk v hvq
    have hnI : nI (v + 1) = true := nI_of (by omega)
    rw [loopN_s]
    simp only [restore_Match_f1_2_L1, hi2, hrl, hvq, hvs, hvp, hFr, decide_true, cond_true, withK_eq, Bool.or_true, chk_t, Nat.zero_add, hnI]
    cases hF : F i v
    · simp only [Bool.false_and, cond_false]
      refine ih (v + 1) rc sc N (by omega) (by omega) lrc lsc a1 a2 a3 a4 a5 (fun k hk hFk => ?_) hu
      by_cases e : k = v
      · subst e; rw [hF] at hFk; cases hFk
      · exact a6 k (by omega) hFk
    · cases hsv : ix sc v
      · simp only [Bool.not_false, Bool.and_self, cond_true]
        have hTv : T v := hC.1 i hi hR v hvq hF
        obtain ⟨j, j1, j2, j3⟩ := hC.2 v hvq hTv
        have hu1 := untr_set hvs hsv
        obtain ⟨s', r', e1, hrc, hrj⟩ := hs rc (sc.set v true) j (by omega) lrc (by simpa using lsc) j1 j3
        rw [j2, e1]
        simp only [Option.bind_some]
        have hsub : ∀ k, k < q → ix sc k = true → ix s' k = true := fun k hk h => hrc.ms k hk (by
          by_cases e : k = v
          · subst e; exact ix_set_at hvs
          · rw [ix_set_ne (by omega) (Ne.symm e)]; exact h)
        have hv' : ix s' v = true := hrc.ms v hvq (ix_set_at hvs)
        refine ih (v + 1) r' s' N (by omega) (by omega) hrc.lr hrc.ls (fun j' hj' h => hrc.mr j' hj' (a1 j' hj' h)) (hrc.mr i hi a2) (fun k hk h => hsub k hk (a3 k hk h)) (fun j' hj' h1' h2' hne => ?_) (fun k hk h1' h2' => ?_) (fun k hk hFk => ?_) ?_
        · cases e : ix rc j'
          · exact hrc.nr j' hj' h1' e
          · obtain ⟨b1, b2⟩ := a4 j' hj' e h2' hne
            exact ⟨b1, fun k hk h => hsub k hk (b2 k hk h)⟩
        · by_cases e : k = v
          · subst e; exact ⟨hTv, j, j1, j2, hrj⟩
          · cases e2 : ix sc k
            · exact hrc.ns k hk h1' (by rw [ix_set_ne (by omega) (Ne.symm e)]; exact e2)
            · obtain ⟨b1, j', b2, b3, b4⟩ := a5 k hk e2 h2'
              exact ⟨b1, j', b2, b3, hrc.mr j' b2 b4⟩
        · by_cases e : k = v
          · subst e; exact hv'
          · exact hsub k (by omega) (a6 k (by omega) hFk)
        · have := untr_le (t := sc) (t' := s') (by rw [lsc, hrc.ls]) fun k hk h => hsub k (by omega) h
          omega
      · simp only [Bool.not_true, Bool.and_false, cond_false]
        refine ih (v + 1) rc sc N (by omega) (by omega) lrc lsc a1 a2 a3 a4 a5 (fun k hk hFk => ?_) hu
        by_cases e : k = v
        · subst e; exact hsv
        · exact a6 k (by omega) hFk
theorem reachK {rows : List (List Bool)} (hn : 1000 < n) (hq : q ≤ 43) (hr : RowsOf F p q rows) (lp : pl.length = q) (hC : Clo F p q pl R T) {c6 c7 : Nat} {m5 : List Int} :
    ∀ (fu : Nat) (re se : List Bool) (i : Nat), untr se < fu → re.length = p → se.length = q → i < p → R i → ∃ se' re', loopN (restore_Match_f1_2_F n) fu ((i : Int), re, 0, p, rows, m5, c6, c7, pl, 0, q, se, 0, q) = some (se', re') ∧ Rch F p q pl R T re se re' se' ∧ ix re' i = true := by
  intro fu
  induction fu with
  | zero => intro re se i h; omega
  | succ fu ih =>
    intro re se i hu lr ls hi hR
    have hi2 : ((i : Nat) : Int).toNat = i := by omega
    have hin : inB ((i : Nat) : Int) p = true := inB_of (by omega) (by omega)
    have hire : i < re.length := by omega
    rw [loopN_s]
    simp only [restore_Match_f1_2_F, hr.1, hin, hi2, hire, hi, Nat.zero_add, decide_true, chk_t]
    cases hri : ix re i
    · simp only [cond_false]
      refine reach_loop hq hr lp hC ih hi hR lr hri q 0 (re.set i true) se n (by omega) (by omega) (by simpa using lr) ls (fun j hj h => ?_) (ix_set_at hire) (fun k _ h => h) (fun j hj h1 h2 hne => ?_) (fun k _ h1 h2 => by rw [h1] at h2; cases h2) (fun k hk => by omega) (by omega)
      · by_cases e : j = i
        · subst e; exact ix_set_at hire
        · rw [ix_set_ne (by omega) (Ne.symm e)]; exact h
      · rw [ix_set_ne (by omega) (Ne.symm hne)] at h1
        rw [h1] at h2; cases h2
    · simp only [cond_true]
      exact ⟨se, re, rfl, ⟨lr, ls, fun _ _ h => h, fun _ _ h => h, fun j _ h1 h2 => absurd h2 (by rw [h1]; decide), fun k _ h1 h2 => absurd h2 (by rw [h1]; decide)⟩, hri⟩
structure Alr (F : Nat → Nat → Bool) (p q v : Nat) (m pl : List Int) (re se : List Bool) : Prop where
  lr : re.length = p
  ls : se.length = q
  ar : ∀ j, j < p → ix re j = true → ∀ k, k < q → F j k = true → ix se k = true
  as' : ∀ k, k < q → ix se k = true → ∃ j, j < p ∧ ix pl k = (j : Int) ∧ ix re j = true
  un : ∀ i, i < v → i < p → ix m i = -1 → ix re i = true
theorem reach_all {rows : List (List Bool)} (hn : 1000 < n) (hp : p ≤ 43) (hq : q ≤ 43) (hr : RowsOf F p q rows) {m : List Int} (hT : Two F p q m pl) (hC : Clo F p q pl R T) (hRd : ∀ i, i < p → ix m i = -1 → R i) :
    ∀ d v re se, v + d = p → Alr F p q v m pl re se → ∃ re' se', Alr F p q p m pl re' se' ∧ ∀ (K : Nat × List Bool × Nat × List Bool → MR) N, d < N → loopN (restore_Match_L4 n rows p q pl m K) N (v, q, se, p, re) = K (q, se', p, re') := by
  have lm := hT.lm
  have lp := hT.lp
  intro d
  induction d with
  | zero =>
    intro v re se hv hA
    have hv : v = p := by omega
    subst hv
    refine ⟨re, se, hA, fun K N h => ?_⟩
    obtain ⟨N, rfl⟩ : ∃ a, N = a + 1 := ⟨N - 1, by omega⟩
    rw [loopN_s]; simp only [restore_Match_L4, Nat.lt_irrefl, decide_false, cond_false]
  | succ d ih =>
    intro v re se hv hA
    have hvp : v < p := by omega
    have hvm : v < m.length := by omega
    have hnI : nI (v + 1) = true := nI_of (by omega)
    by_cases c : ix m v < 0
    · have c1 : ix m v = -1 := by
        rcases hT.hm v hvp with e | ⟨k, k1, k2, _⟩
        · exact e
        · rw [k2] at c; omega
      have hu : untr se ≤ q := by rw [← hA.ls]; exact List.countP_le_length
      obtain ⟨se', re', e1, hrc, hrv⟩ := reachK (n := n) hn hq hr lp hC (c6 := 0) (c7 := p) (m5 := m) n re se v (by omega) hA.lr hA.ls hvp (hRd v hvp c1)
      obtain ⟨re2, se2, hA2, i1⟩ := ih (v + 1) re' se' (by omega) ⟨hrc.lr, hrc.ls, fun j hj h k hk hF => by
          cases e : ix re j
          · exact (hrc.nr j hj h e).2 k hk hF
          · exact hrc.ms k hk (hA.ar j hj e k hk hF), fun k hk h => by
          cases e : ix se k
          · exact (hrc.ns k hk h e).2
          · obtain ⟨j, j1, j2, j3⟩ := hA.as' k hk e
            exact ⟨j, j1, j2, hrc.mr j j1 j3⟩, fun i h1 h2 h3 => by
          by_cases e : i = v
          · subst e; exact hrv
          · exact hrc.mr i h2 (hA.un i (by omega) h2 h3)⟩
      refine ⟨re2, se2, hA2, fun K N h => ?_⟩
      obtain ⟨N, rfl⟩ : ∃ a, N = a + 1 := ⟨N - 1, by omega⟩
      rw [loopN_s]
      simp only [restore_Match_L4, hvp, hvm, decide_true, cond_true, withK_eq, chk_t, hnI, restore_Match_f1_2, e1, decide_eq_true c, Option.bind_some]
      exact i1 K N (by omega)
    · obtain ⟨re2, se2, hA2, i1⟩ := ih (v + 1) re se (by omega) ⟨hA.lr, hA.ls, hA.ar, hA.as', fun i h1 h2 h3 => by
        by_cases e : i = v
        · subst e; exact absurd (by rw [h3]; decide) c
        · exact hA.un i (by omega) h2 h3⟩
      refine ⟨re2, se2, hA2, fun K N h => ?_⟩
      obtain ⟨N, rfl⟩ : ∃ a, N = a + 1 := ⟨N - 1, by omega⟩
      rw [loopN_s]
      simp only [restore_Match_L4, hvp, hvm, decide_true, cond_true, withK_eq, chk_t, hnI, decide_eq_false c, cond_false]
      exact i1 K N (by omega)
end
def pick (t : List Bool) (b : Bool) (v : Nat) : List Int := ((List.range v).filter fun i => ix t i == b).map fun i => ((i : Nat) : Int)
theorem pick_step (t : List Bool) (b : Bool) (v : Nat) : pick t b (v + 1) = bif ix t v == b then pick t b v ++ [((v : Nat) : Int)] else pick t b v := by
  unfold pick
  rw [List.range_succ, List.filter_append, List.map_append]
  cases e : ix t v == b <;> simp [e]
theorem pick_len (t : List Bool) (b : Bool) (v : Nat) : (pick t b v).length ≤ v := by
  have := List.length_filter_le (fun i => ix t i == b) (List.range v)
  simpa [pick] using this
theorem pick_mem {t : List Bool} {b : Bool} {v : Nat} {x : Int} : x ∈ pick t b v ↔ ∃ i, i < v ∧ x = (i : Int) ∧ ix t i = b := by
  unfold pick
  rw [List.mem_map]
  constructor
  · rintro ⟨i, hi, rfl⟩
    rw [List.mem_filter, List.mem_range] at hi
    exact ⟨i, hi.1, rfl, by simpa using hi.2⟩
  · rintro ⟨i, hi, rfl, e⟩
    exact ⟨i, by rw [List.mem_filter, List.mem_range]; exact ⟨hi, by simpa using e⟩, rfl⟩
theorem pick_sorted (t : List Bool) (b : Bool) (v : Nat) : (pick t b v).Pairwise (· < ·) := by
  unfold pick
  rw [List.pairwise_map]
  refine List.Pairwise.imp (fun h => by omega) ((List.pairwise_lt_range (n := v)).filter _)
theorem left_loop {n v : Nat} {re : List Bool} (hv : v ≤ 43) (hl : re.length = v) (hn : 1000 < n) (K : List Int → MR) : loopN (restore_Match_L5 v re K) n (0, []) = K (pick re false v) := by
  refine loop_fold' (st := fun i => pick re false i) (len := v) (fun back i hi => ?_) (fun back => ?_) n (by omega) rfl
  · have hir : i < re.length := by omega
    have := pick_len re false i
    simp only [restore_Match_L5, hi, hir, decide_true, cond_true, withK_eq, chk_t]
    rw [chk_of (nI_of (by omega)), chk_of (nI_of (by omega)), chk_of (room_of (by simp; omega) (by simp; omega)), pick_step]
    cases ix re i <;> rfl
  · simp only [restore_Match_L5, Nat.lt_irrefl, decide_false, cond_false]
theorem seen_loop {n v : Nat} {se : List Bool} (hv : v ≤ 43) (hl : se.length = v) (hn : 1000 < n) (K : List Int → MR) : loopN (restore_Match_L6 v se K) n (0, []) = K (pick se true v) := by
  refine loop_fold' (st := fun i => pick se true i) (len := v) (fun back i hi => ?_) (fun back => ?_) n (by omega) rfl
  · have hir : i < se.length := by omega
    have := pick_len se true i
    simp only [restore_Match_L6, hi, hir, decide_true, cond_true, withK_eq, chk_t]
    rw [chk_of (nI_of (by omega)), chk_of (nI_of (by omega)), chk_of (room_of (by simp; omega) (by simp; omega)), pick_step]
    cases ix se i <;> rfl
  · simp only [restore_Match_L6, Nat.lt_irrefl, decide_false, cond_false]
end
section
set_option maxRecDepth 4000
open Go
section
variable {w : List WantedPart} {o : List OfferedPart} {m pl : List Int} {re se : List Bool}
theorem two_mat (hT : Two (fitF w o) w.length o.length m pl) : matR w o m = (0, ((cntM m : Nat) : Int)) := by
  have lm := hT.lm
  have hz : firstE (matE w o m) 0 m.length = 0 := by
    have : ∀ d v, (∀ j, v ≤ j → j < v + d → matE w o m j = 0) → firstE (matE w o m) v d = 0 := by
      intro d
      induction d with
      | zero => intro v _; rfl
      | succ d ih =>
        intro v h
        rw [firstE, h v (Nat.le_refl _) (by omega)]
        simp only [bne_self_eq_false, cond_false]
        exact ih (v + 1) fun j h1 h2 => h j (by omega) (by omega)
    refine this _ _ fun v _ hv => ?_
    unfold matE
    rcases hT.hm v (by omega) with e | ⟨k, k1, k2, k3, k4⟩
    · rw [e]; rfl
    · have c1 : (ix m v == (-1 : Int)) = false := by rw [k2, beq_eq_false_iff_ne]; omega
      have c2 : outI o.length (ix m v) = false := by
        unfold outI
        rw [k2, decide_eq_true (by omega), decide_eq_true (by omega)]; rfl
      have c3 : fitsB (ix w v) (ix o (ix m v).toNat) = true := by rw [k2]; exact k3
      have c4 : (m.take v).any (isI (ix m v)) = false := by
        cases e : (m.take v).any (isI (ix m v))
        · rfl
        · obtain ⟨j, hj, hx⟩ := List.mem_iff_getElem.1 (any_isI.1 e)
          simp only [List.length_take] at hj
          rw [List.getElem_take, ← ix_eq (by omega), k2] at hx
          rcases hT.hm j (by omega) with g | ⟨k', g1, g2, g3, g4⟩
          · rw [hx] at g; omega
          · have : k' = k := by omega
            subst this
            rw [k4] at g4; omega
      rw [c1, c2, c3, c4]; rfl
  unfold matR
  rw [hz, decide_eq_true lm]; rfl
theorem sorted_desc {l : List Int} (h : l.Pairwise (· < ·)) : (List.range' 1 (l.length - 1)).any (desc l) = false := by
  rw [List.any_eq_false]
  intro v hv
  rw [List.mem_range'_1] at hv
  unfold desc
  have := List.pairwise_iff_getElem.1 h (v - 1) v (by omega) (by omega) (by omega)
  rw [ix_eq (by omega : v < l.length), ix_eq (by omega : v - 1 < l.length)]
  simp only [decide_eq_true_eq]
  omega
theorem sorted_nodup {l : List Int} (h : l.Pairwise (· < ·)) : l.Nodup := h.imp fun h => by omega
def covA (re se : List Bool) (p q : Nat) : Arr2_ListInt := Arr2_ListInt.mk (pick re false p) (pick se true q)
theorem cover_cov (hA : Alr (fitF w o) w.length o.length w.length m pl re se) : covR w o (covA re se w.length o.length) = (0, (((pick re false w.length).length + (pick se true o.length).length : Nat) : Int)) := by
  have c1 : ∀ (t : List Bool) b v, (pick t b v).any (outI v) = false := fun t b v => by
    rw [List.any_eq_false]
    intro x hx
    obtain ⟨i, hi, rfl, _⟩ := pick_mem.1 hx
    unfold outI
    rw [decide_eq_true (by omega), decide_eq_true (by omega)]; simp
  have c2 : (List.range' 0 (w.length - 0)).any (fun i => (List.range' 0 (o.length - 0)).any (gap w o (covA re se w.length o.length) i)) = false := by
    rw [List.any_eq_false]
    intro i hi
    rw [List.mem_range'_1] at hi
    rw [Bool.not_eq_true, List.any_eq_false]
    intro k hk
    rw [List.mem_range'_1] at hk
    unfold gap covA
    cases hF : fitsB (ix w i) (ix o k)
    · simp
    · cases e : ix re i
      · have : (pick re false w.length).any (isI (i : Int)) = true := any_isI.2 (pick_mem.2 ⟨i, by omega, rfl, e⟩)
        simp [this]
      · have : (pick se true o.length).any (isI (k : Int)) = true := any_isI.2 (pick_mem.2 ⟨k, by omega, rfl, hA.ar i (by omega) e k (by omega) hF⟩)
        simp [this]
  unfold covR
  rw [c2]
  simp only [covA, c1, sorted_desc (pick_sorted re false w.length), sorted_desc (pick_sorted se true o.length), cond_false]
theorem cnt_len (m : List Int) : cntM m = ((List.range m.length).filter fun v => !(ix m v == (-1 : Int))).length := by
  have : ∀ k, k ≤ m.length → cntM (m.take k) = ((List.range k).filter fun v => !(ix m v == (-1 : Int))).length := by
    intro k
    induction k with
    | zero => intro _; rfl
    | succ k ih =>
      intro hk
      rw [cntM_take (by omega), ih (by omega), List.range_succ, List.filter_append, List.length_append]
      cases hb : ix m k == (-1 : Int) <;> simp [List.filter_cons, hb]
  have := this m.length (Nat.le_refl _)
  rwa [List.take_length] at this
theorem koenig (hT : Two (fitF w o) w.length o.length m pl) (hA : Alr (fitF w o) w.length o.length w.length m pl re se) : (pick re false w.length).length + (pick se true o.length).length = cntM m := by
  have lm := hT.lm
  have h1 : cntM m ≤ (pick re false w.length).length + (pick se true o.length).length := by
    have := weak (w := w) (o := o) (m := m) (c := covA re se w.length o.length) (by rw [two_mat hT]) (by rw [cover_cov hA])
    rw [two_mat hT, cover_cov hA] at this
    simp only at this
    omega
  have h2 : (pick re false w.length ++ (pick se true o.length).map fun k => ix pl k.toNat).length ≤ (((List.range m.length).filter fun v => !(ix m v == (-1 : Int))).map fun i => ((i : Nat) : Int)).length := by
    have own : ∀ x ∈ pick se true o.length, ∃ k j : Nat, x = (k : Int) ∧ k < o.length ∧ j < w.length ∧ ix pl x.toNat = (j : Int) ∧ ix m j = (k : Int) ∧ ix re j = true := by
      intro x hx
      obtain ⟨k, hk, rfl, e⟩ := pick_mem.1 hx
      obtain ⟨j, j1, j2, j3⟩ := hA.as' k hk e
      have e2 : ((k : Nat) : Int).toNat = k := by omega
      refine ⟨k, j, rfl, hk, j1, by rw [e2]; exact j2, ?_, j3⟩
      rcases hT.hp k hk with g | ⟨i, i1, i2, i3⟩
      · rw [j2] at g; omega
      · have : i = j := by omega
        subst this; exact i3
    refine nodup_len _ _ ?_ ?_
    · rw [List.nodup_append]
      refine ⟨sorted_nodup (pick_sorted _ _ _), nodup_map (fun a ha b hb hab h => ?_) (sorted_nodup (pick_sorted _ _ _)), fun a ha b hb => ?_⟩
      · obtain ⟨k, j, e1, _, _, e2, e3, _⟩ := own a ha
        obtain ⟨k', j', f1, _, _, f2, f3, _⟩ := own b hb
        have h' : ix pl a.toNat = ix pl b.toNat := h
        rw [e2, f2] at h'
        have : j = j' := by omega
        subst this
        omega
      · obtain ⟨i, hi, e1, e2⟩ := pick_mem.1 ha
        obtain ⟨x, hx, e3⟩ := List.mem_map.1 hb
        obtain ⟨k, j, f1, _, _, f2, f3, f4⟩ := own x hx
        rintro rfl
        have e3' : ix pl x.toNat = a := e3
        rw [f2, e1] at e3'
        have : j = i := by omega
        subst this
        rw [e2] at f4; cases f4
    · intro x hx
      rw [List.mem_append] at hx
      have fin : ∀ i : Nat, i < w.length → ix m i ≠ -1 → ((i : Nat) : Int) ∈ ((List.range m.length).filter fun v => !(ix m v == (-1 : Int))).map fun i => ((i : Nat) : Int) := fun i hi hne =>
        List.mem_map.2 ⟨i, by rw [List.mem_filter, List.mem_range]; exact ⟨by omega, by simpa using hne⟩, rfl⟩
      rcases hx with hx | hx
      · obtain ⟨i, hi, rfl, e⟩ := pick_mem.1 hx
        exact fin i hi fun c => by rw [hA.un i hi hi c] at e; cases e
      · obtain ⟨y, hy, rfl⟩ := List.mem_map.1 hx
        obtain ⟨k, j, f1, _, f0, f2, f3, f4⟩ := own y hy
        show ix pl y.toNat ∈ _
        rw [f2]
        exact fin j f0 (by rw [f3]; omega)
  rw [List.length_append, List.length_map, List.length_map, ← cnt_len] at h2
  omega
end
theorem repeat_eq : ∀ p : Nat, p ≤ 8 → slices_Repeat_int 2000 [-1] ((p : Nat) : Int) = some (List.replicate p (-1))
  | 0, _ => by kernel_rfl
  | 1, _ => by kernel_rfl
  | 2, _ => by kernel_rfl
  | 3, _ => by kernel_rfl
  | 4, _ => by kernel_rfl
  | 5, _ => by kernel_rfl
  | 6, _ => by kernel_rfl
  | 7, _ => by kernel_rfl
  | 8, _ => by kernel_rfl
  | p + 9, h => by omega
theorem replen_eq : ∀ p : Nat, p ≤ 8 → (List.replicate ((IntKind.u64.wrap ((IntKind.u64.wrap ((([(-1)] : List Int).length : Nat) : Int)) * (IntKind.u64.wrap ((p : Nat) : Int)))).toNat) (0 : Int)).length = p
  | 0, _ => by kernel_rfl
  | 1, _ => by kernel_rfl
  | 2, _ => by kernel_rfl
  | 3, _ => by kernel_rfl
  | 4, _ => by kernel_rfl
  | 5, _ => by kernel_rfl
  | 6, _ => by kernel_rfl
  | 7, _ => by kernel_rfl
  | 8, _ => by kernel_rfl
  | p + 9, h => by omega
theorem Has2_eq {n : Nat} (l : List Int) (v : Nat) (s : Int) (hv : v ≤ l.length) (hl : l.length ≤ 900) (hn : 1000 < n) : agraffebase_Has_2 n l 0 v s = some ((l.take v).any (isI s)) := by
  have hlv : (l.take v).length = v := by simp; omega
  rw [agraffebase_Has_2, withK_eq, loop_any' (l := l.take v) (p := isI s) (fun back i hi => ?_) (fun back => ?_) n (by omega)]
  · cases (l.take v).any (isI s) <;> rfl
  · have hi' : i < v := by omega
    have hil : i < l.length := by omega
    rw [agraffebase_Has_2_L1]
    simp only [hi', hil, Nat.zero_add, decide_true, cond_true, chk_t, nI_of (by omega : i + 1 ≤ 9223372036854775807), ix_take hi' hil]
    rfl
  · rw [agraffebase_Has_2_L1, hlv]; simp
theorem match_ref2 {n : Nat} {w : List WantedPart} {o : List OfferedPart} {m : List Int} (hw : OkW w) (ho : OkO o) (hl : m.length = w.length) (hn : 1000 < n) : agrafferef08_CheckMatch_2 n w o m 0 w.length = some (matR w o m) := by
  have hlw := hw.len
  have hlo := ho.len
  rw [agrafferef08_CheckMatch_2, matR]
  simp only [hl, decide_true, Bool.not_true, cond_false, withK_eq]
  have e0 : ((0 : Nat), 0) = (fun v => (cntM (m.take v), v)) 0 := by simp [cntM]
  rw [e0, loop_first (st := fun v => (cntM (m.take v), v)) (E := matE w o m) (err := fun e => some (e, 0)) (k := some (0, ((cntM m : Nat) : Int))) (len := m.length) (fun back v hv _ => ?_) (fun back _ => ?_) n 0 (by omega) (by omega) (fun j h => by omega), Nat.sub_zero, hl]
  · cases firstE (matE w o m) 0 w.length != 0 <;> rfl
  · rw [agrafferef08_CheckMatch_2_L1]
    have hv2 : v < w.length := by omega
    have hc := cntM_le (m.take v)
    have hc2 : (m.take v).length ≤ 43 := by simp; omega
    have hr := hw.rng _ (ix_mem hv2)
    have hle : v ≤ m.length := by omega
    have hle2 : v ≤ w.length := by omega
    simp only [hv, hv2, hle2, Nat.zero_add, decide_true, cond_true, withK_eq, agraffebase_Within, Option.bind_some, chk_t, nI_of (by omega : v + 1 ≤ 9223372036854775807), nI_of (by omega : cntM (m.take v) + 1 ≤ 9223372036854775807), fits_ref (n := n) (ix w v) (ix o (ix m v).toNat) hr hn, Has2_eq (n := n) m v (ix m v) hle (by omega) hn, cntM_take hv]
    rw [chk_of (inI_of (by omega) (by omega))]
    have e : (!((decide (0 ≤ ix m v)) && (decide (ix m v ≤ (((o.length : Nat) : Int) - 1))))) = outI o.length (ix m v) := rfl
    rw [e]
    unfold matE
    cases ix m v == (-1 : Int)
    · cases hb : outI o.length (ix m v)
      · obtain ⟨b1, b2⟩ := outI_ok hb
        simp only [cond_false, inB_of b1 b2, chk_t, b2, decide_true]
        cases fitsB (ix w v) (ix o (ix m v).toNat) <;> cases (m.take v).any (isI (ix m v)) <;> rfl
      · rfl
    · rfl
  · have e : List.take w.length m = m := by rw [← hl, List.take_length]
    rw [agrafferef08_CheckMatch_2_L1, hl]
    simp [e]
theorem both_len {w : List WantedPart} {o : List OfferedPart} (h : bothC w o = 0) : w.length ≤ 40 ∧ o.length ≤ 40 := by
  unfold bothC at h
  by_cases e : wantC w = 0
  · rw [e] at h
    simp only [bne_self_eq_false, cond_false] at h
    constructor
    · by_cases c : 40 < w.length
      · unfold wantC at e; rw [decide_eq_true c] at e; cases e
      · omega
    · by_cases c : 40 < o.length
      · unfold offC at h; rw [decide_eq_true c] at h; cases h
      · omega
  · rw [bne_t e] at h; exact absurd h e
theorem match_good {w : List WantedPart} {o : List OfferedPart} (hw : OkW w) (ho : OkO o) (hwl : w.length ≤ 8) (hol : o.length ≤ 8) (hb : bothC w o = 0) : ∃ (m : List Int) (c0 c1 : List Int) (c : Nat), restore_Match 2000 w o = some (.inr (w.length, c0, c1, m)) ∧ m.length = w.length ∧ c0.length ≤ 8 ∧ c1.length ≤ 8 ∧
    matR w o m = (0, ((c : Nat) : Int)) ∧ covR w o (Arr2_ListInt.mk c0 c1) = (0, ((c : Nat) : Int)) ∧ agrafferef08_Most 2000 w o = some ((c : Nat) : Int) := by
  have hn : 1000 < 2000 := by omega
  have hr := rows_of w o
  obtain ⟨K2, hK2, hmost⟩ := most_eq (n := 2000) (o := o) hw hn
  obtain ⟨m, pl, hM, r1, r2⟩ := places_loop (n := 2000) hw ho hn hr w.length 0 (List.replicate w.length (-1)) (List.replicate o.length (-1)) (by omega) (Mid.start _ _ _)
  have hcs : cntM (List.replicate w.length (-1)) = 0 := by simp [cntM, List.countP_eq_zero]
  rw [hcs] at r2
  have hT := hM.two
  have lm := hT.lm
  obtain ⟨R, T, hC, hRd⟩ := hM.dead
  obtain ⟨re, se, hA, r3⟩ := reach_all (n := 2000) hn (by omega) (by omega) hr hT hC (fun i hi h => hRd i hi hi h) w.length 0 (List.replicate w.length false) (List.replicate o.length false) (by omega)
    ⟨by simp, by simp, fun j hj h => (by rw [ix_rep hj] at h; cases h), fun k hk h => (by rw [ix_rep hk] at h; cases h), fun i hi => by omega⟩
  refine ⟨m, pick re false w.length, pick se true o.length, cntM m, ?_, lm, Nat.le_trans (pick_len _ _ _) hwl, Nat.le_trans (pick_len _ _ _) hol, two_mat hT, ?_, ?_⟩
  · rw [restore_Match, both_res hw ho hn, hb]
    simp only [Option.bind_some, bne_self_eq_false, cond_false, repeat_eq w.length hwl, repeat_eq o.length hol, replen_eq w.length hwl, replen_eq o.length hol, withK_eq, List.length_replicate]
    rw [rows_loop hw ho hn]
    rw [r1 _ 2000 (by omega)]
    rw [chk_of (by simp [mkroom]; omega), chk_of (by simp [mkroom]; omega), r3 _ 2000 (by omega)]
    rw [left_loop (by omega) hA.lr hn, seen_loop (by omega) hA.ls hn]
  · have := cover_cov hA
    rw [koenig hT hA] at this
    exact this
  · rw [hmost, r2 K2 2000 (by omega), hK2]
theorem match_bad {n : Nat} {w : List WantedPart} {o : List OfferedPart} (hw : OkW w) (ho : OkO o) (hb : bothC w o ≠ 0) (hn : 1000 < n) : restore_Match n w o = some (.inl (bothC w o)) := by
  rw [restore_Match, both_res hw ho hn, Option.bind_some, bne_t hb]; rfl
theorem OkW.one {w : List WantedPart} (h : OkW w) (hl : 0 < w.length) : OkW [ix w 0] := ⟨by simp, fun x hx => (by
  rw [List.mem_singleton] at hx; subst hx; exact h.name _ (ix_mem hl)), fun x hx => (by
  rw [List.mem_singleton] at hx; subst hx; exact h.rng _ (ix_mem hl))⟩
theorem OkO.one {w : List OfferedPart} (h : OkO w) (hl : 0 < w.length) : OkO [ix w 0] := ⟨by simp, fun x hx => (by
  rw [List.mem_singleton] at hx; subst hx; exact h.name _ (ix_mem hl)), fun x hx => (by
  rw [List.mem_singleton] at hx; subst hx; exact h.siz _ (ix_mem hl))⟩
theorem take_one {α : Type} [Inhabited α] {l : List α} (h : 0 < l.length) : l.take 1 = [ix l 0] := by
  cases l with
  | nil => simp at h
  | cons x l => rfl
theorem fits_one {n : Nat} {x : WantedPart} {y : OfferedPart} (hx : OkW [x]) (hy : OkO [y]) (hn : 1000 < n) : restore_Fits n x y = some (bothC [x] [y], bif bothC [x] [y] != 0 then false else fitsB x y) := by
  have hr := hx.rng x (by simp)
  rw [restore_Fits, both_res hx hy hn]
  simp only [Option.bind_some, fits_res x y hr hn]
  by_cases e : bothC [x] [y] = 0
  · simp [e]
  · rw [bne_t e]; rfl
theorem pure_RestoreMatches (a0 : List WantedPart) (a1 : List OfferedPart) : agraffelaw08_RestoreMatches 2000 a0 a1 = some true := by
  have hn : 1000 < 2000 := by omega
  rw [agraffelaw08_RestoreMatches]
  simp only [agraffelaw08_awake, Option.bind_some, Bool.not_true, cond_false, places_eq (n := 2000) a0 a1 hn]
  cases h0 : placesB a0 a1
  · simp
  obtain ⟨hw, ho⟩ := places_ok h0
  have hlw := hw.len
  have hlo := ho.len
  simp only [Bool.not_true, cond_false, withK_eq, wanted_copy hw hn, offered_copy ho hn, Option.bind_some, both_ref hw ho hn]
  have first : ∀ K : Option Bool, K = some true → (bif (decide (0 < a0.length)) && (decide (0 < a1.length)) then
        chk (decide (0 < a0.length)) <|
        chk (decide (0 < a1.length)) <|
        (restore_Fits 2000 (ix a0 0) (ix a1 0)).bind fun y5 =>
        chk (decide (1 ≤ a0.length)) <|
        chk (decide (1 ≤ a1.length)) <|
        (agrafferef08_CheckBoth 2000 (List.take 1 a0) (List.take 1 a1)).bind fun y6 =>
        chk (!((!((y5.1 != y6) || ((y6 != (0 : Int)) && y5.2))) && (y6 == (0 : Int))) || decide (0 < a0.length)) <|
        chk (!((!((y5.1 != y6) || ((y6 != (0 : Int)) && y5.2))) && (y6 == (0 : Int))) || decide (0 < a0.length)) <|
        chk (!((!((y5.1 != y6) || ((y6 != (0 : Int)) && y5.2))) && (y6 == (0 : Int))) || decide (0 < a1.length)) <|
        chk (!((!((y5.1 != y6) || ((y6 != (0 : Int)) && y5.2))) && (y6 == (0 : Int))) || decide (0 < a1.length)) <|
        (gcall ((!((y5.1 != y6) || ((y6 != (0 : Int)) && y5.2))) && (y6 == (0 : Int))) (agrafferef08_Fits 2000 (ix a0 0) (ix a1 0))).bind fun y7 =>
        bif ((y5.1 != y6) || ((y6 != (0 : Int)) && y5.2)) || ((y6 == (0 : Int)) && (!(y5.2 == y7))) then
          some false
        else
          K
      else
        K) = some true := by
    rintro K rfl
    by_cases g0 : 0 < a0.length
    · by_cases g1 : 0 < a1.length
      · have hw1 := hw.one g0
        have ho1 := ho.one g1
        have hr := hw.rng _ (ix_mem g0)
        have k0 : 1 ≤ a0.length := g0
        have k1 : 1 ≤ a1.length := g1
        simp only [g0, g1, k0, k1, decide_true, Bool.and_self, cond_true, chk_t, Bool.or_true, fits_one hw1 ho1 hn, Option.bind_some, take_one g0, take_one g1, both_ref hw1 ho1 hn, fits_ref (ix a0 0) (ix a1 0) hr hn, gcall_some_]
        by_cases e : bothC [ix a0 0] [ix a1 0] = 0
        · simp [e]
        · have e' : (bothC [ix a0 0] [ix a1 0] == (0 : Int)) = false := by rw [beq_eq_false_iff_ne]; exact e
          simp [bne_t e, e']
      · simp [g1]
    · simp [g0]
  refine first _ ?_
  by_cases hb : bothC a0 a1 = 0
  · obtain ⟨b1, b2⟩ := both_len hb
    have hl8 : a0.length ≤ 8 ∧ a1.length ≤ 8 := by
      unfold placesB lens at h0
      simp only [Bool.and_eq_true, Bool.not_eq_true', Bool.or_eq_false_iff, Bool.and_eq_false_iff, decide_eq_false_iff_not] at h0
      omega
    obtain ⟨m, c0, c1, c, e1, lm, l0, l1, e2, e3, e4⟩ := match_good hw ho hl8.1 hl8.2 hb
    have ht : List.take a0.length (List.drop 0 m) = m := by rw [List.drop_zero, ← lm, List.take_length]
    rw [e1]
    simp only [Option.bind_some, hb, bne_self_eq_false, cond_false, agraffebase_CopyInts_3, agraffebase_CopyInts_2, ht, lm, Nat.zero_add, Nat.le_refl, decide_true, chk_t, room_of (b := 8) (n := a0.length) (by omega) (by omega), room_of (b := 8) (n := c0.length) (by omega) (by omega), room_of (b := 8) (n := c1.length) (by omega) (by omega),
      match_res (m := m) hw ho hn, cover_res (c := Arr2_ListInt.mk c0 c1) hw ho (by show c0.length ≤ 50; omega) (by show c1.length ≤ 50; omega) hn, match_ref2 hw ho lm hn, cover_ref (c := Arr2_ListInt.mk c0 c1) hw ho (by show c0.length ≤ 50; omega) (by show c1.length ≤ 50; omega) hn, e2, e3, e4]
    simp
  · rw [match_bad hw ho hb hn]
    simp [bne_t hb, nI]
end
end Go.Proofs.YtifabpmjiphhdaaGreat.As
