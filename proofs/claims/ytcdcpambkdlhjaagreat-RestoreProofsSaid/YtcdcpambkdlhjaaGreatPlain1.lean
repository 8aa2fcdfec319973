/- What the functions compute, on plain data, and what follows from it, part 1: no condition. -/
import Derived.Test.YtcdcpambkdlhjaaGreatGround2
namespace Go.Proofs.YtcdcpambkdlhjaaGreat.As
open Go
section
set_option maxRecDepth 4000
open Go
structure PartCount where
  Part : Str
  Count : Int
  deriving Inhabited, DecidableEq
structure Task where
  Name : Str
  Cents : Int
  Hours : Int
  Needs : List Str
  OneOf : List (List Str)
  Parts : List PartCount
  deriving Inhabited, DecidableEq
structure Range where
  Lo : Int
  Hi : Int
  deriving Inhabited, DecidableEq
def eRange (x : Range) : V := .agg [vi x.Lo, vi x.Hi]
theorem eRange_frzE (x : Range) : frzE (eRange x) = true := rfl
structure WantedPart where
  Name : Str
  Ranges : List Range
  deriving Inhabited, DecidableEq
def eWantedPart (x : WantedPart) : V := .agg [vt x.Name, eS 2 eRange x.Ranges]
theorem eWantedPart_frz (x : WantedPart) : (eWantedPart x).frz = true := rfl
theorem eWantedPart_frzE (x : WantedPart) : frzE (eWantedPart x) = true := rfl
structure OfferedPart where
  Name : Str
  Sizes : List Int
  deriving Inhabited, DecidableEq
def eOfferedPart (x : OfferedPart) : V := .agg [vt x.Name, eS 1 vi x.Sizes]
theorem eOfferedPart_frz (x : OfferedPart) : (eOfferedPart x).frz = true := rfl
theorem eOfferedPart_frzE (x : OfferedPart) : frzE (eOfferedPart x) = true := rfl
structure Arr2_ListInt where
  a0 : List Int
  a1 : List Int
  deriving Inhabited, DecidableEq
def eArr2_ListInt (x : Arr2_ListInt) : V := .agg [eS 1 vi x.a0, eS 1 vi x.a1]
structure Proof where
  Match : List Int
  Cover : Arr2_ListInt
  deriving Inhabited, DecidableEq
def eProof (x : Proof) : V := .agg [eS 1 vi x.Match, eS 1 vi x.Cover.a0, eS 1 vi x.Cover.a1]
def agraffelaw08_awake (n : Nat) : Option Bool := some true
def restore_isName_L1 (a0 : Str) (k1 : (Unit → Option Bool)) (back : Nat → Option Bool) : Nat → Option Bool
  | v1 =>
  bif decide (v1 < a0.length) then
    bif (!(((decide ((97 : Int) ≤ (((ix a0 v1).toNat : Nat) : Int))) && (decide ((((ix a0 v1).toNat : Nat) : Int) ≤ (122 : Int)))) || ((decide ((65 : Int) ≤ (((ix a0 v1).toNat : Nat) : Int))) && (decide ((((ix a0 v1).toNat : Nat) : Int) ≤ (90 : Int)))))) && ((decide (v1 = 0)) || (((((ix a0 v1).toNat : Nat) : Int) != (45 : Int)) && ((decide ((((ix a0 v1).toNat : Nat) : Int) < (48 : Int))) || (decide ((57 : Int) < (((ix a0 v1).toNat : Nat) : Int)))))) then
      some false
    else
      chk (nI (v1 + 1)) <|
      back (v1 + 1)
  else
    k1 ()
def restore_isName (n : Nat) (a0 : Str) : Option Bool :=
  withK (fun (_ : Unit) =>
      some ((!(a0 == ([] : Str))) && (decide (a0.length ≤ 12)))) fun k1 =>
  loopN (restore_isName_L1 a0 k1) n 0
def restore_within (n : Nat) (a0 : Int) (a1 : Int) (a2 : Int) : Option Unit :=
  some ()
def agraffebase_isLetter (n : Nat) (a0 : Int) : Option Unit :=
  some ()
def agraffebase_isDigit (n : Nat) (a0 : Int) : Option Unit :=
  some ()
def agraffebase_IsName_L1 (n : Nat) (a0 : Str) (k1 : (Unit → Option Bool)) (back : Nat → Option Bool) : Nat → Option Bool
  | v4 =>
  bif decide (v4 < a0.length) then
    (agraffebase_isLetter n (((List.getD a0 v4 0).toNat : Nat) : Int)).bind fun y5 =>
    (gcall (!(((decide ((97 : Int) ≤ (((List.getD a0 v4 0).toNat : Nat) : Int))) && (decide ((((List.getD a0 v4 0).toNat : Nat) : Int) ≤ (122 : Int)))) || ((decide ((65 : Int) ≤ (((List.getD a0 v4 0).toNat : Nat) : Int))) && (decide ((((List.getD a0 v4 0).toNat : Nat) : Int) ≤ (90 : Int)))))) (agraffebase_isDigit n (((List.getD a0 v4 0).toNat : Nat) : Int))).bind fun y6 =>
    bif ((!(((decide ((97 : Int) ≤ (((List.getD a0 v4 0).toNat : Nat) : Int))) && (decide ((((List.getD a0 v4 0).toNat : Nat) : Int) ≤ (122 : Int)))) || ((decide ((65 : Int) ≤ (((List.getD a0 v4 0).toNat : Nat) : Int))) && (decide ((((List.getD a0 v4 0).toNat : Nat) : Int) ≤ (90 : Int)))))) && (!((decide ((48 : Int) ≤ (((List.getD a0 v4 0).toNat : Nat) : Int))) && (decide ((((List.getD a0 v4 0).toNat : Nat) : Int) ≤ (57 : Int)))))) && ((((List.getD a0 v4 0).toNat : Nat) : Int) != (45 : Int)) then
      some false
    else
      chk (nI (v4 + 1)) <|
      back (v4 + 1)
  else
    k1 ()
def agraffebase_IsName (n : Nat) (a0 : Str) : Option Bool :=
  chk (!(!((decide (a0.length = 0)) || (decide (12 < a0.length)))) || decide (0 < a0.length)) <|
  (gcall (!((decide (a0.length = 0)) || (decide (12 < a0.length)))) (agraffebase_isLetter n (((List.getD a0 0 0).toNat : Nat) : Int))).bind fun y1 =>
  bif ((decide (a0.length = 0)) || (decide (12 < a0.length))) || (!(((decide ((97 : Int) ≤ (((List.getD a0 0 0).toNat : Nat) : Int))) && (decide ((((List.getD a0 0 0).toNat : Nat) : Int) ≤ (122 : Int)))) || ((decide ((65 : Int) ≤ (((List.getD a0 0 0).toNat : Nat) : Int))) && (decide ((((List.getD a0 0 0).toNat : Nat) : Int) ≤ (90 : Int)))))) then
    some false
  else
    withK (fun (_ : Unit) =>
        some true) fun k1 =>
    loopN (agraffebase_IsName_L1 n a0 k1) n 0
def agraffebase_Within (n : Nat) (a0 : Int) (a1 : Int) (a2 : Int) : Option Unit :=
  some ()
def agraffebase_HasText_2_L1 (a0 : List Str) (a1 : Str) (k1 : (Unit → Option Bool)) (back : Nat → Option Bool) : Nat → Option Bool
  | v1 =>
  bif decide (v1 < a0.length) then
    bif ((ix a0 v1) == a1) then
      some true
    else
      chk (nI (v1 + 1)) <|
      back (v1 + 1)
  else
    k1 ()
def agraffebase_HasText_2 (n : Nat) (a0 : List Str) (a1 : Str) : Option Bool :=
  withK (fun (_ : Unit) =>
      some false) fun k1 =>
  loopN (agraffebase_HasText_2_L1 a0 a1 k1) n 0
def agraffelaw08_places_L2 (a1 : List OfferedPart) (k2 : (Unit → Option Bool)) (back : Nat → Option Bool) : Nat → Option Bool
  | v2 =>
  bif decide (v2 < a1.length) then
    bif (decide (20 < (((ix a1 v2).Name).length))) || (decide (8 < (((ix a1 v2).Sizes).length))) then
      some false
    else
      chk (nI (v2 + 1)) <|
      back (v2 + 1)
  else
    k2 ()
def agraffelaw08_places_L1 (a0 : List WantedPart) (k1 : (Unit → Option Bool)) (back : Nat → Option Bool) : Nat → Option Bool
  | v1 =>
  bif decide (v1 < a0.length) then
    bif (decide (20 < (((ix a0 v1).Name).length))) || (decide (8 < (((ix a0 v1).Ranges).length))) then
      some false
    else
      chk (nI (v1 + 1)) <|
      back (v1 + 1)
  else
    k1 ()
def agraffelaw08_places (n : Nat) (a0 : List WantedPart) (a1 : List OfferedPart) : Option Bool :=
  bif ((((decide (8 < a0.length)) && (decide (a0.length ≤ 40))) || (decide (43 < a0.length))) || ((decide (8 < a1.length)) && (decide (a1.length ≤ 40)))) || (decide (43 < a1.length)) then
    some false
  else
    withK (fun (_ : Unit) =>
        withK (fun (_ : Unit) =>
            some true) fun k2 =>
        loopN (agraffelaw08_places_L2 a1 k2) n 0) fun k1 =>
    loopN (agraffelaw08_places_L1 a0 k1) n 0
def agraffelaw08_wanted_L1 (k1 : ((List WantedPart) → Option (List WantedPart))) (back : Nat × (List WantedPart) → Option (List WantedPart)) : Nat × (List WantedPart) → Option (List WantedPart)
  | (v1, v2) =>
  bif decide (v1 < v2.length) then
    chk (room 16 ((ix v2 v1).Ranges).length) <|
    chk (nI (v1 + 1)) <|
    back (v1 + 1, (List.set v2 v1 (ix v2 v1)))
  else
    k1 v2
def agraffelaw08_wanted (n : Nat) (a0 : List WantedPart) : Option (List WantedPart) :=
  chk (room 40 a0.length) <|
  withK (fun (v3 : (List WantedPart)) =>
      some v3) fun k1 =>
  loopN (agraffelaw08_wanted_L1 k1) n (0, a0)
def agraffebase_CopyInts (n : Nat) (a0 : List Int) : Option Unit :=
  chk (room 8 a0.length) <|
  some ()
def agraffelaw08_offered_L1 (n : Nat) (k1 : ((List OfferedPart) → Option (List OfferedPart))) (back : Nat × (List OfferedPart) → Option (List OfferedPart)) : Nat × (List OfferedPart) → Option (List OfferedPart)
  | (v2, v3) =>
  bif decide (v2 < v3.length) then
    (agraffebase_CopyInts n ((ix v3 v2).Sizes)).bind fun y4 =>
    chk (nI (v2 + 1)) <|
    back (v2 + 1, (List.set v3 v2 (ix v3 v2)))
  else
    k1 v3
def agraffelaw08_offered (n : Nat) (a0 : List OfferedPart) : Option (List OfferedPart) :=
  chk (room 40 a0.length) <|
  withK (fun (v5 : (List OfferedPart)) =>
      some v5) fun k1 =>
  loopN (agraffelaw08_offered_L1 n k1) n (0, a0)
def agraffebase_CopyInts_2 (n : Nat) (a0 : List Int) : Option Unit :=
  chk (room 8 a0.length) <|
  some ()
def restore_checkBoth_f1 (n : Nat) (a0 : WantedPart) : Option Unit :=
  some ()
def restore_checkRanges_f1 (n : Nat) (a0 : Range) : Option Unit :=
  some ()
def slices_IndexFunc_Range_L1 (n : Nat) (a0 : List Range) (k1 : (Unit → Option Int)) (back : Nat → Option Int) : Nat → Option Int
  | v2 =>
  bif decide (v2 < a0.length) then
    (restore_checkRanges_f1 n (ix a0 v2)).bind fun y3 =>
    bif ((decide ((ix a0 v2).Lo < (0 : Int))) || (decide ((ix a0 v2).Hi < (ix a0 v2).Lo))) || (decide ((1000000 : Int) < (ix a0 v2).Hi)) then
      some ((v2 : Nat) : Int)
    else
      chk (nI (v2 + 1)) <|
      back (v2 + 1)
  else
    k1 ()
def slices_IndexFunc_Range (n : Nat) (a0 : List Range) : Option Int :=
  withK (fun (_ : Unit) =>
      some (-1)) fun k1 =>
  loopN (slices_IndexFunc_Range_L1 n a0 k1) n 0
def slices_ContainsFunc_Range (n : Nat) (a0 : List Range) : Option Bool :=
  (slices_IndexFunc_Range n a0).bind fun y1 =>
  some (decide ((0 : Int) ≤ y1))
def restore_checkRanges (n : Nat) (a0 : WantedPart) : Option Int :=
  (restore_within n ((a0.Ranges.length : Nat) : Int) 1 6).bind fun y1 =>
  bif !((decide (1 ≤ ((a0.Ranges.length : Nat) : Int))) && (decide (((a0.Ranges.length : Nat) : Int) ≤ 6))) then
    some 10
  else
    (slices_ContainsFunc_Range n a0.Ranges).bind fun y2 =>
    bif y2 then
      some 2
    else
      some 0
def restore_named_WantedPart_L1 (n : Nat) (a0 : List WantedPart) (k1 : (Unit → Option Int)) (back : Nat × (List (Str × Bool)) → Option Int) : Nat × (List (Str × Bool)) → Option Int
  | (v4, v5) =>
  bif decide (v4 < a0.length) then
    (restore_checkBoth_f1 n (ix a0 v4)).bind fun y6 =>
    (restore_isName n ((ix a0 v4).Name)).bind fun y7 =>
    bif !y7 then
      some 4
    else
      bif (Option.getD (List.lookup ((ix a0 v4).Name) v5) false) then
        some 5
      else
        (restore_checkRanges n (ix a0 v4)).bind fun y8 =>
        bif (y8 != (0 : Int)) then
          some y8
        else
          chk (nI (v4 + 1)) <|
          back (v4 + 1, (mPut ((ix a0 v4).Name) true v5))
  else
    k1 ()
def restore_named_WantedPart (n : Nat) (a0 : List WantedPart) (a1 : Int) : Option Int :=
  bif decide (a1 < ((a0.length : Nat) : Int)) then
    some 8
  else
    withK (fun (_ : Unit) =>
        some 0) fun k1 =>
    loopN (restore_named_WantedPart_L1 n a0 k1) n (0, ([] : List (Str × Bool)))
def restore_checkBoth_f2 (n : Nat) (a0 : OfferedPart) : Option Unit :=
  some ()
def restore_checkSizes_f1 (n : Nat) (a0 : Int) : Option Unit :=
  (restore_within n a0 0 1000000).bind fun y1 =>
  some ()
def slices_IndexFunc_int_L1 (n : Nat) (a0 : List Int) (k1 : (Unit → Option Int)) (back : Nat → Option Int) : Nat → Option Int
  | v2 =>
  bif decide (v2 < a0.length) then
    (restore_checkSizes_f1 n (ix a0 v2)).bind fun y3 =>
    bif !((decide (0 ≤ (ix a0 v2))) && (decide ((ix a0 v2) ≤ 1000000))) then
      some ((v2 : Nat) : Int)
    else
      chk (nI (v2 + 1)) <|
      back (v2 + 1)
  else
    k1 ()
def slices_IndexFunc_int (n : Nat) (a0 : List Int) : Option Int :=
  withK (fun (_ : Unit) =>
      some (-1)) fun k1 =>
  loopN (slices_IndexFunc_int_L1 n a0 k1) n 0
def slices_ContainsFunc_int (n : Nat) (a0 : List Int) : Option Bool :=
  (slices_IndexFunc_int n a0).bind fun y1 =>
  some (decide ((0 : Int) ≤ y1))
def restore_checkSizes (n : Nat) (a0 : OfferedPart) : Option Int :=
  (restore_within n ((a0.Sizes.length : Nat) : Int) 1 6).bind fun y1 =>
  bif !((decide (1 ≤ ((a0.Sizes.length : Nat) : Int))) && (decide (((a0.Sizes.length : Nat) : Int) ≤ 6))) then
    some 10
  else
    (slices_ContainsFunc_int n a0.Sizes).bind fun y2 =>
    bif y2 then
      some 2
    else
      some 0
def restore_named_OfferedPart_L1 (n : Nat) (a0 : List OfferedPart) (k1 : (Unit → Option Int)) (back : Nat × (List (Str × Bool)) → Option Int) : Nat × (List (Str × Bool)) → Option Int
  | (v4, v5) =>
  bif decide (v4 < a0.length) then
    (restore_checkBoth_f2 n (ix a0 v4)).bind fun y6 =>
    (restore_isName n ((ix a0 v4).Name)).bind fun y7 =>
    bif !y7 then
      some 4
    else
      bif (Option.getD (List.lookup ((ix a0 v4).Name) v5) false) then
        some 5
      else
        (restore_checkSizes n (ix a0 v4)).bind fun y8 =>
        bif (y8 != (0 : Int)) then
          some y8
        else
          chk (nI (v4 + 1)) <|
          back (v4 + 1, (mPut ((ix a0 v4).Name) true v5))
  else
    k1 ()
def restore_named_OfferedPart (n : Nat) (a0 : List OfferedPart) (a1 : Int) : Option Int :=
  bif decide (a1 < ((a0.length : Nat) : Int)) then
    some 8
  else
    withK (fun (_ : Unit) =>
        some 0) fun k1 =>
    loopN (restore_named_OfferedPart_L1 n a0 k1) n (0, ([] : List (Str × Bool)))
def restore_checkBoth (n : Nat) (a0 : List WantedPart) (a1 : List OfferedPart) : Option Int :=
  (restore_named_WantedPart n a0 40).bind fun y1 =>
  bif (y1 != (0 : Int)) then
    some y1
  else
    (restore_named_OfferedPart n a1 40).bind fun y2 =>
    some y2
def restore_fits_L1 (n : Nat) (a0 : WantedPart) (a1 : OfferedPart) (k1 : (Unit → Option Bool)) (back : Nat → Option Bool) : Nat → Option Bool
  | v2 =>
  bif decide (v2 < a0.Ranges.length) then
    chk (decide (v2 < a1.Sizes.length)) <|
    (restore_within n (ix a1.Sizes v2) ((ix a0.Ranges v2).Lo) ((ix a0.Ranges v2).Hi)).bind fun y3 =>
    bif !((decide (((ix a0.Ranges v2).Lo) ≤ (ix a1.Sizes v2))) && (decide ((ix a1.Sizes v2) ≤ ((ix a0.Ranges v2).Hi)))) then
      some false
    else
      chk (nI (v2 + 1)) <|
      back (v2 + 1)
  else
    k1 ()
def restore_fits (n : Nat) (a0 : WantedPart) (a1 : OfferedPart) : Option Bool :=
  bif !decide (a0.Ranges.length = a1.Sizes.length) then
    some false
  else
    withK (fun (_ : Unit) =>
        some true) fun k1 =>
    loopN (restore_fits_L1 n a0 a1 k1) n 0
def slices_Index_int_L1 (a0 : List Int) (a1 : Int) (k1 : (Unit → Option Int)) (back : Nat → Option Int) : Nat → Option Int
  | v1 =>
  bif decide (v1 < a0.length) then
    bif (a1 == (ix a0 v1)) then
      some ((v1 : Nat) : Int)
    else
      chk (nI (v1 + 1)) <|
      back (v1 + 1)
  else
    k1 ()
def slices_Index_int (n : Nat) (a0 : List Int) (a1 : Int) : Option Int :=
  withK (fun (_ : Unit) =>
      some (-1)) fun k1 =>
  loopN (slices_Index_int_L1 a0 a1 k1) n 0
def slices_Contains_int (n : Nat) (a0 : List Int) (a1 : Int) : Option Bool :=
  (slices_Index_int n a0 a1).bind fun y1 =>
  some (decide ((0 : Int) ≤ y1))
def restore_CheckMatch_L1 (n : Nat) (a0 : List WantedPart) (a1 : List OfferedPart) (a2 : List Int) (k2 : (Nat → Option (Int × Int))) (back : Nat × Nat → Option (Int × Int)) : Nat × Nat → Option (Int × Int)
  | (v6, v7) =>
  bif decide (v7 < a2.length) then
    withK (fun (v11 : Nat) =>
        chk (nI (v7 + 1)) <|
        back (v11, v7 + 1)) fun k1 =>
    bif ((ix a2 v7) == ((-1) : Int)) then
      k1 v6
    else
      chk (inI (((a1.length : Nat) : Int) - 1)) <|
      (restore_within n (ix a2 v7) 0 (((a1.length : Nat) : Int) - 1)).bind fun y8 =>
      bif !((decide (0 ≤ (ix a2 v7))) && (decide ((ix a2 v7) ≤ (((a1.length : Nat) : Int) - 1)))) then
        some (6, 0)
      else
        chk (decide (v7 < a0.length)) <|
        chk (inB (ix a2 v7) a1.length) <|
        chk (decide ((ix a2 v7).toNat < a1.length)) <|
        (restore_fits n (ix a0 v7) (ix a1 ((ix a2 v7).toNat))).bind fun y9 =>
        bif !y9 then
          some (15, 0)
        else
          chk (decide (v7 ≤ a2.length)) <|
          (slices_Contains_int n (List.take v7 a2) (ix a2 v7)).bind fun y10 =>
          bif y10 then
            some (17, 0)
          else
            chk (nI (v6 + 1)) <|
            k1 (v6 + 1)
  else
    k2 v6
def restore_CheckMatch (n : Nat) (a0 : List WantedPart) (a1 : List OfferedPart) (a2 : List Int) : Option (Int × Int) :=
  (restore_checkBoth n a0 a1).bind fun y1 =>
  bif (y1 != (0 : Int)) then
    some (y1, 0)
  else
    bif !decide (a2.length = a0.length) then
      some (10, 0)
    else
      withK (fun (v12 : Nat) =>
          some (0, ((v12 : Nat) : Int))) fun k2 =>
      loopN (restore_CheckMatch_L1 n a0 a1 a2 k2) n (0, 0)
def restore_CheckCover_f1 (n : Nat) (a0 : Int) (a1 : Int) : Option Unit :=
  chk (inI (a1 - 1)) <|
  (restore_within n a0 0 (a1 - 1)).bind fun y1 =>
  some ()
def slices_IndexFunc_int_2_L1 (n : Nat) (a0 : List Int) (a1 : Int) (k1 : (Unit → Option Int)) (back : Nat → Option Int) : Nat → Option Int
  | v2 =>
  bif decide (v2 < a0.length) then
    (restore_CheckCover_f1 n (ix a0 v2) a1).bind fun y3 =>
    bif !((decide (0 ≤ (ix a0 v2))) && (decide ((ix a0 v2) ≤ (a1 - 1)))) then
      some ((v2 : Nat) : Int)
    else
      chk (nI (v2 + 1)) <|
      back (v2 + 1)
  else
    k1 ()
def slices_IndexFunc_int_2 (n : Nat) (a0 : List Int) (a1 : Int) : Option Int :=
  withK (fun (_ : Unit) =>
      some (-1)) fun k1 =>
  loopN (slices_IndexFunc_int_2_L1 n a0 a1 k1) n 0
def slices_ContainsFunc_int_2 (n : Nat) (a0 : List Int) (a1 : Int) : Option Bool :=
  (slices_IndexFunc_int_2 n a0 a1).bind fun y1 =>
  some (decide ((0 : Int) ≤ y1))
def restore_CheckCover_L3 (n : Nat) (a0 : List WantedPart) (a1 : List OfferedPart) (a2 : Arr2_ListInt) (v13 : Int) (k3 : (Unit → Option (Int × Int))) (back : Int → Option (Int × Int)) : Int → Option (Int × Int)
  | v17 =>
  bif decide (v17 < ((a1.length : Nat) : Int)) then
    chk (inB v17 a1.length) <|
    chk (decide (v17.toNat < a1.length)) <|
    (restore_fits n (ix a0 v13.toNat) (ix a1 v17.toNat)).bind fun y18 =>
    (gcall y18 (slices_Contains_int n a2.a0 v13)).bind fun y19 =>
    (gcall (y18 && (!y19)) (slices_Contains_int n a2.a1 v17)).bind fun y20 =>
    bif (y18 && (!y19)) && (!y20) then
      some (14, 0)
    else
      chk (inI (v17 + 1)) <|
      back (v17 + 1)
  else
    k3 ()
def restore_CheckCover_L4 (n : Nat) (a0 : List WantedPart) (a1 : List OfferedPart) (a2 : Arr2_ListInt) (k4 : (Unit → Option (Int × Int))) (back : Int → Option (Int × Int)) : Int → Option (Int × Int)
  | v13 =>
  bif decide (v13 < ((a0.length : Nat) : Int)) then
    withK (fun (_ : Unit) =>
        chk (inI (v13 + 1)) <|
        back (v13 + 1)) fun k3 =>
    chk (inB v13 a0.length) <|
    chk (decide (v13.toNat < a0.length)) <|
    loopN (restore_CheckCover_L3 n a0 a1 a2 v13 k3) n 0
  else
    k4 ()
def restore_CheckCover_L2 (a2 : Arr2_ListInt) (k2 : (Unit → Option (Int × Int))) (back : Int → Option (Int × Int)) : Int → Option (Int × Int)
  | v5 =>
  bif decide (v5 < ((a2.a1.length : Nat) : Int)) then
    chk (inB v5 a2.a1.length) <|
    chk (decide (v5.toNat < a2.a1.length)) <|
    chk (inI (v5 - 1)) <|
    chk (inB (v5 - 1) a2.a1.length) <|
    chk (decide ((v5 - 1).toNat < a2.a1.length)) <|
    bif decide ((ix a2.a1 v5.toNat) ≤ (ix a2.a1 ((v5 - 1).toNat))) then
      some (9, 0)
    else
      chk (inI (v5 + 1)) <|
      back (v5 + 1)
  else
    k2 ()
def restore_CheckCover_L1 (a2 : Arr2_ListInt) (k1 : (Unit → Option (Int × Int))) (back : Int → Option (Int × Int)) : Int → Option (Int × Int)
  | v4 =>
  bif decide (v4 < ((a2.a0.length : Nat) : Int)) then
    chk (inB v4 a2.a0.length) <|
    chk (decide (v4.toNat < a2.a0.length)) <|
    chk (inI (v4 - 1)) <|
    chk (inB (v4 - 1) a2.a0.length) <|
    chk (decide ((v4 - 1).toNat < a2.a0.length)) <|
    bif decide ((ix a2.a0 v4.toNat) ≤ (ix a2.a0 ((v4 - 1).toNat))) then
      some (9, 0)
    else
      chk (inI (v4 + 1)) <|
      back (v4 + 1)
  else
    k1 ()
def restore_CheckCover (n : Nat) (a0 : List WantedPart) (a1 : List OfferedPart) (a2 : Arr2_ListInt) : Option (Int × Int) :=
  (restore_checkBoth n a0 a1).bind fun y1 =>
  bif (y1 != (0 : Int)) then
    some (y1, 0)
  else
    (slices_ContainsFunc_int_2 n a2.a0 ((a0.length : Nat) : Int)).bind fun y2 =>
    bif y2 then
      some (6, 0)
    else
      (slices_ContainsFunc_int_2 n a2.a1 ((a1.length : Nat) : Int)).bind fun y3 =>
      bif y3 then
        some (6, 0)
      else
        withK (fun (_ : Unit) =>
            withK (fun (_ : Unit) =>
                withK (fun (_ : Unit) =>
                    chk (nI (a2.a0.length + a2.a1.length)) <|
                    some (0, ((a2.a0.length + a2.a1.length : Nat) : Int))) fun k4 =>
                loopN (restore_CheckCover_L4 n a0 a1 a2 k4) n 0) fun k2 =>
            loopN (restore_CheckCover_L2 a2 k2) n 1) fun k1 =>
        loopN (restore_CheckCover_L1 a2 k1) n 1
def agrafferef08_CheckWanted_L1 (n : Nat) (a0 : List WantedPart) (v8 : Nat) (k1 : (Unit → Option Int)) (back : Nat → Option Int) : Nat → Option Int
  | v13 =>
  bif decide (v13 < (((ix a0 v8).Ranges).length)) then
    chk (decide (v13 < ((ix a0 v8).Ranges).length)) <|
    (agraffebase_Within n ((ix ((ix a0 v8).Ranges) v13).Lo) 0 ((ix ((ix a0 v8).Ranges) v13).Hi)).bind fun y14 =>
    bif (!((decide (0 ≤ ((ix ((ix a0 v8).Ranges) v13).Lo))) && (decide (((ix ((ix a0 v8).Ranges) v13).Lo) ≤ ((ix ((ix a0 v8).Ranges) v13).Hi))))) || (decide ((1000000 : Int) < ((ix ((ix a0 v8).Ranges) v13).Hi))) then
      some 2
    else
      chk (nI (v13 + 1)) <|
      back (v13 + 1)
  else
    k1 ()
def agrafferef08_CheckWanted_L2 (n : Nat) (a0 : List WantedPart) (k2 : (Unit → Option Int)) (back : (List Str) × Nat → Option Int) : (List Str) × Nat → Option Int
  | (v7, v8) =>
  bif decide (v8 < a0.length) then
    withK (fun (_ : Unit) =>
        chk (nI (v8 + 1)) <|
        back ((v7 ++ ([(ix a0 v8).Name] : List Str)), v8 + 1)) fun k1 =>
    (agraffebase_IsName n ((ix a0 v8).Name)).bind fun y9 =>
    bif !y9 then
      some 4
    else
      (agraffebase_HasText_2 n v7 ((ix a0 v8).Name)).bind fun y10 =>
      bif y10 then
        some 5
      else
        chk (room 16 (v7 ++ ([(ix a0 v8).Name] : List Str)).length) <|
        (agraffebase_Within n ((((ix a0 v8).Ranges).length : Nat) : Int) 1 6).bind fun y11 =>
        bif !((decide (1 ≤ ((((ix a0 v8).Ranges).length : Nat) : Int))) && (decide (((((ix a0 v8).Ranges).length : Nat) : Int) ≤ 6))) then
          some 10
        else
          loopN (agrafferef08_CheckWanted_L1 n a0 v8 k1) n 0
  else
    k2 ()
def agrafferef08_CheckWanted (n : Nat) (a0 : List WantedPart) : Option Int :=
  bif decide (40 < a0.length) then
    some 8
  else
    withK (fun (_ : Unit) =>
        some 0) fun k2 =>
    loopN (agrafferef08_CheckWanted_L2 n a0 k2) n (([] : List Str), 0)
def agrafferef08_CheckOffered_L1 (n : Nat) (a0 : List OfferedPart) (v8 : Nat) (k1 : (Unit → Option Int)) (back : Nat → Option Int) : Nat → Option Int
  | v13 =>
  bif decide (v13 < (((ix a0 v8).Sizes).length)) then
    chk (decide (v13 < ((ix a0 v8).Sizes).length)) <|
    (agraffebase_Within n (ix ((ix a0 v8).Sizes) v13) 0 1000000).bind fun y14 =>
    bif !((decide (0 ≤ (ix ((ix a0 v8).Sizes) v13))) && (decide ((ix ((ix a0 v8).Sizes) v13) ≤ 1000000))) then
      some 2
    else
      chk (nI (v13 + 1)) <|
      back (v13 + 1)
  else
    k1 ()
def agrafferef08_CheckOffered_L2 (n : Nat) (a0 : List OfferedPart) (k2 : (Unit → Option Int)) (back : (List Str) × Nat → Option Int) : (List Str) × Nat → Option Int
  | (v7, v8) =>
  bif decide (v8 < a0.length) then
    withK (fun (_ : Unit) =>
        chk (nI (v8 + 1)) <|
        back ((v7 ++ ([(ix a0 v8).Name] : List Str)), v8 + 1)) fun k1 =>
    (agraffebase_IsName n ((ix a0 v8).Name)).bind fun y9 =>
    bif !y9 then
      some 4
    else
      (agraffebase_HasText_2 n v7 ((ix a0 v8).Name)).bind fun y10 =>
      bif y10 then
        some 5
      else
        chk (room 16 (v7 ++ ([(ix a0 v8).Name] : List Str)).length) <|
        (agraffebase_Within n ((((ix a0 v8).Sizes).length : Nat) : Int) 1 6).bind fun y11 =>
        bif !((decide (1 ≤ ((((ix a0 v8).Sizes).length : Nat) : Int))) && (decide (((((ix a0 v8).Sizes).length : Nat) : Int) ≤ 6))) then
          some 10
        else
          loopN (agrafferef08_CheckOffered_L1 n a0 v8 k1) n 0
  else
    k2 ()
def agrafferef08_CheckOffered (n : Nat) (a0 : List OfferedPart) : Option Int :=
  bif decide (40 < a0.length) then
    some 8
  else
    withK (fun (_ : Unit) =>
        some 0) fun k2 =>
    loopN (agrafferef08_CheckOffered_L2 n a0 k2) n (([] : List Str), 0)
def agrafferef08_CheckBoth (n : Nat) (a0 : List WantedPart) (a1 : List OfferedPart) : Option Int :=
  (agrafferef08_CheckWanted n a0).bind fun y1 =>
  bif (y1 != (0 : Int)) then
    some y1
  else
    (agrafferef08_CheckOffered n a1).bind fun y2 =>
    some y2
def agrafferef08_Fits_L1 (n : Nat) (a0 : WantedPart) (a1 : OfferedPart) (k1 : (Unit → Option Bool)) (back : Nat → Option Bool) : Nat → Option Bool
  | v2 =>
  bif decide (v2 < a1.Sizes.length) then
    chk (decide (v2 < a0.Ranges.length)) <|
    (agraffebase_Within n (ix a1.Sizes v2) ((ix a0.Ranges v2).Lo) ((ix a0.Ranges v2).Hi)).bind fun y3 =>
    bif !((decide (((ix a0.Ranges v2).Lo) ≤ (ix a1.Sizes v2))) && (decide ((ix a1.Sizes v2) ≤ ((ix a0.Ranges v2).Hi)))) then
      some false
    else
      chk (nI (v2 + 1)) <|
      back (v2 + 1)
  else
    k1 ()
def agrafferef08_Fits (n : Nat) (a0 : WantedPart) (a1 : OfferedPart) : Option Bool :=
  bif !decide (a0.Ranges.length = a1.Sizes.length) then
    some false
  else
    withK (fun (_ : Unit) =>
        some true) fun k1 =>
    loopN (agrafferef08_Fits_L1 n a0 a1 k1) n 0
def agraffebase_Has_L1 (a0 : List Int) (a1 : Int) (k1 : (Unit → Option Bool)) (back : Nat → Option Bool) : Nat → Option Bool
  | v1 =>
  bif decide (v1 < a0.length) then
    bif ((ix a0 v1) == a1) then
      some true
    else
      chk (nI (v1 + 1)) <|
      back (v1 + 1)
  else
    k1 ()
def agraffebase_Has (n : Nat) (a0 : List Int) (a1 : Int) : Option Bool :=
  withK (fun (_ : Unit) =>
      some false) fun k1 =>
  loopN (agraffebase_Has_L1 a0 a1 k1) n 0
def agrafferef08_CheckMatch_L1 (n : Nat) (a0 : List WantedPart) (a1 : List OfferedPart) (a2 : List Int) (k2 : (Nat → Option (Int × Int))) (back : Nat × Nat → Option (Int × Int)) : Nat × Nat → Option (Int × Int)
  | (v5, v6) =>
  bif decide (v6 < a2.length) then
    withK (fun (v10 : Nat) =>
        chk (nI (v6 + 1)) <|
        back (v10, v6 + 1)) fun k1 =>
    bif ((ix a2 v6) == ((-1) : Int)) then
      k1 v5
    else
      chk (inI (((a1.length : Nat) : Int) - 1)) <|
      (agraffebase_Within n (ix a2 v6) 0 (((a1.length : Nat) : Int) - 1)).bind fun y7 =>
      bif !((decide (0 ≤ (ix a2 v6))) && (decide ((ix a2 v6) ≤ (((a1.length : Nat) : Int) - 1)))) then
        some (6, 0)
      else
        chk (decide (v6 < a0.length)) <|
        chk (inB (ix a2 v6) a1.length) <|
        chk (decide ((ix a2 v6).toNat < a1.length)) <|
        (agrafferef08_Fits n (ix a0 v6) (ix a1 ((ix a2 v6).toNat))).bind fun y8 =>
        bif !y8 then
          some (15, 0)
        else
          chk (decide (v6 ≤ a2.length)) <|
          (agraffebase_Has n (List.take v6 a2) (ix a2 v6)).bind fun y9 =>
          bif y9 then
            some (17, 0)
          else
            chk (nI (v5 + 1)) <|
            k1 (v5 + 1)
  else
    k2 v5
def agrafferef08_CheckMatch (n : Nat) (a0 : List WantedPart) (a1 : List OfferedPart) (a2 : List Int) : Option (Int × Int) :=
  bif !decide (a2.length = a0.length) then
    some (10, 0)
  else
    withK (fun (v11 : Nat) =>
        some (0, ((v11 : Nat) : Int))) fun k2 =>
    loopN (agrafferef08_CheckMatch_L1 n a0 a1 a2 k2) n (0, 0)
def agrafferef08_CheckCover_L5 (n : Nat) (a0 : List WantedPart) (a1 : List OfferedPart) (a2 : Arr2_ListInt) (v16 : Int) (k5 : (Unit → Option (Int × Int))) (back : Int → Option (Int × Int)) : Int → Option (Int × Int)
  | v20 =>
  bif decide (v20 < ((a1.length : Nat) : Int)) then
    chk (inB v16 a0.length) <|
    chk (decide (v16.toNat < a0.length)) <|
    chk (inB v20 a1.length) <|
    chk (decide (v20.toNat < a1.length)) <|
    (agrafferef08_Fits n (ix a0 v16.toNat) (ix a1 v20.toNat)).bind fun y21 =>
    (gcall y21 (agraffebase_Has n a2.a0 v16)).bind fun y22 =>
    (gcall (y21 && (!y22)) (agraffebase_Has n a2.a1 v20)).bind fun y23 =>
    bif (y21 && (!y22)) && (!y23) then
      some (14, 0)
    else
      chk (inI (v20 + 1)) <|
      back (v20 + 1)
  else
    k5 ()
def agrafferef08_CheckCover_L6 (n : Nat) (a0 : List WantedPart) (a1 : List OfferedPart) (a2 : Arr2_ListInt) (k6 : (Unit → Option (Int × Int))) (back : Int → Option (Int × Int)) : Int → Option (Int × Int)
  | v16 =>
  bif decide (v16 < ((a0.length : Nat) : Int)) then
    withK (fun (_ : Unit) =>
        chk (inI (v16 + 1)) <|
        back (v16 + 1)) fun k5 =>
    loopN (agrafferef08_CheckCover_L5 n a0 a1 a2 v16 k5) n 0
  else
    k6 ()
def agrafferef08_CheckCover_L4 (a2 : Arr2_ListInt) (k4 : (Unit → Option (Int × Int))) (back : Int → Option (Int × Int)) : Int → Option (Int × Int)
  | v8 =>
  bif decide (v8 < ((a2.a1.length : Nat) : Int)) then
    chk (inI (v8 - 1)) <|
    chk (inB (v8 - 1) a2.a1.length) <|
    chk (decide ((v8 - 1).toNat < a2.a1.length)) <|
    chk (inB v8 a2.a1.length) <|
    chk (decide (v8.toNat < a2.a1.length)) <|
    bif decide ((ix a2.a1 v8.toNat) ≤ (ix a2.a1 ((v8 - 1).toNat))) then
      some (9, 0)
    else
      chk (inI (v8 + 1)) <|
      back (v8 + 1)
  else
    k4 ()
def agrafferef08_CheckCover_L3 (a2 : Arr2_ListInt) (k3 : (Unit → Option (Int × Int))) (back : Int → Option (Int × Int)) : Int → Option (Int × Int)
  | v7 =>
  bif decide (v7 < ((a2.a0.length : Nat) : Int)) then
    chk (inI (v7 - 1)) <|
    chk (inB (v7 - 1) a2.a0.length) <|
    chk (decide ((v7 - 1).toNat < a2.a0.length)) <|
    chk (inB v7 a2.a0.length) <|
    chk (decide (v7.toNat < a2.a0.length)) <|
    bif decide ((ix a2.a0 v7.toNat) ≤ (ix a2.a0 ((v7 - 1).toNat))) then
      some (9, 0)
    else
      chk (inI (v7 + 1)) <|
      back (v7 + 1)
  else
    k3 ()
def agrafferef08_CheckCover_L2 (n : Nat) (a1 : List OfferedPart) (a2 : Arr2_ListInt) (k2 : (Unit → Option (Int × Int))) (back : Int → Option (Int × Int)) : Int → Option (Int × Int)
  | v5 =>
  bif decide (v5 < ((a2.a1.length : Nat) : Int)) then
    chk (inB v5 a2.a1.length) <|
    chk (decide (v5.toNat < a2.a1.length)) <|
    chk (inI (((a1.length : Nat) : Int) - 1)) <|
    (agraffebase_Within n (ix a2.a1 v5.toNat) 0 (((a1.length : Nat) : Int) - 1)).bind fun y6 =>
    bif !((decide (0 ≤ (ix a2.a1 v5.toNat))) && (decide ((ix a2.a1 v5.toNat) ≤ (((a1.length : Nat) : Int) - 1)))) then
      some (6, 0)
    else
      chk (inI (v5 + 1)) <|
      back (v5 + 1)
  else
    k2 ()
def agrafferef08_CheckCover_L1 (n : Nat) (a0 : List WantedPart) (a2 : Arr2_ListInt) (k1 : (Unit → Option (Int × Int))) (back : Int → Option (Int × Int)) : Int → Option (Int × Int)
  | v2 =>
  bif decide (v2 < ((a2.a0.length : Nat) : Int)) then
    chk (inB v2 a2.a0.length) <|
    chk (decide (v2.toNat < a2.a0.length)) <|
    chk (inI (((a0.length : Nat) : Int) - 1)) <|
    (agraffebase_Within n (ix a2.a0 v2.toNat) 0 (((a0.length : Nat) : Int) - 1)).bind fun y3 =>
    bif !((decide (0 ≤ (ix a2.a0 v2.toNat))) && (decide ((ix a2.a0 v2.toNat) ≤ (((a0.length : Nat) : Int) - 1)))) then
      some (6, 0)
    else
      chk (inI (v2 + 1)) <|
      back (v2 + 1)
  else
    k1 ()
def agrafferef08_CheckCover (n : Nat) (a0 : List WantedPart) (a1 : List OfferedPart) (a2 : Arr2_ListInt) : Option (Int × Int) :=
  withK (fun (_ : Unit) =>
      withK (fun (_ : Unit) =>
          withK (fun (_ : Unit) =>
              withK (fun (_ : Unit) =>
                  withK (fun (_ : Unit) =>
                      chk (nI (a2.a0.length + a2.a1.length)) <|
                      some (0, ((a2.a0.length + a2.a1.length : Nat) : Int))) fun k6 =>
                  loopN (agrafferef08_CheckCover_L6 n a0 a1 a2 k6) n 0) fun k4 =>
              loopN (agrafferef08_CheckCover_L4 a2 k4) n 1) fun k3 =>
          loopN (agrafferef08_CheckCover_L3 a2 k3) n 1) fun k2 =>
      loopN (agrafferef08_CheckCover_L2 n a1 a2 k2) n 0) fun k1 =>
  loopN (agrafferef08_CheckCover_L1 n a0 a2 k1) n 0
def agraffelaw08_RestoreProofs (n : Nat) (a0 : List WantedPart) (a1 : List OfferedPart) (a2 : Proof) : Option Bool :=
  (agraffelaw08_awake n).bind fun y1 =>
  bif !y1 then
    some false
  else
    (agraffelaw08_places n a0 a1).bind fun y2 =>
    bif (((!y2) || (decide (50 < a2.Match.length))) || (decide (50 < a2.Cover.a0.length))) || (decide (50 < a2.Cover.a1.length)) then
      some true
    else
      (agraffelaw08_wanted n a0).bind fun y3 =>
      (agraffelaw08_offered n a1).bind fun y4 =>
      (agraffebase_CopyInts_2 n a2.Match).bind fun y5 =>
      (restore_CheckMatch n y3 y4 a2.Match).bind fun y6 =>
      (agraffelaw08_wanted n a0).bind fun y7 =>
      (agraffelaw08_offered n a1).bind fun y8 =>
      (agraffebase_CopyInts_2 n a2.Cover.a0).bind fun y9 =>
      (agraffebase_CopyInts_2 n a2.Cover.a1).bind fun y10 =>
      (restore_CheckCover n y7 y8 a2.Cover).bind fun y11 =>
      (agrafferef08_CheckBoth n a0 a1).bind fun y12 =>
      bif (y12 != (0 : Int)) then
        some ((((y6.1 == y12) && (y11.1 == y12)) && (y6.2 == (0 : Int))) && (y11.2 == (0 : Int)))
      else
        (agrafferef08_CheckMatch n a0 a1 a2.Match).bind fun y13 =>
        (agrafferef08_CheckCover n a0 a1 a2.Cover).bind fun y14 =>
        some (((((y6.1 == y13.1) && (y6.2 == y13.2)) && (y11.1 == y14.1)) && (y11.2 == y14.2)) && (((y13.1 != (0 : Int)) || (y14.1 != (0 : Int))) || (decide (y6.2 ≤ y11.2))))
end
section
set_option maxRecDepth 4000
open Go
theorem loopN_s {α β : Type} (F : (α → Option β) → α → Option β) (n : Nat) (t : α) : loopN F (n + 1) t = F (loopN F n) t := rfl
@[simp] theorem chk_t {α : Type} (k : Option α) : chk true k = k := rfl
theorem chk_of {α : Type} {b : Bool} {k : Option α} (h : b = true) : chk b k = k := by subst h; rfl
@[simp] theorem withK_eq {α β : Type} (j : α → Option β) (f : (α → Option β) → Option β) : withK j f = f j := rfl
@[simp] theorem gcall_some_ {α : Type} [Inhabited α] (g : Bool) (x : α) : (gcall g (some x)) = some (bif g then x else default) := by cases g <;> rfl
theorem nI_of {n : Nat} (h : n ≤ 9223372036854775807) : nI n = true := by simp [nI, h]
theorem inI_of {n : Int} (h : -9223372036854775808 ≤ n) (h2 : n ≤ 9223372036854775807) : inI n = true := by simp [inI, h, h2]
theorem room_of {b n : Nat} (h : n * b ≤ 140737488355328) (h2 : n ≤ 9223372036854775807) : room b n = true := by simp [room, h, h2]
theorem inB_of {q : Int} {n : Nat} (h : 0 ≤ q) (h2 : q.toNat < n) : inB q n = true := by simp [inB, h, h2]
theorem drop_ix {α : Type} [Inhabited α] {l : List α} {v : Nat} (h : v < l.length) : l.drop v = ix l v :: l.drop (v + 1) := by
  rw [ix_eq h]; exact List.drop_eq_getElem_cons h
theorem drop_nil {α : Type} {l : List α} {v : Nat} (h : ¬ v < l.length) : l.drop v = [] := List.drop_eq_nil_of_le (by omega)
def isL (c : UInt8) : Bool := (decide ((97 : Int) ≤ ((c.toNat : Nat) : Int)) && decide (((c.toNat : Nat) : Int) ≤ (122 : Int))) || (decide ((65 : Int) ≤ ((c.toNat : Nat) : Int)) && decide (((c.toNat : Nat) : Int) ≤ (90 : Int)))
def isD (c : UInt8) : Bool := decide ((48 : Int) ≤ ((c.toNat : Nat) : Int)) && decide (((c.toNat : Nat) : Int) ≤ (57 : Int))
def okC (c : UInt8) : Bool := isL c || isD c || (((c.toNat : Nat) : Int) == (45 : Int))
def nameB (s : Str) : Bool := match s with
  | [] => false
  | c :: r => isL c && r.all okC && decide (r.length < 12)
end
section
set_option maxRecDepth 4000
open Go
theorem bne_t {x : Int} (h : ¬ x = 0) : (x != 0) = true := by simp [bne, h]
def firstE (E : Nat → Int) : Nat → Nat → Int
  | _, 0 => 0
  | v, m + 1 => bif E v != 0 then E v else firstE E (v + 1) m
theorem firstE_zero {E : Nat → Int} : ∀ {m v : Nat}, firstE E v m = 0 → ∀ j, v ≤ j → j < v + m → E j = 0
  | 0, v, _, j, h1, h2 => by omega
  | m + 1, v, h, j, h1, h2 => by
    unfold firstE at h
    by_cases e : E v = 0
    · simp [e] at h
      by_cases hj : j = v
      · rw [hj]; exact e
      · exact firstE_zero h j (by omega) (by omega)
    · rw [bne_t e, cond_true] at h; exact absurd h e
theorem loop_first {σ R : Type} {F : (σ → Option R) → σ → Option R} {st : Nat → σ} {E : Nat → Int} {err : Int → Option R} {k : Option R} {len : Nat}
    (h1 : ∀ back v, v < len → (∀ j, j < v → E j = 0) → F back (st v) = bif E v != 0 then err (E v) else back (st (v + 1)))
    (h2 : ∀ back, (∀ j, j < len → E j = 0) → F back (st len) = k) : ∀ n v, len - v < n → v ≤ len → (∀ j, j < v → E j = 0) → loopN F n (st v) = bif firstE E v (len - v) != 0 then err (firstE E v (len - v)) else k := by
  intro n
  induction n with
  | zero => intro v h; omega
  | succ n ih =>
    intro v hn hv hz
    rw [loopN_s]
    by_cases h : v < len
    · rw [h1 _ v h hz, show len - v = (len - (v + 1)) + 1 by omega]
      unfold firstE
      by_cases e : E v = 0
      · simp only [e, bne_self_eq_false, cond_false]
        exact ih (v + 1) (by omega) (by omega) fun j hj => by
          by_cases hjv : j = v
          · rw [hjv]; exact e
          · exact hz j (by omega)
      · rw [bne_t e, cond_true, cond_true, bne_t e, cond_true]
    · have : v = len := by omega
      subst this
      rw [h2 _ hz, Nat.sub_self]
      simp [firstE]
theorem loop_through {σ R : Type} {F : (σ → Option R) → σ → Option R} {st : Nat → σ} {k : Option R} {len : Nat} (h1 : ∀ back v, v < len → F back (st v) = back (st (v + 1))) (h2 : ∀ back, F back (st len) = k) : ∀ n, len < n → loopN F n (st 0) = k := by
  intro n hn
  have := loop_first (F := F) (st := st) (E := fun _ => 0) (err := fun _ => none) (k := k) (len := len) (fun back v hv _ => by simp [h1 back v hv]) (fun back _ => h2 back) n 0 (by omega) (by omega) (fun _ _ => rfl)
  rw [this, Nat.sub_zero]
  have : firstE (fun _ => (0 : Int)) 0 len = 0 := by
    have : ∀ m v, firstE (fun _ => (0 : Int)) v m = 0 := by
      intro m
      induction m with
      | zero => intro v; rfl
      | succ m ih => intro v; simp [firstE, ih]
    exact this _ _
  rw [this]; rfl
def findI {α : Type} (p : α → Bool) (l : List α) : Int := match l.findIdx? p with
  | some i => ((i : Nat) : Int)
  | none => -1
end
section
set_option maxRecDepth 4000
open Go
theorem loop_find' {α R : Type} [Inhabited α] {l : List α} {p : α → Bool} {F : (Nat → Option R) → Nat → Option R} {yes : Nat → Option R} {no : Option R}
    (h1 : ∀ back v, v < l.length → F back v = bif p (ix l v) then yes v else back (v + 1)) (h2 : ∀ back, F back l.length = no) :
    ∀ n v, v ≤ l.length → l.length - v < n → loopN F n v = match (l.drop v).findIdx? p with | some i => yes (v + i) | none => no := by
  intro n
  induction n with
  | zero => intro v _ h; omega
  | succ n ih =>
    intro v hv hn
    rw [loopN_s]
    by_cases h : v < l.length
    · rw [h1 _ v h, drop_ix h, List.findIdx?_cons]
      cases hp : p (ix l v) with
      | true => simp
      | false =>
        simp only [cond_false, Bool.false_eq_true, if_false]
        rw [ih (v + 1) (by omega) (by omega)]
        cases hh : (l.drop (v + 1)).findIdx? p with
        | none => simp
        | some i => simp [Nat.add_assoc, Nat.add_comm 1 i]
    · have : v = l.length := by omega
      subst this
      rw [h2, drop_nil h]
      simp
theorem any_findIdx {α : Type} (p : α → Bool) (l : List α) : (l.findIdx? p).isSome = l.any p := by
  induction l with
  | nil => rfl
  | cons x l ih =>
    rw [List.findIdx?_cons, List.any_cons]
    cases p x <;> simp [ih]
theorem loop_any' {α R : Type} [Inhabited α] {l : List α} {p : α → Bool} {F : (Nat → Option R) → Nat → Option R} {bad no : Option R}
    (h1 : ∀ back v, v < l.length → F back v = bif p (ix l v) then bad else back (v + 1)) (h2 : ∀ back, F back l.length = no) (n : Nat) (hn : l.length < n) : loopN F n 0 = bif l.any p then bad else no := by
  rw [loop_find' (yes := fun _ => bad) h1 h2 n 0 (by omega) (by omega), List.drop_zero, ← any_findIdx]
  cases l.findIdx? p <;> rfl
theorem loop_findI {α : Type} [Inhabited α] {l : List α} {p : α → Bool} {F : (Nat → Option Int) → Nat → Option Int}
    (h1 : ∀ back v, v < l.length → F back v = bif p (ix l v) then some ((v : Nat) : Int) else back (v + 1)) (h2 : ∀ back, F back l.length = some (-1)) (n : Nat) (hn : l.length < n) : loopN F n 0 = some (findI p l) := by
  rw [loop_find' h1 h2 n 0 (by omega) (by omega), List.drop_zero, findI]
  cases l.findIdx? p <;> simp
theorem findI_any {α : Type} (p : α → Bool) (l : List α) : decide ((0 : Int) ≤ findI p l) = l.any p := by
  rw [← any_findIdx, findI]
  cases l.findIdx? p <;> simp
theorem loop_fold' {σ R : Type} {F : (Nat × σ → Option R) → Nat × σ → Option R} {st : Nat → σ} {k : Option R} {len : Nat} (h1 : ∀ back v, v < len → F back (v, st v) = back (v + 1, st (v + 1))) (h2 : ∀ back, F back (len, st len) = k) (n : Nat) (hn : len < n) {s0 : σ} (h0 : st 0 = s0) : loopN F n (0, s0) = k := by
  subst h0
  exact loop_through (st := fun v => (v, st v)) h1 h2 n hn
end
section
set_option maxRecDepth 4000
open Go
theorem getD_ix (s : Str) (v : Nat) : List.getD s v 0 = ix s v := by
  simp only [ix, List.getD]; rfl
theorem isName_loop (s : Str) (k : Unit → Option Bool) : ∀ (n v : Nat), s.length - v < n → 0 < v → s.length < 9223372036854775807 → loopN (restore_isName_L1 s k) n v = bif (s.drop v).all okC then k () else some false := by
  intro n
  induction n with
  | zero => intro v h; omega
  | succ n ih =>
    intro v hn hv hl
    rw [loopN_s, restore_isName_L1]
    by_cases h : v < s.length
    · rw [drop_ix h]
      have h2 : ¬ v = 0 := by omega
      simp only [h, decide_true, cond_true, h2, decide_false, Bool.false_or, List.all_cons, nI_of (by omega : v + 1 ≤ 9223372036854775807), chk_t]
      rw [ih (v + 1) (by omega) (by omega) hl]
      have key : (!((decide ((97 : Int) ≤ (((ix s v).toNat : Nat) : Int)) && decide ((((ix s v).toNat : Nat) : Int) ≤ (122 : Int))) || (decide ((65 : Int) ≤ (((ix s v).toNat : Nat) : Int)) && decide ((((ix s v).toNat : Nat) : Int) ≤ (90 : Int)))) && (((((ix s v).toNat : Nat) : Int) != (45 : Int)) && (decide ((((ix s v).toNat : Nat) : Int) < (48 : Int)) || decide ((57 : Int) < (((ix s v).toNat : Nat) : Int))))) = !okC (ix s v) := by
        have hd : (decide ((((ix s v).toNat : Nat) : Int) < (48 : Int)) || decide ((57 : Int) < (((ix s v).toNat : Nat) : Int))) = !isD (ix s v) := by
          simp only [isD, Bool.not_and, ← decide_not, Int.not_le]
        rw [hd]
        show (!isL (ix s v) && _) = _
        simp only [okC]
        cases isL (ix s v) <;> cases isD (ix s v) <;> cases hh : (((((ix s v).toNat : Nat) : Int)) == (45 : Int)) <;> simp [bne, hh]
      rw [key]
      cases okC (ix s v) <;> simp
    · rw [drop_nil h]
      simp [h]
theorem isName_eq (s : Str) (n : Nat) (hn : s.length + 1 < n) (hl : s.length < 9223372036854775807) : restore_isName n s = some (nameB s) := by
  obtain ⟨n, rfl⟩ : ∃ m, n = m + 1 := ⟨n - 1, by omega⟩
  rw [restore_isName, withK_eq, loopN_s, restore_isName_L1]
  cases s with
  | nil => simp [nameB]
  | cons c r =>
    have h0 : 0 < (c :: r).length := by simp
    have hix : ix (c :: r) 0 = c := rfl
    simp only [h0, decide_true, cond_true, hix, Bool.true_or, Bool.and_true, nI_of (by simp : 0 + 1 ≤ 9223372036854775807), chk_t]
    rw [isName_loop _ _ n 1 (by simp at hn ⊢; omega) (by omega) hl]
    show (bif !isL c then some false else _) = _
    simp only [nameB, List.drop_succ_cons, List.drop_zero]
    cases hL : isL c <;> cases hA : r.all okC <;> simp
    omega
theorem IsName_loop (s : Str) (n0 : Nat) (k : Unit → Option Bool) : ∀ (n v : Nat), s.length - v < n → s.length < 9223372036854775807 → loopN (agraffebase_IsName_L1 n0 s k) n v = bif (s.drop v).all okC then k () else some false := by
  intro n
  induction n with
  | zero => intro v h; omega
  | succ n ih =>
    intro v hn hl
    rw [loopN_s, agraffebase_IsName_L1]
    by_cases h : v < s.length
    · rw [drop_ix h]
      simp only [h, decide_true, cond_true, agraffebase_isLetter, agraffebase_isDigit, gcall_some_, Option.bind_some, getD_ix, List.all_cons, nI_of (by omega : v + 1 ≤ 9223372036854775807), chk_t]
      rw [ih (v + 1) (by omega) hl]
      show (bif ((!isL (ix s v)) && (!isD (ix s v))) && ((((ix s v).toNat : Nat) : Int) != (45 : Int)) then _ else _) = _
      simp only [okC]
      cases isL (ix s v) <;> cases isD (ix s v) <;> cases hh : (((((ix s v).toNat : Nat) : Int)) == (45 : Int)) <;> simp [bne, hh]
    · rw [drop_nil h]
      simp [h]
theorem IsName_eq (s : Str) (n : Nat) (hn : s.length + 1 < n) (hl : s.length < 9223372036854775807) : agraffebase_IsName n s = some (nameB s) := by
  rw [agraffebase_IsName]
  simp only [agraffebase_isLetter, gcall_some_, Option.bind_some, getD_ix, withK_eq]
  rw [IsName_loop _ _ _ _ _ (by omega) hl]
  cases s with
  | nil => simp [nameB]
  | cons c r =>
    have h0 : ¬ (c :: r).length = 0 := by simp
    have h1 : 0 < (c :: r).length := by simp
    have hix : ix (c :: r) 0 = c := rfl
    simp only [h0, h1, decide_true, decide_false, Bool.false_or, Bool.or_true, chk_t, hix, List.drop_zero]
    show (bif (decide (12 < (c :: r).length)) || (!isL c) then _ else _) = _
    simp only [nameB, List.all_cons, okC, List.length_cons]
    by_cases hlen : r.length < 12
    · have : ¬ 12 < r.length + 1 := by omega
      cases hL : isL c <;> cases hA : r.all okC <;> simp [this, hlen, hA]
    · have : 12 < r.length + 1 := by omega
      simp [this, hlen]
end
section
set_option maxRecDepth 4000
open Go
variable {n : Nat}
def byName (s : Str) (x : Task) : Bool := x.Name == s
def isS (s : Str) (x : Str) : Bool := x == s
theorem HasText2_eq (l : List Str) (s : Str) (hn : l.length < n) (hl : l.length < 9223372036854775807) : agraffebase_HasText_2 n l s = some (l.any (isS s)) := by
  rw [agraffebase_HasText_2, withK_eq, loop_any' (p := isS s) (fun back v hv => ?_) (fun back => ?_) n hn]
  · cases l.any (isS s) <;> rfl
  · rw [agraffebase_HasText_2_L1]; simp only [hv, decide_true, cond_true, nI_of (by omega : v + 1 ≤ 9223372036854775807), chk_t]; rfl
  · rw [agraffebase_HasText_2_L1]; simp
theorem isS_comm (s x : Str) : (s == x) = isS s x := by
  unfold isS
  rw [Bool.eq_iff_iff, beq_iff_eq, beq_iff_eq]
  exact eq_comm
theorem bif_id {x : Int} : (bif x != 0 then some x else some 0) = some x := by
  by_cases h : x = 0
  · simp [h]
  · rw [bne_t h]; rfl
end
section
set_option maxRecDepth 4000
open Go
variable {n : Nat}
theorem nodup_len {α : Type} [DecidableEq α] : ∀ (l m : List α), l.Nodup → (∀ x ∈ l, x ∈ m) → l.length ≤ m.length
  | [], _, _, _ => Nat.zero_le _
  | a :: l, m, h, hs => by
    have ha : a ∈ m := hs a (by simp)
    have h2 := List.nodup_cons.1 h
    have := nodup_len l (m.erase a) h2.2 fun x hx => (List.mem_erase_of_ne (by rintro rfl; exact h2.1 hx)).2 (hs x (by simp [hx]))
    rw [List.length_erase_of_mem ha] at this
    have hm := List.length_pos_of_mem ha
    simp only [List.length_cons]; omega
theorem any_byName {t : List Task} {s : Str} : t.any (byName s) = true ↔ ∃ x ∈ t, x.Name = s := by
  rw [List.any_eq_true]
  constructor
  · rintro ⟨x, hx, h⟩; exact ⟨x, hx, eq_of_beq h⟩
  · rintro ⟨x, hx, h⟩; exact ⟨x, hx, by simp [byName, h]⟩
def Inv (t : List Task) (out : List Str) : Prop := out.Nodup ∧ ∀ s ∈ out, t.any (byName s) = true
theorem Inv.len {t : List Task} {out : List Str} (h : Inv t out) : out.length ≤ t.length := by
  have := nodup_len out (t.map Task.Name) h.1 fun s hs => by
    obtain ⟨x, hx, rfl⟩ := any_byName.1 (h.2 s hs)
    exact List.mem_map.2 ⟨x, hx, rfl⟩
  simpa using this
theorem Inv.nil (t : List Task) : Inv t [] := ⟨List.nodup_nil, by simp⟩
end
section
set_option maxRecDepth 4000
open Go
end
section
set_option maxRecDepth 4000
open Go
variable {n : Nat}
@[simp] theorem gcall_t {α : Type} [Inhabited α] (x : Option α) : gcall true x = x := rfl
@[simp] theorem gcall_f {α : Type} [Inhabited α] (x : Option α) : gcall false x = some default := rfl
theorem set_ix {α : Type} [Inhabited α] {l : List α} {i : Nat} (h : i < l.length) : l.set i (ix l i) = l := by
  rw [ix_eq h]; exact List.set_getElem_self h
end
section
set_option maxRecDepth 4000
open Go
variable {n : Nat}
theorem ix_range {len v : Nat} (h : v < len) : ix (List.range len) v = v := by rw [ix_eq (by simpa using h)]; simp
theorem loop_anyN {R : Type} {len : Nat} {p : Nat → Bool} {F : (Nat → Option R) → Nat → Option R} {bad no : Option R}
    (h1 : ∀ back v, v < len → F back v = bif p v then bad else back (v + 1)) (h2 : ∀ back, F back len = no) (n : Nat) (hn : len < n) : loopN F n 0 = bif (List.range len).any p then bad else no :=
  loop_any' (l := List.range len) (fun back v hv => by rw [List.length_range] at hv; rw [h1 back v hv, ix_range hv]) (fun back => by rw [List.length_range]; exact h2 back) n (by simpa using hn)
theorem loop_anyI {R : Type} {len : Nat} {p : Nat → Bool} {F : (Int → Option R) → Int → Option R} {bad no : Option R}
    (h1 : ∀ back (v : Nat), v < len → F back (v : Int) = bif p v then bad else back ((v : Int) + 1)) (h2 : ∀ back (v : Nat), len ≤ v → F back (v : Int) = no) : ∀ n s : Nat, len - s < n → loopN F n (s : Int) = bif (List.range' s (len - s)).any p then bad else no := by
  intro n
  induction n with
  | zero => intro s h; omega
  | succ n ih =>
    intro s hn
    rw [loopN_s]
    by_cases h : s < len
    · rw [h1 _ s h, show len - s = (len - (s + 1)) + 1 by omega, List.range'_succ, List.any_cons]
      cases p s with
      | true => simp
      | false =>
        have e : (s : Int) + 1 = ((s + 1 : Nat) : Int) := by omega
        simp only [cond_false, Bool.false_or, e]
        exact ih (s + 1) (by omega)
    · rw [h2 _ s (by omega), show len - s = 0 by omega]
      rfl
structure OkW (w : List WantedPart) : Prop where
  len : w.length ≤ 43
  name : ∀ x ∈ w, x.Name.length ≤ 20
  rng : ∀ x ∈ w, x.Ranges.length ≤ 8
structure OkO (o : List OfferedPart) : Prop where
  len : o.length ≤ 43
  name : ∀ x ∈ o, x.Name.length ≤ 20
  siz : ∀ x ∈ o, x.Sizes.length ≤ 8
def badR (r : Range) : Bool := ((decide (r.Lo < (0 : Int))) || (decide (r.Hi < r.Lo))) || (decide ((1000000 : Int) < r.Hi))
def badS (x : Int) : Bool := !((decide (0 ≤ x)) && (decide (x ≤ 1000000)))
def few16 (l : Nat) : Bool := (decide (1 ≤ ((l : Nat) : Int))) && (decide (((l : Nat) : Int) ≤ 6))
def rngE (x : WantedPart) : Int := bif !few16 x.Ranges.length then 10 else bif x.Ranges.any badR then 2 else 0
def sizE (x : OfferedPart) : Int := bif !few16 x.Sizes.length then 10 else bif x.Sizes.any badS then 2 else 0
def wantE (w : List WantedPart) (v : Nat) : Int := bif !nameB (ix w v).Name then 4 else bif (w.take v).any (fun y => y.Name == (ix w v).Name) then 5 else rngE (ix w v)
def offE (w : List OfferedPart) (v : Nat) : Int := bif !nameB (ix w v).Name then 4 else bif (w.take v).any (fun y => y.Name == (ix w v).Name) then 5 else sizE (ix w v)
def wantC (w : List WantedPart) : Int := bif decide (40 < w.length) then 8 else firstE (wantE w) 0 w.length
def offC (w : List OfferedPart) : Int := bif decide (40 < w.length) then 8 else firstE (offE w) 0 w.length
def bothC (w : List WantedPart) (o : List OfferedPart) : Int := bif wantC w != 0 then wantC w else offC o
theorem lookup_mPut {β : Type} (x : Str) (v : β) (y : Str) : ∀ m : List (Str × β), List.lookup y (mPut x v m) = bif y == x then some v else List.lookup y m := by
  intro m
  induction m with
  | nil =>
    simp only [mPut, List.lookup]
    cases y == x <;> rfl
  | cons p m ih =>
    obtain ⟨k, u⟩ := p
    simp only [mPut]
    by_cases h : x = k
    · subst h
      simp only [beq_self_eq_true, List.lookup]
      cases y == x <;> rfl
    · have e : (x == k) = false := by simpa using h
      rw [e]
      simp only [List.lookup]
      cases hy : y == k
      · exact ih
      · have : y = k := eq_of_beq hy
        have : (y == x) = false := by rw [this]; simpa using Ne.symm h
        rw [this]; rfl
def mapOf (l : List Str) : List (Str × Bool) := l.foldl (fun m s => mPut s true m) []
theorem mapOf_snoc (l : List Str) (s : Str) : mapOf (l ++ [s]) = mPut s true (mapOf l) := by simp [mapOf]
theorem lookup_mapOf (s : Str) (l : List Str) : (List.lookup s (mapOf l)).getD false = l.any (isS s) := by
  have : ∀ k (l : List Str), l.length = k → (List.lookup s (mapOf l)).getD false = l.any (isS s) := by
    intro k
    induction k with
    | zero =>
      intro l hl
      rw [List.eq_nil_of_length_eq_zero hl]; rfl
    | succ k ih =>
      intro l hl
      have hne : l ≠ [] := by rintro rfl; simp at hl
      rw [← List.dropLast_concat_getLast hne, mapOf_snoc, lookup_mPut, List.any_append]
      have e := ih l.dropLast (by simp; omega)
      cases h : s == l.getLast hne
      · have : isS s (l.getLast hne) = false := by rw [← isS_comm]; exact h
        simp only [cond_false, List.any_cons, List.any_nil, this, Bool.or_false, e]
      · have : isS s (l.getLast hne) = true := by rw [← isS_comm]; exact h
        simp only [cond_true, List.any_cons, this, Option.getD_some, Bool.true_or, Bool.or_true]
  exact this _ l rfl
theorem ranges_res (x : WantedPart) (hx : x.Ranges.length ≤ 8) (hn : 1000 < n) : restore_checkRanges n x = some (rngE x) := by
  rw [restore_checkRanges, slices_ContainsFunc_Range, slices_IndexFunc_Range, withK_eq, loop_findI (l := x.Ranges) (p := badR) (fun back v hv => ?_) (fun back => ?_) n (by omega)]
  · simp only [restore_within, Option.bind_some, findI_any, rngE, few16]
    cases (decide (1 ≤ ((x.Ranges.length : Nat) : Int))) && (decide (((x.Ranges.length : Nat) : Int) ≤ 6)) <;> cases x.Ranges.any badR <;> rfl
  · rw [slices_IndexFunc_Range_L1]; simp only [hv, decide_true, cond_true, restore_checkRanges_f1, Option.bind_some, nI_of (by omega : v + 1 ≤ 9223372036854775807), chk_t]; rfl
  · rw [slices_IndexFunc_Range_L1]; simp
theorem sizes_res (x : OfferedPart) (hx : x.Sizes.length ≤ 8) (hn : 1000 < n) : restore_checkSizes n x = some (sizE x) := by
  rw [restore_checkSizes, slices_ContainsFunc_int, slices_IndexFunc_int, withK_eq, loop_findI (l := x.Sizes) (p := badS) (fun back v hv => ?_) (fun back => ?_) n (by omega)]
  · simp only [restore_within, Option.bind_some, findI_any, sizE, few16]
    cases (decide (1 ≤ ((x.Sizes.length : Nat) : Int))) && (decide (((x.Sizes.length : Nat) : Int) ≤ 6)) <;> cases x.Sizes.any badS <;> rfl
  · rw [slices_IndexFunc_int_L1]; simp only [hv, decide_true, cond_true, restore_checkSizes_f1, restore_within, Option.bind_some, nI_of (by omega : v + 1 ≤ 9223372036854775807), chk_t]; rfl
  · rw [slices_IndexFunc_int_L1]; simp
theorem wanted_res {w : List WantedPart} (h : OkW w) (hn : 1000 < n) : restore_named_WantedPart n w 40 = some (wantC w) := by
  have hlen := h.len
  rw [restore_named_WantedPart, wantC]
  by_cases hl : 40 < w.length
  · have : (40 : Int) < ((w.length : Nat) : Int) := by omega
    simp [hl, this]
  have hl2 : ¬ (40 : Int) < ((w.length : Nat) : Int) := by omega
  simp only [hl, hl2, decide_false, cond_false, withK_eq]
  have e0 : (0, ([] : List (Str × Bool))) = (fun v => (v, mapOf ((w.take v).map WantedPart.Name))) 0 := by simp [mapOf]
  rw [e0, loop_first (st := fun v => (v, mapOf ((w.take v).map WantedPart.Name))) (E := wantE w) (err := some) (k := some 0) (len := w.length) (fun back v hv _ => ?_) (fun back _ => ?_) n 0 (by omega) (by omega) (fun j h => by omega), Nat.sub_zero, bif_id]
  · rw [restore_named_WantedPart_L1]
    have h1 := h.name _ (ix_mem hv)
    have h2 := h.rng _ (ix_mem hv)
    have hmap : ((w.take v).map WantedPart.Name).any (isS (ix w v).Name) = (w.take v).any (fun y => y.Name == (ix w v).Name) := by
      rw [List.any_map]; rfl
    simp only [hv, decide_true, cond_true, restore_checkBoth_f1, isName_eq (ix w v).Name n (by omega) (by omega), Option.bind_some, lookup_mapOf, hmap, ranges_res (ix w v) h2 hn, nI_of (by omega : v + 1 ≤ 9223372036854775807), chk_t, wantE]
    rw [List.take_succ_eq_append_getElem hv, List.map_append, List.map_cons, List.map_nil, mapOf_snoc, ← ix_eq hv]
    cases nameB (ix w v).Name <;> cases (w.take v).any (fun y => y.Name == (ix w v).Name) <;> rfl
  · rw [restore_named_WantedPart_L1]
    simp
theorem offered_res {w : List OfferedPart} (h : OkO w) (hn : 1000 < n) : restore_named_OfferedPart n w 40 = some (offC w) := by
  have hlen := h.len
  rw [restore_named_OfferedPart, offC]
  by_cases hl : 40 < w.length
  · have : (40 : Int) < ((w.length : Nat) : Int) := by omega
    simp [hl, this]
  have hl2 : ¬ (40 : Int) < ((w.length : Nat) : Int) := by omega
  simp only [hl, hl2, decide_false, cond_false, withK_eq]
  have e0 : (0, ([] : List (Str × Bool))) = (fun v => (v, mapOf ((w.take v).map OfferedPart.Name))) 0 := by simp [mapOf]
  rw [e0, loop_first (st := fun v => (v, mapOf ((w.take v).map OfferedPart.Name))) (E := offE w) (err := some) (k := some 0) (len := w.length) (fun back v hv _ => ?_) (fun back _ => ?_) n 0 (by omega) (by omega) (fun j h => by omega), Nat.sub_zero, bif_id]
  · rw [restore_named_OfferedPart_L1]
    have h1 := h.name _ (ix_mem hv)
    have h2 := h.siz _ (ix_mem hv)
    have hmap : ((w.take v).map OfferedPart.Name).any (isS (ix w v).Name) = (w.take v).any (fun y => y.Name == (ix w v).Name) := by
      rw [List.any_map]; rfl
    simp only [hv, decide_true, cond_true, restore_checkBoth_f2, isName_eq (ix w v).Name n (by omega) (by omega), Option.bind_some, lookup_mapOf, hmap, sizes_res (ix w v) h2 hn, nI_of (by omega : v + 1 ≤ 9223372036854775807), chk_t, offE]
    rw [List.take_succ_eq_append_getElem hv, List.map_append, List.map_cons, List.map_nil, mapOf_snoc, ← ix_eq hv]
    cases nameB (ix w v).Name <;> cases (w.take v).any (fun y => y.Name == (ix w v).Name) <;> rfl
  · rw [restore_named_OfferedPart_L1]
    simp
theorem both_res {w : List WantedPart} {o : List OfferedPart} (hw : OkW w) (ho : OkO o) (hn : 1000 < n) : restore_checkBoth n w o = some (bothC w o) := by
  rw [restore_checkBoth, wanted_res hw hn, offered_res ho hn, bothC]
  simp only [Option.bind_some]
  cases wantC w != 0 <;> rfl
theorem wanted_ref {w : List WantedPart} (h : OkW w) (hn : 1000 < n) : agrafferef08_CheckWanted n w = some (wantC w) := by
  have hlen := h.len
  rw [agrafferef08_CheckWanted, wantC]
  by_cases hl : 40 < w.length
  · simp [hl]
  simp only [hl, decide_false, cond_false, withK_eq]
  have e0 : (([] : List Str), 0) = (fun v => ((w.take v).map WantedPart.Name, v)) 0 := by simp
  rw [e0, loop_first (st := fun v => ((w.take v).map WantedPart.Name, v)) (E := wantE w) (err := some) (k := some 0) (len := w.length) (fun back v hv _ => ?_) (fun back _ => ?_) n 0 (by omega) (by omega) (fun j h => by omega), Nat.sub_zero, bif_id]
  · rw [agrafferef08_CheckWanted_L2]
    have h1 := h.name _ (ix_mem hv)
    have h2 := h.rng _ (ix_mem hv)
    have hmap : ((w.take v).map WantedPart.Name).any (isS (ix w v).Name) = (w.take v).any (fun y => y.Name == (ix w v).Name) := by
      rw [List.any_map]; rfl
    have hloop : ∀ k : Option Int, loopN (agrafferef08_CheckWanted_L1 n w v fun _ => k) n 0 = bif (ix w v).Ranges.any badR then some 2 else k := by
      intro k
      refine loop_any' (l := (ix w v).Ranges) (p := badR) (fun back' v' hv' => ?_) (fun back' => ?_) n (by omega)
      · rw [agrafferef08_CheckWanted_L1]
        have e : ((!((decide (0 ≤ ((ix ((ix w v).Ranges) v').Lo))) && (decide (((ix ((ix w v).Ranges) v').Lo) ≤ ((ix ((ix w v).Ranges) v').Hi))))) || (decide ((1000000 : Int) < ((ix ((ix w v).Ranges) v').Hi)))) = badR (ix (ix w v).Ranges v') := by
          simp only [badR, Bool.not_and, ← decide_not, Int.not_le]
        simp only [hv', decide_true, cond_true, chk_t, agraffebase_Within, Option.bind_some, e, nI_of (by omega : v' + 1 ≤ 9223372036854775807)]
      · rw [agrafferef08_CheckWanted_L1]
        simp
    simp only [hv, decide_true, cond_true, withK_eq, IsName_eq (ix w v).Name n (by omega) (by omega), Option.bind_some, HasText2_eq (n := n) ((w.take v).map WantedPart.Name) (ix w v).Name (by simp; omega) (by simp; omega), hmap, agraffebase_Within, nI_of (by omega : v + 1 ≤ 9223372036854775807), chk_t, wantE, rngE, few16, hloop]
    rw [chk_of (room_of (by simp; omega) (by simp; omega)), List.take_succ_eq_append_getElem hv, List.map_append, List.map_cons, List.map_nil, ← ix_eq hv]
    cases nameB (ix w v).Name <;> cases (w.take v).any (fun y => y.Name == (ix w v).Name) <;> cases (decide (1 ≤ (((ix w v).Ranges.length : Nat) : Int))) && (decide ((((ix w v).Ranges.length : Nat) : Int) ≤ 6)) <;> cases (ix w v).Ranges.any badR <;> rfl
  · rw [agrafferef08_CheckWanted_L2]
    simp
theorem offered_ref {w : List OfferedPart} (h : OkO w) (hn : 1000 < n) : agrafferef08_CheckOffered n w = some (offC w) := by
  have hlen := h.len
  rw [agrafferef08_CheckOffered, offC]
  by_cases hl : 40 < w.length
  · simp [hl]
  simp only [hl, decide_false, cond_false, withK_eq]
  have e0 : (([] : List Str), 0) = (fun v => ((w.take v).map OfferedPart.Name, v)) 0 := by simp
  rw [e0, loop_first (st := fun v => ((w.take v).map OfferedPart.Name, v)) (E := offE w) (err := some) (k := some 0) (len := w.length) (fun back v hv _ => ?_) (fun back _ => ?_) n 0 (by omega) (by omega) (fun j h => by omega), Nat.sub_zero, bif_id]
  · rw [agrafferef08_CheckOffered_L2]
    have h1 := h.name _ (ix_mem hv)
    have h2 := h.siz _ (ix_mem hv)
    have hmap : ((w.take v).map OfferedPart.Name).any (isS (ix w v).Name) = (w.take v).any (fun y => y.Name == (ix w v).Name) := by
      rw [List.any_map]; rfl
    have hloop : ∀ k : Option Int, loopN (agrafferef08_CheckOffered_L1 n w v fun _ => k) n 0 = bif (ix w v).Sizes.any badS then some 2 else k := by
      intro k
      refine loop_any' (l := (ix w v).Sizes) (p := badS) (fun back' v' hv' => ?_) (fun back' => ?_) n (by omega)
      · rw [agrafferef08_CheckOffered_L1]
        simp only [hv', decide_true, cond_true, chk_t, agraffebase_Within, Option.bind_some, nI_of (by omega : v' + 1 ≤ 9223372036854775807)]
        rfl
      · rw [agrafferef08_CheckOffered_L1]
        simp
    simp only [hv, decide_true, cond_true, withK_eq, IsName_eq (ix w v).Name n (by omega) (by omega), Option.bind_some, HasText2_eq (n := n) ((w.take v).map OfferedPart.Name) (ix w v).Name (by simp; omega) (by simp; omega), hmap, agraffebase_Within, nI_of (by omega : v + 1 ≤ 9223372036854775807), chk_t, offE, sizE, few16, hloop]
    rw [chk_of (room_of (by simp; omega) (by simp; omega)), List.take_succ_eq_append_getElem hv, List.map_append, List.map_cons, List.map_nil, ← ix_eq hv]
    cases nameB (ix w v).Name <;> cases (w.take v).any (fun y => y.Name == (ix w v).Name) <;> cases (decide (1 ≤ (((ix w v).Sizes.length : Nat) : Int))) && (decide ((((ix w v).Sizes.length : Nat) : Int) ≤ 6)) <;> cases (ix w v).Sizes.any badS <;> rfl
  · rw [agrafferef08_CheckOffered_L2]
    simp
theorem both_ref {w : List WantedPart} {o : List OfferedPart} (hw : OkW w) (ho : OkO o) (hn : 1000 < n) : agrafferef08_CheckBoth n w o = some (bothC w o) := by
  rw [agrafferef08_CheckBoth, wanted_ref hw hn, offered_ref ho hn, bothC]
  simp only [Option.bind_some]
  cases wantC w != 0 <;> rfl
def fitsB (w : WantedPart) (o : OfferedPart) : Bool := decide (w.Ranges.length = o.Sizes.length) && !(List.range w.Ranges.length).any fun v => !((decide ((ix w.Ranges v).Lo ≤ ix o.Sizes v)) && (decide (ix o.Sizes v ≤ (ix w.Ranges v).Hi)))
theorem fits_res (w : WantedPart) (o : OfferedPart) (hw : w.Ranges.length ≤ 8) (hn : 1000 < n) : restore_fits n w o = some (fitsB w o) := by
  rw [restore_fits, fitsB]
  by_cases h : w.Ranges.length = o.Sizes.length
  · simp only [h, decide_true, Bool.not_true, cond_false, withK_eq, Bool.true_and]
    rw [loop_anyN (len := o.Sizes.length) (p := fun v => !((decide ((ix w.Ranges v).Lo ≤ ix o.Sizes v)) && (decide (ix o.Sizes v ≤ (ix w.Ranges v).Hi)))) (bad := some false) (no := some true) (fun back v hv => ?_) (fun back => ?_) n (by omega)]
    · cases (List.range o.Sizes.length).any fun v => !((decide ((ix w.Ranges v).Lo ≤ ix o.Sizes v)) && (decide (ix o.Sizes v ≤ (ix w.Ranges v).Hi))) <;> rfl
    · rw [restore_fits_L1]
      simp only [h, hv, decide_true, cond_true, chk_t, restore_within, Option.bind_some, nI_of (by omega : v + 1 ≤ 9223372036854775807)]
    · rw [restore_fits_L1]
      simp [h]
  · simp [h]
theorem fits_ref (w : WantedPart) (o : OfferedPart) (hw : w.Ranges.length ≤ 8) (hn : 1000 < n) : agrafferef08_Fits n w o = some (fitsB w o) := by
  rw [agrafferef08_Fits, fitsB]
  by_cases h : w.Ranges.length = o.Sizes.length
  · simp only [h, decide_true, Bool.not_true, cond_false, withK_eq, Bool.true_and]
    rw [loop_anyN (len := o.Sizes.length) (p := fun v => !((decide ((ix w.Ranges v).Lo ≤ ix o.Sizes v)) && (decide (ix o.Sizes v ≤ (ix w.Ranges v).Hi)))) (bad := some false) (no := some true) (fun back v hv => ?_) (fun back => ?_) n (by omega)]
    · cases (List.range o.Sizes.length).any fun v => !((decide ((ix w.Ranges v).Lo ≤ ix o.Sizes v)) && (decide (ix o.Sizes v ≤ (ix w.Ranges v).Hi))) <;> rfl
    · rw [agrafferef08_Fits_L1]
      simp only [h, hv, decide_true, cond_true, chk_t, agraffebase_Within, Option.bind_some, nI_of (by omega : v + 1 ≤ 9223372036854775807)]
    · rw [agrafferef08_Fits_L1]
      simp
  · simp [h]
def isI (s x : Int) : Bool := x == s
theorem isI_comm (s x : Int) : (s == x) = isI s x := by
  unfold isI
  rw [Bool.eq_iff_iff, beq_iff_eq, beq_iff_eq]
  exact eq_comm
theorem any_isI {l : List Int} {s : Int} : l.any (isI s) = true ↔ s ∈ l := by
  rw [List.any_eq_true]
  constructor
  · rintro ⟨x, hx, h⟩; rw [← eq_of_beq h]; exact hx
  · exact fun h => ⟨s, h, by simp [isI]⟩
theorem Has_eq (l : List Int) (s : Int) (hl : l.length ≤ 900) (hn : 1000 < n) : agraffebase_Has n l s = some (l.any (isI s)) := by
  rw [agraffebase_Has, withK_eq, loop_any' (l := l) (p := isI s) (fun back v hv => ?_) (fun back => ?_) n (by omega)]
  · cases l.any (isI s) <;> rfl
  · rw [agraffebase_Has_L1]; simp only [hv, decide_true, cond_true, nI_of (by omega : v + 1 ≤ 9223372036854775807), chk_t]; rfl
  · rw [agraffebase_Has_L1]; simp
theorem ContainsI_eq (l : List Int) (s : Int) (hl : l.length ≤ 900) (hn : 1000 < n) : slices_Contains_int n l s = some (l.any (isI s)) := by
  rw [slices_Contains_int, slices_Index_int, withK_eq, loop_findI (l := l) (p := isI s) (fun back v hv => ?_) (fun back => ?_) n (by omega)]
  · simp only [Option.bind_some, findI_any]
  · rw [slices_Index_int_L1]; simp only [hv, decide_true, cond_true, nI_of (by omega : v + 1 ≤ 9223372036854775807), chk_t, isI_comm]
  · rw [slices_Index_int_L1]; simp
def outI (len : Nat) (x : Int) : Bool := !((decide (0 ≤ x)) && (decide (x ≤ (((len : Nat) : Int) - 1))))
theorem outI_ok {len : Nat} {x : Int} (h : outI len x = false) : 0 ≤ x ∧ x.toNat < len := by
  unfold outI at h
  simp only [Bool.not_eq_false', Bool.and_eq_true, decide_eq_true_eq] at h
  omega
def matE (w : List WantedPart) (o : List OfferedPart) (m : List Int) (v : Nat) : Int :=
  bif ix m v == (-1 : Int) then 0 else bif outI o.length (ix m v) then 6 else bif !fitsB (ix w v) (ix o (ix m v).toNat) then 15 else bif (m.take v).any (isI (ix m v)) then 17 else 0
def cntM (m : List Int) : Nat := m.countP (fun x => !(x == (-1 : Int)))
theorem cntM_take {m : List Int} {v : Nat} (h : v < m.length) : cntM (m.take (v + 1)) = cntM (m.take v) + bif ix m v == (-1 : Int) then 0 else 1 := by
  unfold cntM
  rw [List.take_succ_eq_append_getElem h, List.countP_append, ix_eq h]
  by_cases hm : m[v] = (-1 : Int)
  · simp [hm]
  · have : (m[v] == (-1 : Int)) = false := by simpa using hm
    simp [this]
theorem cntM_le (m : List Int) : cntM m ≤ m.length := List.countP_le_length
def matR (w : List WantedPart) (o : List OfferedPart) (m : List Int) : Int × Int :=
  bif !decide (m.length = w.length) then (10, 0) else bif firstE (matE w o m) 0 m.length != 0 then (firstE (matE w o m) 0 m.length, 0) else (0, ((cntM m : Nat) : Int))
theorem match_res {w : List WantedPart} {o : List OfferedPart} {m : List Int} (hw : OkW w) (ho : OkO o) (hn : 1000 < n) : restore_CheckMatch n w o m = some (bif bothC w o != 0 then (bothC w o, 0) else matR w o m) := by
  have hlw := hw.len
  have hlo := ho.len
  rw [restore_CheckMatch, both_res hw ho hn, matR]
  simp only [Option.bind_some]
  cases bothC w o != 0
  · by_cases hl : m.length = w.length
    · simp only [hl, decide_true, Bool.not_true, cond_false, withK_eq]
      have e0 : ((0 : Nat), 0) = (fun v => (cntM (m.take v), v)) 0 := by simp [cntM]
      rw [e0, loop_first (st := fun v => (cntM (m.take v), v)) (E := matE w o m) (err := fun e => some (e, 0)) (k := some (0, ((cntM m : Nat) : Int))) (len := m.length) (fun back v hv _ => ?_) (fun back _ => ?_) n 0 (by omega) (by omega) (fun j h => by omega), Nat.sub_zero, hl]
      · cases firstE (matE w o m) 0 w.length != 0 <;> rfl
      · rw [restore_CheckMatch_L1]
        have hv2 : v < w.length := by omega
        have hc := cntM_le (m.take v)
        have hc2 : (m.take v).length ≤ 43 := by simp; omega
        have hr := hw.rng _ (ix_mem hv2)
        have hle : v ≤ m.length := by omega
        simp only [hv, hv2, hle, decide_true, cond_true, withK_eq, restore_within, Option.bind_some, chk_t, nI_of (by omega : v + 1 ≤ 9223372036854775807), nI_of (by omega : cntM (m.take v) + 1 ≤ 9223372036854775807), fits_res (n := n) (ix w v) (ix o (ix m v).toNat) hr hn, ContainsI_eq (n := n) (m.take v) (ix m v) (by omega) hn, cntM_take hv]
        rw [chk_of (inI_of (by omega) (by omega))]
        have e : (!((decide (0 ≤ ix m v)) && (decide (ix m v ≤ (((o.length : Nat) : Int) - 1))))) = outI o.length (ix m v) := rfl
        rw [e]
        unfold matE
        cases ix m v == (-1 : Int)
        · cases hb : outI o.length (ix m v)
          · obtain ⟨b1, b2⟩ := outI_ok hb
            simp only [cond_false, inB_of b1 b2, chk_t, b2, decide_true]
            cases fitsB (ix w v) (ix o (ix m v).toNat) <;> cases (m.take v).any (isI (ix m v)) <;> rfl
          · rfl
        · rfl
      · rw [restore_CheckMatch_L1]
        simp
    · simp [hl]
  · rfl
theorem match_ref {w : List WantedPart} {o : List OfferedPart} {m : List Int} (hw : OkW w) (ho : OkO o) (hn : 1000 < n) : agrafferef08_CheckMatch n w o m = some (matR w o m) := by
  have hlw := hw.len
  have hlo := ho.len
  rw [agrafferef08_CheckMatch, matR]
  by_cases hl : m.length = w.length
  · simp only [hl, decide_true, Bool.not_true, cond_false, withK_eq]
    have e0 : ((0 : Nat), 0) = (fun v => (cntM (m.take v), v)) 0 := by simp [cntM]
    rw [e0, loop_first (st := fun v => (cntM (m.take v), v)) (E := matE w o m) (err := fun e => some (e, 0)) (k := some (0, ((cntM m : Nat) : Int))) (len := m.length) (fun back v hv _ => ?_) (fun back _ => ?_) n 0 (by omega) (by omega) (fun j h => by omega), Nat.sub_zero, hl]
    · cases firstE (matE w o m) 0 w.length != 0 <;> rfl
    · rw [agrafferef08_CheckMatch_L1]
      have hv2 : v < w.length := by omega
      have hc := cntM_le (m.take v)
      have hc2 : (m.take v).length ≤ 43 := by simp; omega
      have hr := hw.rng _ (ix_mem hv2)
      have hle : v ≤ m.length := by omega
      simp only [hv, hv2, hle, decide_true, cond_true, withK_eq, agraffebase_Within, Option.bind_some, chk_t, nI_of (by omega : v + 1 ≤ 9223372036854775807), nI_of (by omega : cntM (m.take v) + 1 ≤ 9223372036854775807), fits_ref (n := n) (ix w v) (ix o (ix m v).toNat) hr hn, Has_eq (n := n) (m.take v) (ix m v) (by omega) hn, cntM_take hv]
      rw [chk_of (inI_of (by omega) (by omega))]
      have e : (!((decide (0 ≤ ix m v)) && (decide (ix m v ≤ (((o.length : Nat) : Int) - 1))))) = outI o.length (ix m v) := rfl
      rw [e]
      unfold matE
      cases ix m v == (-1 : Int)
      · cases hb : outI o.length (ix m v)
        · obtain ⟨b1, b2⟩ := outI_ok hb
          simp only [cond_false, inB_of b1 b2, chk_t, b2, decide_true]
          cases fitsB (ix w v) (ix o (ix m v).toNat) <;> cases (m.take v).any (isI (ix m v)) <;> rfl
        · rfl
      · rfl
    · rw [agrafferef08_CheckMatch_L1]
      simp
  · simp [hl]
end
section
set_option maxRecDepth 4000
open Go
variable {n : Nat}
def desc (l : List Int) (v : Nat) : Bool := decide (ix l v ≤ ix l (v - 1))
def gap (w : List WantedPart) (o : List OfferedPart) (c : Arr2_ListInt) (i k : Nat) : Bool := (fitsB (ix w i) (ix o k) && !c.a0.any (isI (i : Int))) && !c.a1.any (isI (k : Int))
def covR (w : List WantedPart) (o : List OfferedPart) (c : Arr2_ListInt) : Int × Int :=
  bif c.a0.any (outI w.length) then (6, 0) else bif c.a1.any (outI o.length) then (6, 0)
  else bif (List.range' 1 (c.a0.length - 1)).any (desc c.a0) then (9, 0) else bif (List.range' 1 (c.a1.length - 1)).any (desc c.a1) then (9, 0)
  else bif (List.range' 0 (w.length - 0)).any (fun i => (List.range' 0 (o.length - 0)).any (gap w o c i)) then (14, 0)
  else (0, ((c.a0.length + c.a1.length : Nat) : Int))
theorem toNat_sub_one {v : Nat} : (((v : Nat) : Int) - 1).toNat = v - 1 := by omega
theorem out_res (l : List Int) (len : Nat) (hl : l.length ≤ 900) (hlen : len ≤ 900) (hn : 1000 < n) : slices_ContainsFunc_int_2 n l ((len : Nat) : Int) = some (l.any (outI len)) := by
  rw [slices_ContainsFunc_int_2, slices_IndexFunc_int_2, withK_eq, loop_findI (l := l) (p := outI len) (fun back v hv => ?_) (fun back => ?_) n (by omega)]
  · simp only [Option.bind_some, findI_any]
  · rw [slices_IndexFunc_int_2_L1]
    simp only [hv, decide_true, cond_true, restore_CheckCover_f1, restore_within, Option.bind_some, chk_of (inI_of (by omega : -9223372036854775808 ≤ ((len : Nat) : Int) - 1) (by omega)), nI_of (by omega : v + 1 ≤ 9223372036854775807), chk_t]
    rfl
  · rw [slices_IndexFunc_int_2_L1]; simp
theorem cover_res {w : List WantedPart} {o : List OfferedPart} {c : Arr2_ListInt} (hw : OkW w) (ho : OkO o) (h0 : c.a0.length ≤ 50) (h1 : c.a1.length ≤ 50) (hn : 1000 < n) : restore_CheckCover n w o c = some (bif bothC w o != 0 then (bothC w o, 0) else covR w o c) := by
  have hlw := hw.len
  have hlo := ho.len
  rw [restore_CheckCover, both_res hw ho hn]
  simp only [Option.bind_some, withK_eq, out_res (n := n) c.a0 w.length (by omega) (by omega) hn, out_res (n := n) c.a1 o.length (by omega) (by omega) hn]
  have l3 : ∀ (i : Nat) (k : Option (Int × Int)), i < w.length → loopN (restore_CheckCover_L3 n w o c ((i : Nat) : Int) fun _ => k) n 0 = bif (List.range' 0 (o.length - 0)).any (gap w o c i) then some (14, 0) else k := by
    intro i k hi
    refine loop_anyI (len := o.length) (p := gap w o c i) (bad := some (14, 0)) (no := k) (fun back v hv => ?_) (fun back v hv => ?_) n 0 (by omega)
    · rw [restore_CheckCover_L3]
      have hv' : ((v : Nat) : Int) < ((o.length : Nat) : Int) := by omega
      have hr := hw.rng _ (ix_mem hi)
      simp only [hv', hv, inB_of (q := ((v : Nat) : Int)) (n := o.length) (by omega) (by omega), chk_t, Int.toNat_natCast, decide_true, cond_true, fits_res (n := n) (ix w i) (ix o v) hr hn, ContainsI_eq (n := n) c.a0 ((i : Nat) : Int) (by omega) hn, ContainsI_eq (n := n) c.a1 ((v : Nat) : Int) (by omega) hn, gcall_some_, Option.bind_some, inI_of (n := ((v : Nat) : Int) + 1) (by omega) (by omega), gap]
      cases fitsB (ix w i) (ix o v) <;> cases c.a0.any (isI (i : Int)) <;> cases c.a1.any (isI (v : Int)) <;> rfl
    · rw [restore_CheckCover_L3]
      have hv' : ¬ ((v : Nat) : Int) < ((o.length : Nat) : Int) := by omega
      simp [hv']
  have l4 : ∀ (k : Option (Int × Int)), loopN (restore_CheckCover_L4 n w o c fun _ => k) n 0 = bif (List.range' 0 (w.length - 0)).any (fun i => (List.range' 0 (o.length - 0)).any (gap w o c i)) then some (14, 0) else k := by
    intro k
    refine loop_anyI (len := w.length) (p := fun i => (List.range' 0 (o.length - 0)).any (gap w o c i)) (bad := some (14, 0)) (no := k) (fun back v hv => ?_) (fun back v hv => ?_) n 0 (by omega)
    · rw [restore_CheckCover_L4]
      have hv' : ((v : Nat) : Int) < ((w.length : Nat) : Int) := by omega
      simp only [hv', hv, inB_of (q := ((v : Nat) : Int)) (n := w.length) (by omega) (by omega), chk_t, Int.toNat_natCast, decide_true, cond_true, withK_eq, l3 v _ hv, inI_of (n := ((v : Nat) : Int) + 1) (by omega) (by omega)]
    · rw [restore_CheckCover_L4]
      have hv' : ¬ ((v : Nat) : Int) < ((w.length : Nat) : Int) := by omega
      simp [hv']
  have l2 : ∀ (k : Option (Int × Int)), loopN (restore_CheckCover_L2 c fun _ => k) n 1 = bif (List.range' 1 (c.a1.length - 1)).any (desc c.a1) then some (9, 0) else k := by
    intro k
    have hF : ∀ (back : Int → Option (Int × Int)) (v : Nat), v < c.a1.length → 1 ≤ v → restore_CheckCover_L2 c (fun _ => k) back ((v : Nat) : Int) = bif desc c.a1 v then some (9, 0) else back (((v : Nat) : Int) + 1) := by
      intro back v hv h1v
      rw [restore_CheckCover_L2]
      have hv' : ((v : Nat) : Int) < ((c.a1.length : Nat) : Int) := by omega
      have hv2 : v - 1 < c.a1.length := by omega
      simp only [hv', hv, hv2, inB_of (q := ((v : Nat) : Int)) (n := c.a1.length) (by omega) (by omega), inB_of (q := ((v : Nat) : Int) - 1) (n := c.a1.length) (by omega) (by omega), chk_t, Int.toNat_natCast, toNat_sub_one, decide_true, cond_true, inI_of (n := ((v : Nat) : Int) + 1) (by omega) (by omega), inI_of (n := ((v : Nat) : Int) - 1) (by omega) (by omega), desc]
    have e : ∀ m s : Nat, 1 ≤ s → c.a1.length - s < m → loopN (restore_CheckCover_L2 c fun _ => k) m ((s : Nat) : Int) = bif (List.range' s (c.a1.length - s)).any (desc c.a1) then some (9, 0) else k := by
      intro m
      induction m with
      | zero => intro s _ h; omega
      | succ m ih =>
        intro s hs hm
        rw [loopN_s]
        by_cases h : s < c.a1.length
        · rw [hF _ s h hs, show c.a1.length - s = (c.a1.length - (s + 1)) + 1 by omega, List.range'_succ, List.any_cons]
          cases desc c.a1 s with
          | true => simp
          | false =>
            have e : (s : Int) + 1 = ((s + 1 : Nat) : Int) := by omega
            simp only [cond_false, Bool.false_or, e]
            exact ih (s + 1) (by omega) (by omega)
        · rw [show c.a1.length - s = 0 by omega, restore_CheckCover_L2]
          have hv' : ¬ ((s : Nat) : Int) < ((c.a1.length : Nat) : Int) := by omega
          simp [hv']
    exact e n 1 (by omega) (by omega)
  have l1 : ∀ (k : Option (Int × Int)), loopN (restore_CheckCover_L1 c fun _ => k) n 1 = bif (List.range' 1 (c.a0.length - 1)).any (desc c.a0) then some (9, 0) else k := by
    intro k
    have hF : ∀ (back : Int → Option (Int × Int)) (v : Nat), v < c.a0.length → 1 ≤ v → restore_CheckCover_L1 c (fun _ => k) back ((v : Nat) : Int) = bif desc c.a0 v then some (9, 0) else back (((v : Nat) : Int) + 1) := by
      intro back v hv h1v
      rw [restore_CheckCover_L1]
      have hv' : ((v : Nat) : Int) < ((c.a0.length : Nat) : Int) := by omega
      have hv2 : v - 1 < c.a0.length := by omega
      simp only [hv', hv, hv2, inB_of (q := ((v : Nat) : Int)) (n := c.a0.length) (by omega) (by omega), inB_of (q := ((v : Nat) : Int) - 1) (n := c.a0.length) (by omega) (by omega), chk_t, Int.toNat_natCast, toNat_sub_one, decide_true, cond_true, inI_of (n := ((v : Nat) : Int) + 1) (by omega) (by omega), inI_of (n := ((v : Nat) : Int) - 1) (by omega) (by omega), desc]
    have e : ∀ m s : Nat, 1 ≤ s → c.a0.length - s < m → loopN (restore_CheckCover_L1 c fun _ => k) m ((s : Nat) : Int) = bif (List.range' s (c.a0.length - s)).any (desc c.a0) then some (9, 0) else k := by
      intro m
      induction m with
      | zero => intro s _ h; omega
      | succ m ih =>
        intro s hs hm
        rw [loopN_s]
        by_cases h : s < c.a0.length
        · rw [hF _ s h hs, show c.a0.length - s = (c.a0.length - (s + 1)) + 1 by omega, List.range'_succ, List.any_cons]
          cases desc c.a0 s with
          | true => simp
          | false =>
            have e : (s : Int) + 1 = ((s + 1 : Nat) : Int) := by omega
            simp only [cond_false, Bool.false_or, e]
            exact ih (s + 1) (by omega) (by omega)
        · rw [show c.a0.length - s = 0 by omega, restore_CheckCover_L1]
          have hv' : ¬ ((s : Nat) : Int) < ((c.a0.length : Nat) : Int) := by omega
          simp [hv']
    exact e n 1 (by omega) (by omega)
  rw [l1, l2, l4, chk_of (nI_of (by omega))]
  unfold covR
  cases bothC w o != 0
  · cases c.a0.any (outI w.length)
    · cases c.a1.any (outI o.length)
      · cases (List.range' 1 (c.a0.length - 1)).any (desc c.a0)
        · cases (List.range' 1 (c.a1.length - 1)).any (desc c.a1)
          · cases (List.range' 0 (w.length - 0)).any (fun i => (List.range' 0 (o.length - 0)).any (gap w o c i)) <;> rfl
          · rfl
        · rfl
      · rfl
    · rfl
  · rfl
theorem cover_ref {w : List WantedPart} {o : List OfferedPart} {c : Arr2_ListInt} (hw : OkW w) (ho : OkO o) (h0 : c.a0.length ≤ 50) (h1 : c.a1.length ≤ 50) (hn : 1000 < n) : agrafferef08_CheckCover n w o c = some (covR w o c) := by
  have hlw := hw.len
  have hlo := ho.len
  rw [agrafferef08_CheckCover]
  simp only [withK_eq]
  have l5 : ∀ (i : Nat) (k : Option (Int × Int)), i < w.length → loopN (agrafferef08_CheckCover_L5 n w o c ((i : Nat) : Int) fun _ => k) n 0 = bif (List.range' 0 (o.length - 0)).any (gap w o c i) then some (14, 0) else k := by
    intro i k hi
    refine loop_anyI (len := o.length) (p := gap w o c i) (bad := some (14, 0)) (no := k) (fun back v hv => ?_) (fun back v hv => ?_) n 0 (by omega)
    · rw [agrafferef08_CheckCover_L5]
      have hv' : ((v : Nat) : Int) < ((o.length : Nat) : Int) := by omega
      have hr := hw.rng _ (ix_mem hi)
      simp only [hv', hv, hi, inB_of (q := ((v : Nat) : Int)) (n := o.length) (by omega) (by omega), inB_of (q := ((i : Nat) : Int)) (n := w.length) (by omega) (by omega), chk_t, Int.toNat_natCast, decide_true, cond_true, fits_ref (n := n) (ix w i) (ix o v) hr hn, Has_eq (n := n) c.a0 ((i : Nat) : Int) (by omega) hn, Has_eq (n := n) c.a1 ((v : Nat) : Int) (by omega) hn, gcall_some_, Option.bind_some, inI_of (n := ((v : Nat) : Int) + 1) (by omega) (by omega), gap]
      cases fitsB (ix w i) (ix o v) <;> cases c.a0.any (isI (i : Int)) <;> cases c.a1.any (isI (v : Int)) <;> rfl
    · rw [agrafferef08_CheckCover_L5]
      have hv' : ¬ ((v : Nat) : Int) < ((o.length : Nat) : Int) := by omega
      simp [hv']
  have l6 : ∀ (k : Option (Int × Int)), loopN (agrafferef08_CheckCover_L6 n w o c fun _ => k) n 0 = bif (List.range' 0 (w.length - 0)).any (fun i => (List.range' 0 (o.length - 0)).any (gap w o c i)) then some (14, 0) else k := by
    intro k
    refine loop_anyI (len := w.length) (p := fun i => (List.range' 0 (o.length - 0)).any (gap w o c i)) (bad := some (14, 0)) (no := k) (fun back v hv => ?_) (fun back v hv => ?_) n 0 (by omega)
    · rw [agrafferef08_CheckCover_L6]
      have hv' : ((v : Nat) : Int) < ((w.length : Nat) : Int) := by omega
      simp only [hv', hv, chk_t, decide_true, cond_true, withK_eq, l5 v _ hv, inI_of (n := ((v : Nat) : Int) + 1) (by omega) (by omega)]
    · rw [agrafferef08_CheckCover_L6]
      have hv' : ¬ ((v : Nat) : Int) < ((w.length : Nat) : Int) := by omega
      simp [hv']
  have asc : ∀ (l : List Int) (k : Option (Int × Int)) (F : (Int → Option (Int × Int)) → Int → Option (Int × Int)), l.length ≤ 50 →
      (∀ (back : Int → Option (Int × Int)) (v : Nat), v < l.length → 1 ≤ v → F back ((v : Nat) : Int) = bif desc l v then some (9, 0) else back (((v : Nat) : Int) + 1)) →
      (∀ (back : Int → Option (Int × Int)) (v : Nat), l.length ≤ v → F back ((v : Nat) : Int) = k) → loopN F n 1 = bif (List.range' 1 (l.length - 1)).any (desc l) then some (9, 0) else k := by
    intro l k F hl hF hE
    have e : ∀ m s : Nat, 1 ≤ s → l.length - s < m → loopN F m ((s : Nat) : Int) = bif (List.range' s (l.length - s)).any (desc l) then some (9, 0) else k := by
      intro m
      induction m with
      | zero => intro s _ h; omega
      | succ m ih =>
        intro s hs hm
        rw [loopN_s]
        by_cases h : s < l.length
        · rw [hF _ s h hs, show l.length - s = (l.length - (s + 1)) + 1 by omega, List.range'_succ, List.any_cons]
          cases desc l s with
          | true => simp
          | false =>
            have e : (s : Int) + 1 = ((s + 1 : Nat) : Int) := by omega
            simp only [cond_false, Bool.false_or, e]
            exact ih (s + 1) (by omega) (by omega)
        · rw [show l.length - s = 0 by omega, hE _ s (by omega)]
          rfl
    exact e n 1 (by omega) (by omega)
  have l4 : ∀ (k : Option (Int × Int)), loopN (agrafferef08_CheckCover_L4 c fun _ => k) n 1 = bif (List.range' 1 (c.a1.length - 1)).any (desc c.a1) then some (9, 0) else k := by
    intro k
    refine asc c.a1 k _ h1 (fun back v hv h1v => ?_) (fun back v hv => ?_)
    · rw [agrafferef08_CheckCover_L4]
      have hv' : ((v : Nat) : Int) < ((c.a1.length : Nat) : Int) := by omega
      have hv2 : v - 1 < c.a1.length := by omega
      simp only [hv', hv, hv2, inB_of (q := ((v : Nat) : Int)) (n := c.a1.length) (by omega) (by omega), inB_of (q := ((v : Nat) : Int) - 1) (n := c.a1.length) (by omega) (by omega), chk_t, Int.toNat_natCast, toNat_sub_one, decide_true, cond_true, inI_of (n := ((v : Nat) : Int) + 1) (by omega) (by omega), inI_of (n := ((v : Nat) : Int) - 1) (by omega) (by omega), desc]
    · rw [agrafferef08_CheckCover_L4]
      have hv' : ¬ ((v : Nat) : Int) < ((c.a1.length : Nat) : Int) := by omega
      simp [hv']
  have l3 : ∀ (k : Option (Int × Int)), loopN (agrafferef08_CheckCover_L3 c fun _ => k) n 1 = bif (List.range' 1 (c.a0.length - 1)).any (desc c.a0) then some (9, 0) else k := by
    intro k
    refine asc c.a0 k _ h0 (fun back v hv h1v => ?_) (fun back v hv => ?_)
    · rw [agrafferef08_CheckCover_L3]
      have hv' : ((v : Nat) : Int) < ((c.a0.length : Nat) : Int) := by omega
      have hv2 : v - 1 < c.a0.length := by omega
      simp only [hv', hv, hv2, inB_of (q := ((v : Nat) : Int)) (n := c.a0.length) (by omega) (by omega), inB_of (q := ((v : Nat) : Int) - 1) (n := c.a0.length) (by omega) (by omega), chk_t, Int.toNat_natCast, toNat_sub_one, decide_true, cond_true, inI_of (n := ((v : Nat) : Int) + 1) (by omega) (by omega), inI_of (n := ((v : Nat) : Int) - 1) (by omega) (by omega), desc]
    · rw [agrafferef08_CheckCover_L3]
      have hv' : ¬ ((v : Nat) : Int) < ((c.a0.length : Nat) : Int) := by omega
      simp [hv']
  have any0 : ∀ (l : List Int) (p : Int → Bool), (List.range' 0 (l.length - 0)).any (fun v => p (ix l v)) = l.any p := by
    intro l p
    rw [Bool.eq_iff_iff, List.any_eq_true, List.any_eq_true]
    constructor
    · rintro ⟨v, hv, h⟩
      rw [List.mem_range'_1] at hv
      exact ⟨ix l v, ix_mem (by omega), h⟩
    · rintro ⟨x, hx, h⟩
      obtain ⟨i, hi, rfl⟩ := List.mem_iff_getElem.1 hx
      exact ⟨i, by rw [List.mem_range'_1]; omega, by rw [ix_eq hi]; exact h⟩
  have l2 : ∀ (k : Option (Int × Int)), loopN (agrafferef08_CheckCover_L2 n o c fun _ => k) n 0 = bif c.a1.any (outI o.length) then some (6, 0) else k := by
    intro k
    rw [← any0 c.a1 (outI o.length)]
    refine loop_anyI (len := c.a1.length) (p := fun v => outI o.length (ix c.a1 v)) (bad := some (6, 0)) (no := k) (fun back v hv => ?_) (fun back v hv => ?_) n 0 (by omega)
    · rw [agrafferef08_CheckCover_L2]
      have hv' : ((v : Nat) : Int) < ((c.a1.length : Nat) : Int) := by omega
      simp only [hv', hv, inB_of (q := ((v : Nat) : Int)) (n := c.a1.length) (by omega) (by omega), chk_t, Int.toNat_natCast, decide_true, cond_true, agraffebase_Within, Option.bind_some, inI_of (n := ((o.length : Nat) : Int) - 1) (by omega) (by omega), inI_of (n := ((v : Nat) : Int) + 1) (by omega) (by omega)]
      rfl
    · rw [agrafferef08_CheckCover_L2]
      have hv' : ¬ ((v : Nat) : Int) < ((c.a1.length : Nat) : Int) := by omega
      simp [hv']
  have l1 : ∀ (k : Option (Int × Int)), loopN (agrafferef08_CheckCover_L1 n w c fun _ => k) n 0 = bif c.a0.any (outI w.length) then some (6, 0) else k := by
    intro k
    rw [← any0 c.a0 (outI w.length)]
    refine loop_anyI (len := c.a0.length) (p := fun v => outI w.length (ix c.a0 v)) (bad := some (6, 0)) (no := k) (fun back v hv => ?_) (fun back v hv => ?_) n 0 (by omega)
    · rw [agrafferef08_CheckCover_L1]
      have hv' : ((v : Nat) : Int) < ((c.a0.length : Nat) : Int) := by omega
      simp only [hv', hv, inB_of (q := ((v : Nat) : Int)) (n := c.a0.length) (by omega) (by omega), chk_t, Int.toNat_natCast, decide_true, cond_true, agraffebase_Within, Option.bind_some, inI_of (n := ((w.length : Nat) : Int) - 1) (by omega) (by omega), inI_of (n := ((v : Nat) : Int) + 1) (by omega) (by omega)]
      rfl
    · rw [agrafferef08_CheckCover_L1]
      have hv' : ¬ ((v : Nat) : Int) < ((c.a0.length : Nat) : Int) := by omega
      simp [hv']
  rw [l1, l2, l3, l4, l6, chk_of (nI_of (by omega))]
  unfold covR
  cases c.a0.any (outI w.length)
  · cases c.a1.any (outI o.length)
    · cases (List.range' 1 (c.a0.length - 1)).any (desc c.a0)
      · cases (List.range' 1 (c.a1.length - 1)).any (desc c.a1)
        · cases (List.range' 0 (w.length - 0)).any (fun i => (List.range' 0 (o.length - 0)).any (gap w o c i)) <;> rfl
        · rfl
      · rfl
    · rfl
  · rfl
theorem nodup_map {α β : Type} {f : α → β} {l : List α} (hi : ∀ a ∈ l, ∀ b ∈ l, a ≠ b → f a ≠ f b) (h : l.Nodup) : (l.map f).Nodup := by
  induction l with
  | nil => exact List.nodup_nil
  | cons x l ih =>
    rw [List.nodup_cons] at h
    rw [List.map_cons, List.nodup_cons]
    refine ⟨fun hm => ?_, ih (fun a ha b hb => hi a (by simp [ha]) b (by simp [hb])) h.2⟩
    obtain ⟨y, hy, e⟩ := List.mem_map.1 hm
    exact hi y (by simp [hy]) x (by simp) (by rintro rfl; exact h.1 hy) e
theorem weak {w : List WantedPart} {o : List OfferedPart} {m : List Int} {c : Arr2_ListInt} (hm : (matR w o m).1 = 0) (hc : (covR w o c).1 = 0) : (matR w o m).2 ≤ (covR w o c).2 := by
  unfold matR at hm ⊢
  by_cases hl : m.length = w.length
  · simp only [hl, decide_true, Bool.not_true, cond_false] at hm ⊢
    by_cases hz : firstE (matE w o m) 0 w.length = 0
    · simp only [hz, bne_self_eq_false, cond_false]
      unfold covR at hc ⊢
      cases h1 : c.a0.any (outI w.length)
      · rw [h1] at hc
        cases h2 : c.a1.any (outI o.length)
        · rw [h2] at hc
          cases h3 : (List.range' 1 (c.a0.length - 1)).any (desc c.a0)
          · rw [h3] at hc
            cases h4 : (List.range' 1 (c.a1.length - 1)).any (desc c.a1)
            · rw [h4] at hc
              cases h5 : (List.range' 0 (w.length - 0)).any (fun i => (List.range' 0 (o.length - 0)).any (gap w o c i))
              · simp only [cond_false]
                have hmz : ∀ v, v < w.length → matE w o m v = 0 := fun v hv => firstE_zero hz v (by omega) (by omega)
                let M := (List.range m.length).filter fun v => !(ix m v == (-1 : Int))
                have hM : cntM m = M.length := by
                  have : ∀ k, k ≤ m.length → cntM (m.take k) = ((List.range k).filter fun v => !(ix m v == (-1 : Int))).length := by
                    intro k
                    induction k with
                    | zero => intro _; rfl
                    | succ k ih =>
                      intro hk
                      rw [cntM_take (by omega), ih (by omega), List.range_succ, List.filter_append, List.length_append]
                      cases hb : ix m k == (-1 : Int) <;> simp [List.filter_cons, hb]
                  have := this m.length (Nat.le_refl _)
                  rwa [List.take_length] at this
                have hMn : M.Nodup := List.Pairwise.filter _ List.nodup_range
                have hMm : ∀ v ∈ M, v < m.length ∧ (ix m v == (-1 : Int)) = false := by
                  intro v hv
                  rw [List.mem_filter, List.mem_range] at hv
                  exact ⟨hv.1, by simpa using hv.2⟩
                have hmat : ∀ v ∈ M, 0 ≤ ix m v ∧ (ix m v).toNat < o.length ∧ fitsB (ix w v) (ix o (ix m v).toNat) = true ∧ ix m v ∉ m.take v := by
                  intro v hv
                  obtain ⟨a, b⟩ := hMm v hv
                  have := hmz v (by omega)
                  unfold matE at this
                  rw [b] at this
                  simp only [cond_false] at this
                  cases q1 : outI o.length (ix m v)
                  · rw [q1] at this
                    simp only [cond_false] at this
                    cases q2 : fitsB (ix w v) (ix o (ix m v).toNat)
                    · rw [q2] at this; simp at this
                    · rw [q2] at this
                      simp only [Bool.not_true, cond_false] at this
                      cases q3 : (m.take v).any (isI (ix m v))
                      · exact ⟨(outI_ok q1).1, (outI_ok q1).2, rfl, fun h => by rw [any_isI.2 h] at q3; cases q3⟩
                      · rw [q3] at this; simp at this
                  · rw [q1] at this; simp at this
                let M1 := M.filter fun (v : Nat) => c.a0.any (isI ((v : Nat) : Int))
                let M2 := M.filter fun (v : Nat) => !c.a0.any (isI ((v : Nat) : Int))
                have hsplit : M.length = M1.length + M2.length := by
                  have : ∀ l : List Nat, l.length = (l.filter fun (v : Nat) => c.a0.any (isI ((v : Nat) : Int))).length + (l.filter fun (v : Nat) => !c.a0.any (isI ((v : Nat) : Int))).length := by
                    intro l
                    induction l with
                    | nil => rfl
                    | cons x l ih =>
                      simp only [List.filter_cons, List.length_cons]
                      cases c.a0.any (isI (x : Int)) <;> simp <;> omega
                  exact this M
                have b1 : M1.length ≤ c.a0.length := by
                  have hn1 : (M1.map fun v => ((v : Nat) : Int)).Nodup := by
                    refine nodup_map (fun a _ b _ hab h => hab (by omega)) (List.Pairwise.filter _ hMn)
                  have := nodup_len (M1.map fun v => ((v : Nat) : Int)) c.a0 hn1 fun x hx => by
                    obtain ⟨v, hv, rfl⟩ := List.mem_map.1 hx
                    rw [List.mem_filter] at hv
                    exact any_isI.1 hv.2
                  simpa using this
                have b2 : M2.length ≤ c.a1.length := by
                  have hinj : ∀ a ∈ M, ∀ b ∈ M, a < b → ix m a ≠ ix m b := by
                    intro a ha b hb hab h
                    refine (hmat b hb).2.2.2 ?_
                    rw [← h, ix_eq (by have := (hMm a ha).1; exact this)]
                    exact List.mem_iff_getElem.2 ⟨a, by simp; have := (hMm a ha).1; omega, by simp⟩
                  have hn2 : (M2.map fun v => ix m v).Nodup := by
                    refine nodup_map (fun a ha b hb hab h => ?_) (List.Pairwise.filter _ hMn)
                    have ha := (List.mem_filter.1 ha).1
                    have hb := (List.mem_filter.1 hb).1
                    rcases Nat.lt_or_gt_of_ne hab with q | q
                    · exact hinj a ha b hb q h
                    · exact hinj b hb a ha q h.symm
                  have := nodup_len (M2.map fun v => ix m v) c.a1 hn2 fun x hx => by
                    obtain ⟨v, hv, rfl⟩ := List.mem_map.1 hx
                    rw [List.mem_filter] at hv
                    obtain ⟨g1, g2, g3, _⟩ := hmat v hv.1
                    have hvw : v < w.length := by have := (hMm v hv.1).1; omega
                    have hgap : gap w o c v (ix m v).toNat = false := by
                      rw [List.any_eq_false] at h5
                      have := h5 v (by rw [List.mem_range'_1]; omega)
                      rw [Bool.not_eq_true, List.any_eq_false] at this
                      have := this (ix m v).toNat (by rw [List.mem_range'_1]; omega)
                      simpa using this
                    unfold gap at hgap
                    have e1 : (((ix m v).toNat : Nat) : Int) = ix m v := by omega
                    rw [g3, e1] at hgap
                    have e2 : c.a0.any (isI (v : Int)) = false := by simpa using hv.2
                    rw [e2] at hgap
                    simp only [Bool.not_false, Bool.and_self, Bool.true_and, Bool.not_eq_false'] at hgap
                    exact any_isI.1 hgap
                  simpa using this
                omega
              · rw [h5] at hc; simp at hc
            · rw [h4] at hc; simp at hc
          · rw [h3] at hc; simp at hc
        · rw [h2] at hc; simp at hc
      · rw [h1] at hc; simp at hc
    · rw [bne_t hz, cond_true] at hm
      exact absurd hm hz
  · simp [hl] at hm
def badW (x : WantedPart) : Bool := (decide (20 < x.Name.length)) || (decide (8 < x.Ranges.length))
def badO (x : OfferedPart) : Bool := (decide (20 < x.Name.length)) || (decide (8 < x.Sizes.length))
def lens (a b : Nat) : Bool := ((((decide (8 < a)) && (decide (a ≤ 40))) || (decide (43 < a))) || ((decide (8 < b)) && (decide (b ≤ 40)))) || (decide (43 < b))
def placesB (w : List WantedPart) (o : List OfferedPart) : Bool := !lens w.length o.length && (!w.any badW && !o.any badO)
theorem places_eq (w : List WantedPart) (o : List OfferedPart) (hn : 1000 < n) : agraffelaw08_places n w o = some (placesB w o) := by
  rw [agraffelaw08_places, placesB]
  have e : (((((decide (8 < w.length)) && (decide (w.length ≤ 40))) || (decide (43 < w.length))) || ((decide (8 < o.length)) && (decide (o.length ≤ 40)))) || (decide (43 < o.length))) = lens w.length o.length := rfl
  rw [e]
  cases hl : lens w.length o.length
  · unfold lens at hl
    simp only [Bool.or_eq_false_iff, decide_eq_false_iff_not] at hl
    simp only [cond_false, withK_eq]
    rw [loop_any' (l := w) (p := badW) (bad := some false) (no := bif o.any badO then some false else some true) (fun back v hv => ?_) (fun back => ?_) n (by omega)]
    · cases w.any badW <;> cases o.any badO <;> rfl
    · rw [agraffelaw08_places_L1]
      simp only [hv, decide_true, cond_true, nI_of (by omega : v + 1 ≤ 9223372036854775807), chk_t]
      rfl
    · rw [agraffelaw08_places_L1]
      simp only [Nat.lt_irrefl, decide_false, cond_false]
      refine loop_any' (l := o) (p := badO) (bad := some false) (no := some true) (fun back v hv => ?_) (fun back => ?_) n (by omega)
      · rw [agraffelaw08_places_L2]
        simp only [hv, decide_true, cond_true, nI_of (by omega : v + 1 ≤ 9223372036854775807), chk_t]
        rfl
      · rw [agraffelaw08_places_L2]
        simp
  · rfl
theorem places_ok {w : List WantedPart} {o : List OfferedPart} (h : placesB w o = true) : OkW w ∧ OkO o := by
  unfold placesB lens at h
  simp only [Bool.and_eq_true, Bool.not_eq_true', Bool.or_eq_false_iff, decide_eq_false_iff_not, List.any_eq_false] at h
  obtain ⟨hl, h1, h2⟩ := h
  have k1 : ∀ x ∈ w, x.Name.length ≤ 20 ∧ x.Ranges.length ≤ 8 := by
    intro x hx
    have := h1 x hx
    unfold badW at this
    simp only [Bool.not_eq_true, Bool.or_eq_false_iff, decide_eq_false_iff_not] at this
    omega
  have k2 : ∀ x ∈ o, x.Name.length ≤ 20 ∧ x.Sizes.length ≤ 8 := by
    intro x hx
    have := h2 x hx
    unfold badO at this
    simp only [Bool.not_eq_true, Bool.or_eq_false_iff, decide_eq_false_iff_not] at this
    omega
  exact ⟨⟨by omega, fun x hx => (k1 x hx).1, fun x hx => (k1 x hx).2⟩, ⟨by omega, fun x hx => (k2 x hx).1, fun x hx => (k2 x hx).2⟩⟩
theorem wanted_copy {w : List WantedPart} (h : OkW w) (hn : 1000 < n) : agraffelaw08_wanted n w = some w := by
  have hlen := h.len
  rw [agraffelaw08_wanted, chk_of (room_of (by omega) (by omega)), withK_eq]
  refine loop_fold' (σ := List WantedPart) (st := fun _ => w) (len := w.length) (fun back v hv => ?_) (fun back => ?_) n (by omega) rfl
  · rw [agraffelaw08_wanted_L1]
    have h1 := h.rng _ (ix_mem hv)
    simp only [hv, decide_true, cond_true, set_ix hv, room_of (b := 16) (n := (ix w v).Ranges.length) (by omega) (by omega), nI_of (by omega : v + 1 ≤ 9223372036854775807), chk_t]
  · rw [agraffelaw08_wanted_L1]
    simp
theorem offered_copy {o : List OfferedPart} (h : OkO o) (hn : 1000 < n) : agraffelaw08_offered n o = some o := by
  have hlen := h.len
  rw [agraffelaw08_offered, chk_of (room_of (by omega) (by omega)), withK_eq]
  refine loop_fold' (σ := List OfferedPart) (st := fun _ => o) (len := o.length) (fun back v hv => ?_) (fun back => ?_) n (by omega) rfl
  · rw [agraffelaw08_offered_L1]
    have h1 := h.siz _ (ix_mem hv)
    simp only [hv, decide_true, cond_true, set_ix hv, agraffebase_CopyInts, room_of (b := 8) (n := (ix o v).Sizes.length) (by omega) (by omega), Option.bind_some, nI_of (by omega : v + 1 ≤ 9223372036854775807), chk_t]
  · rw [agraffelaw08_offered_L1]
    simp
theorem pure_RestoreProofs (a0 : List WantedPart) (a1 : List OfferedPart) (a2 : Proof) : agraffelaw08_RestoreProofs 2000 a0 a1 a2 = some true := by
  rw [agraffelaw08_RestoreProofs]
  simp only [agraffelaw08_awake, Option.bind_some, Bool.not_true, cond_false, places_eq (n := 2000) a0 a1 (by omega)]
  cases h0 : placesB a0 a1
  · simp
  obtain ⟨hw, ho⟩ := places_ok h0
  by_cases hm : 50 < a2.Match.length
  · simp [hm]
  by_cases hc0 : 50 < a2.Cover.a0.length
  · simp [hc0]
  by_cases hc1 : 50 < a2.Cover.a1.length
  · simp [hc1]
  simp only [Bool.not_true, hm, hc0, hc1, decide_false, Bool.or_self, cond_false, wanted_copy hw (by omega : 1000 < 2000), offered_copy ho (by omega : 1000 < 2000), Option.bind_some, agraffebase_CopyInts_2, room_of (b := 8) (n := a2.Match.length) (by omega) (by omega), room_of (b := 8) (n := a2.Cover.a0.length) (by omega) (by omega), room_of (b := 8) (n := a2.Cover.a1.length) (by omega) (by omega), chk_t,
    match_res (m := a2.Match) hw ho (by omega : 1000 < 2000), cover_res (c := a2.Cover) hw ho (by omega) (by omega) (by omega : 1000 < 2000), both_ref hw ho (by omega : 1000 < 2000), match_ref (m := a2.Match) hw ho (by omega : 1000 < 2000), cover_ref (c := a2.Cover) hw ho (by omega) (by omega) (by omega : 1000 < 2000)]
  by_cases hb : bothC a0 a1 = 0
  · simp only [hb, bne_self_eq_false, cond_false, beq_self_eq_true, Bool.and_self, Bool.true_and]
    by_cases q1 : (matR a0 a1 a2.Match).1 = 0
    · by_cases q2 : (covR a0 a1 a2.Cover).1 = 0
      · simp [weak q1 q2]
      · simp [bne_t q2]
    · simp [bne_t q1]
  · simp [bne_t hb]
end
end Go.Proofs.YtcdcpambkdlhjaaGreat.As
