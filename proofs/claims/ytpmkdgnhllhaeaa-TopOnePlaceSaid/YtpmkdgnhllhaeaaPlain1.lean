/- What the functions compute, on plain data, and what follows from it, part 1: no condition. -/
import Derived.Test.YtpmkdgnhllhaeaaGround2
namespace Go.Proofs.Ytpmkdgnhllhaeaa.As
open Go
section
set_option maxRecDepth 4000
open Go
structure Road where
  A : Str
  B : Str
  Minutes : Int
  Width : Int
  deriving Inhabited, DecidableEq
def eRoad (x : Road) : V := .agg [vt x.A, vt x.B, vi x.Minutes, vi x.Width]
structure Grand where
  Name : Str
  Place : Str
  Width : Int
  deriving Inhabited, DecidableEq
def eGrand (x : Grand) : V := .agg [vt x.Name, vt x.Place, vi x.Width]
structure Diary where
  Places : List Str
  Technicians : List Str
  Roads : List Road
  Grands : List Grand
  Change : Int
  Lasts : Int
  deriving Inhabited, DecidableEq
def eDiary (x : Diary) : V := .agg [eS 1 vt x.Places, eS 1 vt x.Technicians, eS 4 eRoad x.Roads, eS 3 eGrand x.Grands, vi x.Change, vi x.Lasts]
structure Item where
  Kind : Int
  From : Int
  To : Int
  Grand : Str
  Place : Str
  Who : Str
  Deposit : Int
  deriving Inhabited, DecidableEq
def eItem (x : Item) : V := .agg [vi x.Kind, vi x.From, vi x.To, vt x.Grand, vt x.Place, vt x.Who, vi x.Deposit]
structure Arr2_Str where
  a0 : Str
  a1 : Str
  deriving Inhabited, DecidableEq
def eArr2_Str (x : Arr2_Str) : V := .agg [vt x.a0, vt x.a1]
theorem eArr2_Str_frz (x : Arr2_Str) : (eArr2_Str x).frz = true := rfl
theorem eArr2_Str_key : KeyAB eArr2_Str (fun x => x.a0) (fun x => x.a1) := ⟨fun _ => rfl, fun ⟨a, b⟩ ⟨c, d⟩ => keyab_dec ⟨fun h => by cases h; exact ⟨rfl, rfl⟩, fun h => by cases h.1; cases h.2; rfl⟩⟩
def tunStop (x : Item) (lasts : Int) (y : Item) : Bool := (y.Grand == x.Grand) && ((y.Kind == 1) || ((y.Kind == 0) && (decide (y.To ≤ x.From) && decide (IntKind.i64.wrap (x.From - y.To) ≤ lasts))))
def tuneL (x : Item) (lasts : Int) (l : List Item) : Nat → Int
  | 0 => -1
  | k + 1 => bif tunStop x lasts (ix l k) then (bif (ix l k).Kind == 1 then -1 else ((k : Nat) : Int)) else tuneL x lasts l k
structure Moment where
  Grand : Str
  Minute : Int
  deriving Inhabited, DecidableEq
def agraffelaw09_Town (n : Nat)  : Option Unit :=
  some ()
def diary_isName_L1 (a0 : Str) (k1 : (Unit → Option Bool)) (back : Nat → Option Bool) : Nat → Option Bool
  | v1 =>
  bif decide (v1 < a0.length) then
    bif (!(((decide ((97 : Int) ≤ (((List.getD a0 v1 0).toNat : Nat) : Int))) && (decide ((((List.getD a0 v1 0).toNat : Nat) : Int) ≤ (122 : Int)))) || ((decide ((65 : Int) ≤ (((List.getD a0 v1 0).toNat : Nat) : Int))) && (decide ((((List.getD a0 v1 0).toNat : Nat) : Int) ≤ (90 : Int)))))) && ((decide (v1 = 0)) || (((((List.getD a0 v1 0).toNat : Nat) : Int) != (45 : Int)) && ((decide ((((List.getD a0 v1 0).toNat : Nat) : Int) < (48 : Int))) || (decide ((57 : Int) < (((List.getD a0 v1 0).toNat : Nat) : Int)))))) then
      some false
    else
      chk (nI (v1 + 1)) <|
      back (v1 + 1)
  else
    k1 ()
def diary_isName (n : Nat) (a0 : Str) : Option Bool :=
  withK (fun (_ : Unit) =>
      some ((!(a0 == ([] : Str))) && (decide (a0.length ≤ 12)))) fun k1 =>
  loopN (diary_isName_L1 a0 k1) n 0
def slices_Index_string_L1 (a0 : List Str) (a1 : Str) (k1 : (Unit → Option Int)) (back : Nat → Option Int) : Nat → Option Int
  | v1 =>
  bif decide (v1 < a0.length) then
    bif (a1 == (ix a0 v1)) then
      some ((v1 : Nat) : Int)
    else
      chk (nI (v1 + 1)) <|
      back (v1 + 1)
  else
    k1 ()
def slices_Index_string (n : Nat) (a0 : List Str) (a1 : Str) : Option Int :=
  withK (fun (_ : Unit) =>
      some (-1)) fun k1 =>
  loopN (slices_Index_string_L1 a0 a1 k1) n 0
def slices_Contains_string (n : Nat) (a0 : List Str) (a1 : Str) : Option Bool :=
  (slices_Index_string n a0 a1).bind fun y1 =>
  some (decide ((0 : Int) ≤ y1))
def diary_checkName (n : Nat) (a0 : Str) (a1 : List Str) : Option Int :=
  (diary_isName n a0).bind fun y1 =>
  bif !y1 then
    some 4
  else
    (slices_Contains_string n a1 a0).bind fun y2 =>
    bif y2 then
      some 5
    else
      some 0
def diary_checkNames_L1 (n : Nat) (a0 : List Str) (k1 : (Unit → Option Int)) (back : Nat → Option Int) : Nat → Option Int
  | v2 =>
  bif decide (v2 < a0.length) then
    chk (decide (v2 ≤ a0.length)) <|
    (diary_checkName n (ix a0 v2) (List.take v2 a0)).bind fun y3 =>
    bif (y3 != (0 : Int)) then
      some y3
    else
      chk (nI (v2 + 1)) <|
      back (v2 + 1)
  else
    k1 ()
def diary_checkNames (n : Nat) (a0 : List Str) (a1 : Int) : Option Int :=
  bif decide (a1 < ((a0.length : Nat) : Int)) then
    some 8
  else
    withK (fun (_ : Unit) =>
        some 0) fun k1 =>
    loopN (diary_checkNames_L1 n a0 k1) n 0
def diary_within (n : Nat) (a0 : Int) (a1 : Int) (a2 : Int) : Option Unit :=
  some ()
def diary_isWidth (n : Nat) (a0 : Int) : Option Unit :=
  (diary_within n a0 1 10000).bind fun y1 =>
  some ()
def diary_checkRoads_L1 (n : Nat) (a0 : Diary) (k1 : (Unit → Option Int)) (back : Nat → Option Int) : Nat → Option Int
  | v5 =>
  bif decide (v5 < a0.Roads.length) then
    (slices_Contains_string n a0.Places ((ix a0.Roads v5).A)).bind fun y6 =>
    (gcall (!(!y6)) (slices_Contains_string n a0.Places ((ix a0.Roads v5).B))).bind fun y7 =>
    bif (!y6) || (!y7) then
      some 6
    else
      bif (((ix a0.Roads v5).A) == ((ix a0.Roads v5).B)) then
        some 3
      else
        (diary_within n ((ix a0.Roads v5).Minutes) 1 10000).bind fun y8 =>
        (gcall (!(!((decide (1 ≤ ((ix a0.Roads v5).Minutes))) && (decide (((ix a0.Roads v5).Minutes) ≤ 10000))))) (diary_isWidth n ((ix a0.Roads v5).Width))).bind fun y9 =>
        bif (!((decide (1 ≤ ((ix a0.Roads v5).Minutes))) && (decide (((ix a0.Roads v5).Minutes) ≤ 10000)))) || (!((decide (1 ≤ ((ix a0.Roads v5).Width))) && (decide (((ix a0.Roads v5).Width) ≤ 10000)))) then
          some 2
        else
          chk (nI (v5 + 1)) <|
          back (v5 + 1)
  else
    k1 ()
def diary_checkRoads (n : Nat) (a0 : Diary) : Option Int :=
  bif decide (60 < a0.Roads.length) then
    some 8
  else
    withK (fun (_ : Unit) =>
        some 0) fun k1 =>
    loopN (diary_checkRoads_L1 n a0 k1) n 0
def slices_Index_string_2_L1 (a0 : List Str) (a1 : Str) (k1 : (Unit → Option Int)) (back : Nat → Option Int) : Nat → Option Int
  | v1 =>
  bif decide (v1 < a0.length) then
    bif (a1 == (ix a0 v1)) then
      some ((v1 : Nat) : Int)
    else
      chk (nI (v1 + 1)) <|
      back (v1 + 1)
  else
    k1 ()
def slices_Index_string_2 (n : Nat) (a0 : List Str) (a1 : Str) : Option Int :=
  withK (fun (_ : Unit) =>
      some (-1)) fun k1 =>
  loopN (slices_Index_string_2_L1 a0 a1 k1) n 0
def slices_Contains_string_2 (n : Nat) (a0 : List Str) (a1 : Str) : Option Bool :=
  (slices_Index_string_2 n a0 a1).bind fun y1 =>
  some (decide ((0 : Int) ≤ y1))
def diary_checkName_2 (n : Nat) (a0 : Str) (a1 : List Str) : Option Int :=
  (diary_isName n a0).bind fun y1 =>
  bif !y1 then
    some 4
  else
    (slices_Contains_string_2 n a1 a0).bind fun y2 =>
    bif y2 then
      some 5
    else
      some 0
def diary_checkGrands_L1 (n : Nat) (a0 : Diary) (k1 : (Unit → Option Int)) (back : (List Str) × Nat → Option Int) : (List Str) × Nat → Option Int
  | (v4, v5) =>
  bif decide (v5 < a0.Grands.length) then
    (diary_checkName_2 n ((ix a0.Grands v5).Name) v4).bind fun y6 =>
    bif (y6 != (0 : Int)) then
      some y6
    else
      (slices_Contains_string n a0.Places ((ix a0.Grands v5).Place)).bind fun y7 =>
      bif !y7 then
        some 6
      else
        (diary_isWidth n ((ix a0.Grands v5).Width)).bind fun y8 =>
        bif !((decide (1 ≤ ((ix a0.Grands v5).Width))) && (decide (((ix a0.Grands v5).Width) ≤ 10000))) then
          some 2
        else
          chk (room 16 (v4 ++ ([(ix a0.Grands v5).Name] : List Str)).length) <|
          chk (nI (v5 + 1)) <|
          back ((v4 ++ ([(ix a0.Grands v5).Name] : List Str)), v5 + 1)
  else
    k1 ()
def diary_checkGrands (n : Nat) (a0 : Diary) : Option Int :=
  bif decide (12 < a0.Grands.length) then
    some 8
  else
    withK (fun (_ : Unit) =>
        some 0) fun k1 =>
    loopN (diary_checkGrands_L1 n a0 k1) n (([] : List Str), 0)
def diary_CheckDiary (n : Nat) (a0 : Diary) : Option Int :=
  (diary_checkNames n a0.Places 20).bind fun y1 =>
  bif (y1 != (0 : Int)) then
    some y1
  else
    (diary_checkRoads n a0).bind fun y2 =>
    bif (y2 != (0 : Int)) then
      some y2
    else
      (diary_checkGrands n a0).bind fun y3 =>
      bif (y3 != (0 : Int)) then
        some y3
      else
        (diary_checkNames n a0.Technicians 12).bind fun y4 =>
        bif (y4 != (0 : Int)) then
          some y4
        else
          (diary_within n a0.Change 0 1000).bind fun y5 =>
          (gcall (!(!((decide (0 ≤ a0.Change)) && (decide (a0.Change ≤ 1000))))) (diary_within n a0.Lasts 0 100000)).bind fun y6 =>
          bif (!((decide (0 ≤ a0.Change)) && (decide (a0.Change ≤ 1000)))) || (!((decide (0 ≤ a0.Lasts)) && (decide (a0.Lasts ≤ 100000)))) then
            some 2
          else
            some 0
def diary_open (n : Nat) (a0 : Diary) : Option (Int ⊕ Unit) :=
  (diary_CheckDiary n a0).bind fun y1 =>
  bif (y1 != (0 : Int)) then
    some (.inl y1)
  else
    some (.inr ())
def diary_plan_isPlace_2 (n : Nat) (a0 : List Str) (a1 : List Str) (a2 : List Road) (a3 : List Grand) (a4 : Int) (a5 : Int) (a6 : List (Int × List (Arr2_Str × Int))) (a7 : Str) : Option Bool :=
  (slices_Contains_string n a0 a7).bind fun y1 =>
  some y1
def diary_plan_joined_L1 (a2 : List Road) (a7 : Str) (a8 : Str) (a9 : Int) (k2 : (Int × Bool → Option (Int × Bool))) (back : Int × Bool × Nat → Option (Int × Bool)) : Int × Bool × Nat → Option (Int × Bool)
  | (v3, v4, v5) =>
  bif decide (v5 < a2.length) then
    withK (fun (v6, v7) =>
        chk (nI (v5 + 1)) <|
        back (v6, v7, v5 + 1)) fun k1 =>
    bif ((((((ix a2 v5).A) == a7) && (((ix a2 v5).B) == a8)) || ((((ix a2 v5).A) == a8) && (((ix a2 v5).B) == a7))) && (decide (a9 ≤ ((ix a2 v5).Width)))) && ((!v4) || (decide (((ix a2 v5).Minutes) < v3))) then
      k1 ((ix a2 v5).Minutes, true)
    else
      k1 (v3, v4)
  else
    k2 (v3, v4)
def diary_plan_joined (n : Nat) (a0 : List Str) (a1 : List Str) (a2 : List Road) (a3 : List Grand) (a4 : Int) (a5 : Int) (a6 : List (Int × List (Arr2_Str × Int))) (a7 : Str) (a8 : Str) (a9 : Int) : Option (Int × Bool) :=
  withK (fun (v8, v9) =>
      some (v8, v9)) fun k2 =>
  loopN (diary_plan_joined_L1 a2 a7 a8 a9 k2) n (0, false, 0)
def diary_plan_distances_L3 (a0 : List Str) (v31 : Nat) (v38 : Nat) (k7 : ((List (Arr2_Str × Int)) → Option ((List (Arr2_Str × Int)) × (List (Int × List (Arr2_Str × Int)))))) (back : Nat × (List (Arr2_Str × Int)) → Option ((List (Arr2_Str × Int)) × (List (Int × List (Arr2_Str × Int))))) : Nat × (List (Arr2_Str × Int)) → Option ((List (Arr2_Str × Int)) × (List (Int × List (Arr2_Str × Int))))
  | (v41, v42) =>
  bif decide (v41 < a0.length) then
    withK (fun (v43 : (List (Arr2_Str × Int))) =>
        chk (nI (v41 + 1)) <|
        back (v41 + 1, v43)) fun k6 =>
    chk (!(((Option.isSome (List.lookup (Arr2_Str.mk (ix a0 v38) (ix a0 v31)) v42)) && (Option.isSome (List.lookup (Arr2_Str.mk (ix a0 v31) (ix a0 v41)) v42))) && !(!(Option.isSome (List.lookup (Arr2_Str.mk (ix a0 v38) (ix a0 v41)) v42)))) || inI ((Option.getD (List.lookup (Arr2_Str.mk (ix a0 v38) (ix a0 v31)) v42) (0 : Int)) + (Option.getD (List.lookup (Arr2_Str.mk (ix a0 v31) (ix a0 v41)) v42) (0 : Int)))) <|
    bif ((Option.isSome (List.lookup (Arr2_Str.mk (ix a0 v38) (ix a0 v31)) v42)) && (Option.isSome (List.lookup (Arr2_Str.mk (ix a0 v31) (ix a0 v41)) v42))) && ((!(Option.isSome (List.lookup (Arr2_Str.mk (ix a0 v38) (ix a0 v41)) v42))) || (decide (((Option.getD (List.lookup (Arr2_Str.mk (ix a0 v38) (ix a0 v31)) v42) (0 : Int)) + (Option.getD (List.lookup (Arr2_Str.mk (ix a0 v31) (ix a0 v41)) v42) (0 : Int))) < (Option.getD (List.lookup (Arr2_Str.mk (ix a0 v38) (ix a0 v41)) v42) (0 : Int))))) then
      chk (inI ((Option.getD (List.lookup (Arr2_Str.mk (ix a0 v38) (ix a0 v31)) v42) (0 : Int)) + (Option.getD (List.lookup (Arr2_Str.mk (ix a0 v31) (ix a0 v41)) v42) (0 : Int)))) <|
      k6 (mPut (Arr2_Str.mk (ix a0 v38) (ix a0 v41)) ((Option.getD (List.lookup (Arr2_Str.mk (ix a0 v38) (ix a0 v31)) v42) (0 : Int)) + (Option.getD (List.lookup (Arr2_Str.mk (ix a0 v31) (ix a0 v41)) v42) (0 : Int))) v42)
    else
      k6 v42
  else
    k7 v42
def diary_plan_distances_L4 (n : Nat) (a0 : List Str) (v31 : Nat) (k8 : ((List (Arr2_Str × Int)) → Option ((List (Arr2_Str × Int)) × (List (Int × List (Arr2_Str × Int)))))) (back : Nat × (List (Arr2_Str × Int)) → Option ((List (Arr2_Str × Int)) × (List (Int × List (Arr2_Str × Int))))) : Nat × (List (Arr2_Str × Int)) → Option ((List (Arr2_Str × Int)) × (List (Int × List (Arr2_Str × Int))))
  | (v38, v39) =>
  bif decide (v38 < a0.length) then
    withK (fun (v44 : (List (Arr2_Str × Int))) =>
        chk (nI (v38 + 1)) <|
        back (v38 + 1, v44)) fun k7 =>
    loopN (diary_plan_distances_L3 a0 v31 v38 k7) n (0, v39)
  else
    k8 v39
def diary_plan_distances_L5 (n : Nat) (a0 : List Str) (k9 : ((List (Arr2_Str × Int)) → Option ((List (Arr2_Str × Int)) × (List (Int × List (Arr2_Str × Int)))))) (back : Nat × (List (Arr2_Str × Int)) → Option ((List (Arr2_Str × Int)) × (List (Int × List (Arr2_Str × Int))))) : Nat × (List (Arr2_Str × Int)) → Option ((List (Arr2_Str × Int)) × (List (Int × List (Arr2_Str × Int))))
  | (v31, v32) =>
  bif decide (v31 < a0.length) then
    withK (fun (v45 : (List (Arr2_Str × Int))) =>
        chk (nI (v31 + 1)) <|
        back (v31 + 1, v45)) fun k8 =>
    loopN (diary_plan_distances_L4 n a0 v31 k8) n (0, v32)
  else
    k9 v32
def diary_plan_distances_L1 (n : Nat) (a0 : List Str) (a1 : List Str) (a2 : List Road) (a3 : List Grand) (a4 : Int) (a5 : Int) (a6 : List (Int × List (Arr2_Str × Int))) (a7 : Int) (v8 : Nat) (k4 : ((List (Arr2_Str × Int)) → Option ((List (Arr2_Str × Int)) × (List (Int × List (Arr2_Str × Int)))))) (back : Nat × (List (Arr2_Str × Int)) → Option ((List (Arr2_Str × Int)) × (List (Int × List (Arr2_Str × Int))))) : Nat × (List (Arr2_Str × Int)) → Option ((List (Arr2_Str × Int)) × (List (Int × List (Arr2_Str × Int))))
  | (v12, v13) =>
  bif decide (v12 < a0.length) then
    withK (fun (v15 : (List (Arr2_Str × Int))) =>
        chk (nI (v12 + 1)) <|
        back (v12 + 1, v15)) fun k3 =>
    (diary_plan_joined n a0 a1 a2 a3 a4 a5 a6 (ix a0 v8) (ix a0 v12) a7).bind fun y14 =>
    bif y14.2 && (!((ix a0 v8) == (ix a0 v12))) then
      k3 (mPut (Arr2_Str.mk (ix a0 v8) (ix a0 v12)) y14.1 v13)
    else
      k3 v13
  else
    k4 v13
def diary_plan_distances_L2 (n : Nat) (a0 : List Str) (a1 : List Str) (a2 : List Road) (a3 : List Grand) (a4 : Int) (a5 : Int) (a6 : List (Int × List (Arr2_Str × Int))) (a7 : Int) (k5 : ((List (Arr2_Str × Int)) → Option ((List (Arr2_Str × Int)) × (List (Int × List (Arr2_Str × Int)))))) (back : Nat × (List (Arr2_Str × Int)) → Option ((List (Arr2_Str × Int)) × (List (Int × List (Arr2_Str × Int))))) : Nat × (List (Arr2_Str × Int)) → Option ((List (Arr2_Str × Int)) × (List (Int × List (Arr2_Str × Int))))
  | (v8, v9) =>
  bif decide (v8 < a0.length) then
    withK (fun (v16 : (List (Arr2_Str × Int))) =>
        chk (nI (v8 + 1)) <|
        back (v8 + 1, v16)) fun k4 =>
    loopN (diary_plan_distances_L1 n a0 a1 a2 a3 a4 a5 a6 a7 v8 k4) n (0, (mPut (Arr2_Str.mk (ix a0 v8) (ix a0 v8)) 0 v9))
  else
    k5 v9
def diary_plan_distances (n : Nat) (a0 : List Str) (a1 : List Str) (a2 : List Road) (a3 : List Grand) (a4 : Int) (a5 : Int) (a6 : List (Int × List (Arr2_Str × Int))) (a7 : Int) : Option ((List (Arr2_Str × Int)) × (List (Int × List (Arr2_Str × Int)))) :=
  withK (fun (_ : Unit) =>
      some ((Option.getD (List.lookup a7 a6) ([] : List (Arr2_Str × Int))), a6)) fun k1 =>
  withK (fun (_ : Unit) =>
      withK (fun (v17 : (List (Arr2_Str × Int))) =>
          withK (fun (v46 : (List (Arr2_Str × Int))) =>
              some (v46, (mPut a7 v46 a6))) fun k9 =>
          loopN (diary_plan_distances_L5 n a0 k9) n (0, v17)) fun k5 =>
      loopN (diary_plan_distances_L2 n a0 a1 a2 a3 a4 a5 a6 a7 k5) n (0, ([] : List (Arr2_Str × Int)))) fun k2 =>
  bif (Option.isSome (List.lookup a7 a6)) then
    k1 ()
  else
    k2 ()
def diary_plan_distance (n : Nat) (a0 : List Str) (a1 : List Str) (a2 : List Road) (a3 : List Grand) (a4 : Int) (a5 : Int) (a6 : List (Int × List (Arr2_Str × Int))) (a7 : Str) (a8 : Str) (a9 : Int) : Option (Int × Bool × (List (Int × List (Arr2_Str × Int)))) :=
  (diary_plan_distances n a0 a1 a2 a3 a4 a5 a6 a9).bind fun y1 =>
  some ((Option.getD (List.lookup (Arr2_Str.mk a7 a8) y1.1) (0 : Int)), (Option.isSome (List.lookup (Arr2_Str.mk a7 a8) y1.1)), y1.2)
def agraffelaw09_Evening (n : Nat)  : Option Unit :=
  some ()
def diary_plan_accept_L1 (a0 : List Item) (k1 : (Unit → Option (Int × Int))) (back : Unit → Option (Int × Int)) : Unit → Option (Int × Int)
  | _ =>
  bif decide (0 < a0.length) then
    none
  else
    k1 ()
def diary_plan_accept (n : Nat) (a0 : List Item) : Option (Int × Int) :=
  bif decide (100 < a0.length) then
    some (0, 8)
  else
    withK (fun (_ : Unit) =>
        some ((-1), 0)) fun k1 =>
    loopN (diary_plan_accept_L1 a0 k1) n ()
def diary_grand_f1 (n : Nat) (a0 : Grand) (a1 : Str) : Option Unit :=
  some ()
def slices_IndexFunc_Grand_L1 (n : Nat) (a0 : List Grand) (a1 : Str) (k1 : (Unit → Option Int)) (back : Nat → Option Int) : Nat → Option Int
  | v2 =>
  bif decide (v2 < a0.length) then
    (diary_grand_f1 n (ix a0 v2) a1).bind fun y3 =>
    bif ((ix a0 v2).Name == a1) then
      some ((v2 : Nat) : Int)
    else
      chk (nI (v2 + 1)) <|
      back (v2 + 1)
  else
    k1 ()
def slices_IndexFunc_Grand (n : Nat) (a0 : List Grand) (a1 : Str) : Option Int :=
  withK (fun (_ : Unit) =>
      some (-1)) fun k1 =>
  loopN (slices_IndexFunc_Grand_L1 n a0 a1 k1) n 0
def diary_grand (n : Nat) (a0 : Diary) (a1 : Str) : Option (Str × Str × Int × Bool) :=
  (slices_IndexFunc_Grand n a0.Grands a1).bind fun y1 =>
  bif decide (y1 < (0 : Int)) then
    some (([] : Str), ([] : Str), 0, false)
  else
    chk (inB y1 a0.Grands.length) <|
    chk (decide (y1.toNat < a0.Grands.length)) <|
    some ((ix a0.Grands y1.toNat).Name, (ix a0.Grands y1.toNat).Place, (ix a0.Grands y1.toNat).Width, true)
def diary_isMinute (n : Nat) (a0 : Int) : Option Unit :=
  (diary_within n a0 0 1000000).bind fun y1 =>
  some ()
def diary_checkItem (n : Nat) (a0 : Diary) (a1 : Item) : Option Int :=
  (diary_grand n a0 a1.Grand).bind fun y1 =>
  (diary_within n a1.Kind 0 3).bind fun y2 =>
  bif !((decide (0 ≤ a1.Kind)) && (decide (a1.Kind ≤ 3))) then
    some 15
  else
    (diary_isMinute n a1.From).bind fun y3 =>
    (gcall (!(!((decide (0 ≤ a1.From)) && (decide (a1.From ≤ 1000000))))) (diary_isMinute n a1.To)).bind fun y4 =>
    bif (!((decide (0 ≤ a1.From)) && (decide (a1.From ≤ 1000000)))) || (!((decide (0 ≤ a1.To)) && (decide (a1.To ≤ 1000000)))) then
      some 2
    else
      bif decide (a1.To ≤ a1.From) then
        some 9
      else
        (gcall (!(!y1.2.2.2)) (slices_Contains_string n a0.Places a1.Place)).bind fun y5 =>
        bif (!y1.2.2.2) || (!y5) then
          some 6
        else
          (gcall (a1.Kind == (0 : Int)) (slices_Contains_string n a0.Technicians a1.Who)).bind fun y6 =>
          bif (a1.Kind == (0 : Int)) && (!y6) then
            some 6
          else
            (gcall (a1.Kind == (3 : Int)) (diary_isName n a1.Who)).bind fun y7 =>
            bif (a1.Kind == (3 : Int)) && (!y7) then
              some 4
            else
              (gcall (a1.Kind == (3 : Int)) (diary_within n a1.Deposit 0 1000000000)).bind fun y8 =>
              bif (a1.Kind == (3 : Int)) && (!((decide (0 ≤ a1.Deposit)) && (decide (a1.Deposit ≤ 1000000000)))) then
                some 2
              else
                withK (fun (v9 : Bool) =>
                    bif v9 then
                      some 3
                    else
                      some 0) fun k1 =>
                bif (a1.Kind != (3 : Int)) && (a1.Deposit != (0 : Int)) then
                  k1 ((a1.Kind != (3 : Int)) && (a1.Deposit != (0 : Int)))
                else
                  k1 (((a1.Kind == (1 : Int)) || (a1.Kind == (2 : Int))) && (!(a1.Who == ([] : Str))))
def diary_plan_changes_f1 (n : Nat) (a0 : Item) (a1 : Int) (a2 : Int) (a3 : Int) (a4 : Str) (a5 : Str) (a6 : Str) (a7 : Int) (a8 : List Str) (a9 : List Str) (a10 : List Road) (a11 : List Grand) (a12 : Int) (a13 : Int) (a14 : List (Int × List (Arr2_Str × Int))) : Option Unit :=
  chk (!(a0.Grand == a4) || inI (a0.To + a12)) <|
  some ()
def slices_IndexFunc_Item_L1 (n : Nat) (a0 : List Item) (a1 : Int) (a2 : Int) (a3 : Int) (a4 : Str) (a5 : Str) (a6 : Str) (a7 : Int) (a8 : List Str) (a9 : List Str) (a10 : List Road) (a11 : List Grand) (a12 : Int) (a13 : Int) (a14 : List (Int × List (Arr2_Str × Int))) (k1 : (Unit → Option Int)) (back : Nat → Option Int) : Nat → Option Int
  | v2 =>
  bif decide (v2 < a0.length) then
    (diary_plan_changes_f1 n (ix a0 v2) a1 a2 a3 a4 a5 a6 a7 a8 a9 a10 a11 a12 a13 a14).bind fun y3 =>
    bif ((ix a0 v2).Grand == a4) && (decide (a2 < ((ix a0 v2).To + a12))) then
      some ((v2 : Nat) : Int)
    else
      chk (nI (v2 + 1)) <|
      back (v2 + 1)
  else
    k1 ()
def slices_IndexFunc_Item (n : Nat) (a0 : List Item) (a1 : Int) (a2 : Int) (a3 : Int) (a4 : Str) (a5 : Str) (a6 : Str) (a7 : Int) (a8 : List Str) (a9 : List Str) (a10 : List Road) (a11 : List Grand) (a12 : Int) (a13 : Int) (a14 : List (Int × List (Arr2_Str × Int))) : Option Int :=
  withK (fun (_ : Unit) =>
      some (-1)) fun k1 =>
  loopN (slices_IndexFunc_Item_L1 n a0 a1 a2 a3 a4 a5 a6 a7 a8 a9 a10 a11 a12 a13 a14 k1) n 0
def slices_ContainsFunc_Item (n : Nat) (a0 : List Item) (a1 : Int) (a2 : Int) (a3 : Int) (a4 : Str) (a5 : Str) (a6 : Str) (a7 : Int) (a8 : List Str) (a9 : List Str) (a10 : List Road) (a11 : List Grand) (a12 : Int) (a13 : Int) (a14 : List (Int × List (Arr2_Str × Int))) : Option Bool :=
  (slices_IndexFunc_Item n a0 a1 a2 a3 a4 a5 a6 a7 a8 a9 a10 a11 a12 a13 a14).bind fun y1 =>
  some (decide ((0 : Int) ≤ y1))
def diary_plan_changes (n : Nat) (a0 : List Str) (a1 : List Str) (a2 : List Road) (a3 : List Grand) (a4 : Int) (a5 : Int) (a6 : List (Int × List (Arr2_Str × Int))) (a7 : List Item) (a8 : Item) : Option Int :=
  (slices_ContainsFunc_Item n a7 a8.Kind a8.From a8.To a8.Grand a8.Place a8.Who a8.Deposit a0 a1 a2 a3 a4 a5 a6).bind fun y1 =>
  bif y1 then
    some 17
  else
    some 0
def diary_plan_place_L1 (a7 : List Item) (a8 : Str) (a9 : Int) (k2 : (Str → Option Str)) (back : Str × Nat → Option Str) : Str × Nat → Option Str
  | (v3, v4) =>
  bif decide (v4 < a7.length) then
    withK (fun (v5 : Str) =>
        chk (nI (v4 + 1)) <|
        back (v5, v4 + 1)) fun k1 =>
    bif ((((ix a7 v4).Kind) == (1 : Int)) && (((ix a7 v4).Grand) == a8)) && (decide (((ix a7 v4).To) ≤ a9)) then
      k1 ((ix a7 v4).Place)
    else
      k1 v3
  else
    k2 v3
def diary_plan_place (n : Nat) (a0 : List Str) (a1 : List Str) (a2 : List Road) (a3 : List Grand) (a4 : Int) (a5 : Int) (a6 : List (Int × List (Arr2_Str × Int))) (a7 : List Item) (a8 : Str) (a9 : Int) : Option Str :=
  (diary_grand n (Diary.mk a0 a1 a2 a3 a4 a5) a8).bind fun y1 =>
  withK (fun (v6 : Str) =>
      some v6) fun k2 =>
  loopN (diary_plan_place_L1 a7 a8 a9 k2) n (y1.2.1, 0)
def diary_plan_stands (n : Nat) (a0 : List Str) (a1 : List Str) (a2 : List Road) (a3 : List Grand) (a4 : Int) (a5 : Int) (a6 : List (Int × List (Arr2_Str × Int))) (a7 : List Item) (a8 : Item) : Option (Int × (List (Int × List (Arr2_Str × Int)))) :=
  (diary_plan_place n a0 a1 a2 a3 a4 a5 a6 a7 a8.Grand a8.From).bind fun y1 =>
  bif (a8.Kind != (1 : Int)) then
    bif !(y1 == a8.Place) then
      some (13, a6)
    else
      some (0, a6)
  else
    (diary_grand n (Diary.mk a0 a1 a2 a3 a4 a5) a8.Grand).bind fun y2 =>
    (diary_plan_distance n a0 a1 a2 a3 a4 a5 a6 y1 a8.Place y2.2.2.1).bind fun y3 =>
    bif (y1 == a8.Place) then
      some (24, y3.2.2)
    else
      bif !y3.2.1 then
        some (12, y3.2.2)
      else
        chk (inI (a8.To - a8.From)) <|
        bif decide ((a8.To - a8.From) < y3.1) then
          some (18, y3.2.2)
        else
          some (0, y3.2.2)
def diary_plan_travels_L1 (n : Nat) (a0 : List Str) (a1 : List Str) (a2 : List Road) (a3 : List Grand) (a4 : Int) (a5 : Int) (a7 : List Item) (a8 : Item) (k2 : ((List (Int × List (Arr2_Str × Int))) → Option (Int × (List (Int × List (Arr2_Str × Int)))))) (back : Nat × (List (Int × List (Arr2_Str × Int))) → Option (Int × (List (Int × List (Arr2_Str × Int))))) : Nat × (List (Int × List (Arr2_Str × Int))) → Option (Int × (List (Int × List (Arr2_Str × Int))))
  | (v3, v4) =>
  bif decide (v3 < a7.length) then
    withK (fun (v6 : (List (Int × List (Arr2_Str × Int)))) =>
        chk (nI (v3 + 1)) <|
        back (v3 + 1, v6)) fun k1 =>
    bif (((ix a7 v3).Kind) != (0 : Int)) || (!(((ix a7 v3).Who) == a8.Who)) then
      k1 v4
    else
      (diary_plan_distance n a0 a1 a2 a3 a4 a5 v4 ((ix a7 v3).Place) a8.Place 1).bind fun y5 =>
      chk (!(!(!y5.2.1)) || inI (((ix a7 v3).To) + y5.1)) <|
      bif (!y5.2.1) || (decide (a8.From < (((ix a7 v3).To) + y5.1))) then
        some (16, y5.2.2)
      else
        k1 y5.2.2
  else
    k2 v4
def diary_plan_travels (n : Nat) (a0 : List Str) (a1 : List Str) (a2 : List Road) (a3 : List Grand) (a4 : Int) (a5 : Int) (a6 : List (Int × List (Arr2_Str × Int))) (a7 : List Item) (a8 : Item) : Option (Int × (List (Int × List (Arr2_Str × Int)))) :=
  bif (a8.Kind != (0 : Int)) then
    some (0, a6)
  else
    withK (fun (v7 : (List (Int × List (Arr2_Str × Int)))) =>
        some (0, v7)) fun k2 =>
    loopN (diary_plan_travels_L1 n a0 a1 a2 a3 a4 a5 a7 a8 k2) n (0, a6)
def diary_plan_tuning (n : Nat) (a0 : List Str) (a1 : List Str) (a2 : List Road) (a3 : List Grand) (a4 : Int) (a5 : Int) (a6 : List (Int × List (Arr2_Str × Int))) (a7 : List Item) (a8 : Item) : Option Int :=
  chk (decide (a7.length ≤ 4611686018427387904)) <|
  some (tuneL a8 a5 a7 a7.length)
def diary_plan_isTuned (n : Nat) (a0 : List Str) (a1 : List Str) (a2 : List Road) (a3 : List Grand) (a4 : Int) (a5 : Int) (a6 : List (Int × List (Arr2_Str × Int))) (a7 : List Item) (a8 : Item) : Option Int :=
  (gcall (a8.Kind == (2 : Int)) (diary_plan_tuning n a0 a1 a2 a3 a4 a5 a6 a7 a8)).bind fun y1 =>
  bif (a8.Kind == (2 : Int)) && (decide (y1 < (0 : Int))) then
    some 26
  else
    some 0
def diary_plan_accept_2_L1 (n : Nat) (a0 : List Str) (a1 : List Str) (a2 : List Road) (a3 : List Grand) (a4 : Int) (a5 : Int) (a7 : List Item) (k1 : ((List (Int × List (Arr2_Str × Int))) → Option (Int × Int × (List (Int × List (Arr2_Str × Int)))))) (back : Int × (List (Int × List (Arr2_Str × Int))) → Option (Int × Int × (List (Int × List (Arr2_Str × Int))))) : Int × (List (Int × List (Arr2_Str × Int))) → Option (Int × Int × (List (Int × List (Arr2_Str × Int))))
  | (v6, v7) =>
  bif decide (v6 < ((a7.length : Nat) : Int)) then
    chk (inB v6 a7.length) <|
    chk (decide (v6.toNat < a7.length)) <|
    (diary_checkItem n (Diary.mk a0 a1 a2 a3 a4 a5) (ix a7 v6.toNat)).bind fun y8 =>
    bif (y8 != (0 : Int)) then
      some (v6, y8, v7)
    else
      chk (!(decide ((0 : Int) < v6)) || inI (v6 - 1)) <|
      chk (!(decide ((0 : Int) < v6)) || inB (v6 - 1) a7.length) <|
      chk (!(decide ((0 : Int) < v6)) || decide ((v6 - 1).toNat < a7.length)) <|
      bif (decide ((0 : Int) < v6)) && (decide (((ix a7 v6.toNat).From) < ((ix a7 ((v6 - 1).toNat)).From))) then
        some (v6, 9, v7)
      else
        chk (inC v6 a7.length) <|
        (diary_plan_changes n a0 a1 a2 a3 a4 a5 v7 (List.take v6.toNat a7) (ix a7 v6.toNat)).bind fun y9 =>
        bif (y9 != (0 : Int)) then
          some (v6, y9, v7)
        else
          (diary_plan_stands n a0 a1 a2 a3 a4 a5 v7 (List.take v6.toNat a7) (ix a7 v6.toNat)).bind fun y10 =>
          bif (y10.1 != (0 : Int)) then
            some (v6, y10.1, y10.2)
          else
            (diary_plan_travels n a0 a1 a2 a3 a4 a5 y10.2 (List.take v6.toNat a7) (ix a7 v6.toNat)).bind fun y11 =>
            bif (y11.1 != (0 : Int)) then
              some (v6, y11.1, y11.2)
            else
              (diary_plan_isTuned n a0 a1 a2 a3 a4 a5 y11.2 (List.take v6.toNat a7) (ix a7 v6.toNat)).bind fun y12 =>
              bif (y12 != (0 : Int)) then
                some (v6, y12, y11.2)
              else
                chk (inI (v6 + 1)) <|
                back (v6 + 1, y11.2)
  else
    k1 v7
def diary_plan_accept_2 (n : Nat) (a0 : List Str) (a1 : List Str) (a2 : List Road) (a3 : List Grand) (a4 : Int) (a5 : Int) (a6 : List (Int × List (Arr2_Str × Int))) (a7 : List Item) : Option (Int × Int × (List (Int × List (Arr2_Str × Int)))) :=
  bif decide (100 < a7.length) then
    some (0, 8, a6)
  else
    withK (fun (v13 : (List (Int × List (Arr2_Str × Int)))) =>
        some ((-1), 0, v13)) fun k1 =>
    loopN (diary_plan_accept_2_L1 n a0 a1 a2 a3 a4 a5 a7 k1) n (0, a6)
def diary_Accept (n : Nat) (a0 : Diary) (a1 : List Item) : Option (Int × Int) :=
  withK (fun (v4 : Int) =>
      bif (v4 != (0 : Int)) then
        some (v4, 0)
      else
        (diary_plan_accept n a1).bind fun y5 =>
        some (y5.2, y5.1)) fun k1 =>
  withK (fun (_ : Unit) =>
      (diary_plan_accept_2 n a0.Places a0.Technicians a0.Roads a0.Grands a0.Change a0.Lasts ([] : List (Int × List (Arr2_Str × Int))) a1).bind fun y6 =>
      some (y6.2.1, y6.1)) fun k2 =>
  (diary_open n a0).bind fun y1 =>
  match y1 with
  | .inl y1 =>
    k1 y1
  | .inr y1 =>
    k2 ()
def diary_read (n : Nat) (a0 : Diary) (a1 : List Item) : Option (Int ⊕ (Int × (List (Int × List (Arr2_Str × Int))))) :=
  withK (fun (v4 : Int) =>
      bif (v4 != (0 : Int)) then
        some (.inl v4)
      else
        (diary_plan_accept n a1).bind fun y5 =>
        some (.inl y5.2)) fun k1 =>
  withK (fun (_ : Unit) =>
      (diary_plan_accept_2 n a0.Places a0.Technicians a0.Roads a0.Grands a0.Change a0.Lasts ([] : List (Int × List (Arr2_Str × Int))) a1).bind fun y6 =>
      some (.inr (y6.2.1, y6.2.2))) fun k2 =>
  (diary_open n a0).bind fun y1 =>
  match y1 with
  | .inl y1 =>
    k1 y1
  | .inr y1 =>
    k2 ()
def agraffelaw09_short_L1 (a0 : List Str) (k1 : (Unit → Option Bool)) (back : Nat → Option Bool) : Nat → Option Bool
  | v1 =>
  bif decide (v1 < a0.length) then
    bif decide (30 < ((ix a0 v1).length)) then
      some false
    else
      chk (nI (v1 + 1)) <|
      back (v1 + 1)
  else
    k1 ()
def agraffelaw09_short (n : Nat) (a0 : List Str) (a1 : Int) (a2 : Int) : Option Bool :=
  withK (fun (_ : Unit) =>
      chk (!((!(decide (((a0.length : Nat) : Int) ≤ a1))) && (decide (a2 < ((a0.length : Nat) : Int)))) || inI (a2 + 3)) <|
      some ((decide (((a0.length : Nat) : Int) ≤ a1)) || ((decide (a2 < ((a0.length : Nat) : Int))) && (decide (((a0.length : Nat) : Int) ≤ (a2 + 3)))))) fun k1 =>
  loopN (agraffelaw09_short_L1 a0 k1) n 0
def agraffelaw09_Light_L2 (a0 : Diary) (k2 : (Unit → Option Bool)) (back : Nat → Option Bool) : Nat → Option Bool
  | v4 =>
  bif decide (v4 < a0.Grands.length) then
    bif (decide (30 < (((ix a0.Grands v4).Name).length))) || (decide (30 < (((ix a0.Grands v4).Place).length))) then
      some false
    else
      chk (nI (v4 + 1)) <|
      back (v4 + 1)
  else
    k2 ()
def agraffelaw09_Light_L1 (a0 : Diary) (k1 : (Unit → Option Bool)) (back : Nat → Option Bool) : Nat → Option Bool
  | v3 =>
  bif decide (v3 < a0.Roads.length) then
    bif (decide (30 < (((ix a0.Roads v3).A).length))) || (decide (30 < (((ix a0.Roads v3).B).length))) then
      some false
    else
      chk (nI (v3 + 1)) <|
      back (v3 + 1)
  else
    k1 ()
def agraffelaw09_Light (n : Nat) (a0 : Diary) : Option Bool :=
  (agraffelaw09_short n a0.Places 6 20).bind fun y1 =>
  (gcall (!(!y1)) (agraffelaw09_short n a0.Technicians 4 12)).bind fun y2 =>
  bif (((((!y1) || (!y2)) || ((decide (8 < a0.Roads.length)) && (decide (a0.Roads.length ≤ 60)))) || (decide (63 < a0.Roads.length))) || ((decide (4 < a0.Grands.length)) && (decide (a0.Grands.length ≤ 12)))) || (decide (15 < a0.Grands.length)) then
    some false
  else
    withK (fun (_ : Unit) =>
        withK (fun (_ : Unit) =>
            some true) fun k2 =>
        loopN (agraffelaw09_Light_L2 a0 k2) n 0) fun k1 =>
    loopN (agraffelaw09_Light_L1 a0 k1) n 0
def agraffelaw09_slim (n : Nat) (a0 : Item) : Option Unit :=
  some ()
def agrafferef09_GrandAt_L1 (a0 : Diary) (a1 : Str) (k1 : (Unit → Option Int)) (back : Nat → Option Int) : Nat → Option Int
  | v1 =>
  bif decide (v1 < a0.Grands.length) then
    bif (((ix a0.Grands v1).Name) == a1) then
      some ((v1 : Nat) : Int)
    else
      chk (nI (v1 + 1)) <|
      back (v1 + 1)
  else
    k1 ()
def agrafferef09_GrandAt (n : Nat) (a0 : Diary) (a1 : Str) : Option Int :=
  withK (fun (_ : Unit) =>
      some (-1)) fun k1 =>
  loopN (agrafferef09_GrandAt_L1 a0 a1 k1) n 0
def agraffelaw09_Few_L1 (n : Nat) (a0 : List Item) (k1 : (Unit → Option Bool)) (back : Nat → Option Bool) : Nat → Option Bool
  | v2 =>
  bif decide (v2 < a0.length) then
    (agraffelaw09_slim n (ix a0 v2)).bind fun y3 =>
    bif !(((decide ((ix a0 v2).Grand.length ≤ 30)) && (decide ((ix a0 v2).Place.length ≤ 30))) && (decide ((ix a0 v2).Who.length ≤ 30))) then
      some false
    else
      chk (nI (v2 + 1)) <|
      back (v2 + 1)
  else
    k1 ()
def agraffelaw09_Few (n : Nat) (a0 : List Item) : Option Bool :=
  withK (fun (_ : Unit) =>
      some ((decide (a0.length ≤ 10)) || ((decide (100 < a0.length)) && (decide (a0.length ≤ 103))))) fun k1 =>
  loopN (agraffelaw09_Few_L1 n a0 k1) n 0
def agraffetop_written (n : Nat)  : Option Bool :=
  (agraffelaw09_Town n).bind fun y1 =>
  (agraffelaw09_Evening n).bind fun y2 =>
  (diary_Accept n (Diary.mk ([([115, 104, 111, 112] : Str), ([104, 97, 108, 108] : Str), ([104, 111, 109, 101] : Str)] : List Str) ([([97, 110, 110] : Str), ([98, 111, 98] : Str)] : List Str) ([(Road.mk ([115, 104, 111, 112] : Str) ([104, 97, 108, 108] : Str) 30 200), (Road.mk ([104, 97, 108, 108] : Str) ([104, 111, 109, 101] : Str) 20 100), (Road.mk ([115, 104, 111, 112] : Str) ([104, 111, 109, 101] : Str) 60 150)] : List Road) ([(Grand.mk ([103] : Str) ([115, 104, 111, 112] : Str) 150), (Grand.mk ([117] : Str) ([104, 111, 109, 101] : Str) 100)] : List Grand) 10 300) ([(Item.mk 1 0 40 ([103] : Str) ([104, 97, 108, 108] : Str) ([] : Str) 0), (Item.mk 0 50 110 ([103] : Str) ([104, 97, 108, 108] : Str) ([97, 110, 110] : Str) 0), (Item.mk 2 200 300 ([103] : Str) ([104, 97, 108, 108] : Str) ([] : Str) 0)] : List Item)).bind fun y3 =>
  some ((y3.1 == (0 : Int)) && (y3.2 == ((-1) : Int)))
def diary_PlaceOf_f1 (n : Nat) (a0 : Item) (a1 : Str) (a2 : Int) : Option Unit :=
  some ()
def slices_IndexFunc_Item_3_L1 (n : Nat) (a0 : List Item) (a1 : Str) (a2 : Int) (k1 : (Unit → Option Int)) (back : Nat → Option Int) : Nat → Option Int
  | v2 =>
  bif decide (v2 < a0.length) then
    (diary_PlaceOf_f1 n (ix a0 v2) a1 a2).bind fun y3 =>
    bif ((((ix a0 v2).Kind == (1 : Int)) && ((ix a0 v2).Grand == a1)) && (decide ((ix a0 v2).From ≤ a2))) && (decide (a2 < (ix a0 v2).To)) then
      some ((v2 : Nat) : Int)
    else
      chk (nI (v2 + 1)) <|
      back (v2 + 1)
  else
    k1 ()
def slices_IndexFunc_Item_3 (n : Nat) (a0 : List Item) (a1 : Str) (a2 : Int) : Option Int :=
  withK (fun (_ : Unit) =>
      some (-1)) fun k1 =>
  loopN (slices_IndexFunc_Item_3_L1 n a0 a1 a2 k1) n 0
def slices_ContainsFunc_Item_3 (n : Nat) (a0 : List Item) (a1 : Str) (a2 : Int) : Option Bool :=
  (slices_IndexFunc_Item_3 n a0 a1 a2).bind fun y1 =>
  some (decide ((0 : Int) ≤ y1))
def diary_PlaceOf (n : Nat) (a0 : Diary) (a1 : List Item) (a2 : Moment) : Option (Int × Str) :=
  withK (fun (v4 : Int) =>
      bif (v4 != (0 : Int)) then
        some (v4, ([] : Str))
      else
        (diary_grand n a0 a2.Grand).bind fun y5 =>
        bif !y5.2.2.2 then
          some (6, ([] : Str))
        else
          (diary_isMinute n a2.Minute).bind fun y6 =>
          bif !((decide (0 ≤ a2.Minute)) && (decide (a2.Minute ≤ 1000000))) then
            some (2, ([] : Str))
          else
            (slices_ContainsFunc_Item_3 n a1 a2.Grand a2.Minute).bind fun y7 =>
            bif y7 then
              some (0, ([] : Str))
            else
              none) fun k1 =>
  withK (fun (v8, v9) =>
      bif (v8 != (0 : Int)) then
        some (v8, ([] : Str))
      else
        (diary_grand n a0 a2.Grand).bind fun y10 =>
        bif !y10.2.2.2 then
          some (6, ([] : Str))
        else
          (diary_isMinute n a2.Minute).bind fun y11 =>
          bif !((decide (0 ≤ a2.Minute)) && (decide (a2.Minute ≤ 1000000))) then
            some (2, ([] : Str))
          else
            (slices_ContainsFunc_Item_3 n a1 a2.Grand a2.Minute).bind fun y12 =>
            bif y12 then
              some (0, ([] : Str))
            else
              (diary_plan_place n a0.Places a0.Technicians a0.Roads a0.Grands a0.Change a0.Lasts v9 a1 a2.Grand a2.Minute).bind fun y13 =>
              some (0, y13)) fun k2 =>
  (diary_read n a0 a1).bind fun y1 =>
  match y1 with
  | .inl y1 =>
    k1 y1
  | .inr y1 =>
    k2 (y1.1, y1.2)
def agrafferef09_Stands_L1 (a1 : List Item) (a2 : Str) (a3 : Int) (k2 : (Str → Option Str)) (back : Str × Nat → Option Str) : Str × Nat → Option Str
  | (v3, v4) =>
  bif decide (v4 < a1.length) then
    withK (fun (v5 : Str) =>
        chk (nI (v4 + 1)) <|
        back (v5, v4 + 1)) fun k1 =>
    bif ((((ix a1 v4).Kind) == (1 : Int)) && (((ix a1 v4).Grand) == a2)) && (decide (((ix a1 v4).To) ≤ a3)) then
      k1 ((ix a1 v4).Place)
    else
      k1 v3
  else
    k2 v3
def agrafferef09_Stands (n : Nat) (a0 : Diary) (a1 : List Item) (a2 : Str) (a3 : Int) : Option Str :=
  (agrafferef09_GrandAt n a0 a2).bind fun y1 =>
  chk (inB y1 a0.Grands.length) <|
  chk (decide (y1.toNat < a0.Grands.length)) <|
  withK (fun (v6 : Str) =>
      some v6) fun k2 =>
  loopN (agrafferef09_Stands_L1 a1 a2 a3 k2) n ((ix a0.Grands y1.toNat).Place, 0)
def diary_Route_f1 (n : Nat) (a0 : Str) (a1 : List Str) (a2 : List Str) (a3 : List Road) (a4 : List Grand) (a5 : Int) (a6 : Int) (a7 : List (Int × List (Arr2_Str × Int))) (a8 : Str) (a9 : Int) (a10 : Str) (a11 : Str) (a12 : Int) : Option (Bool × (List (Int × List (Arr2_Str × Int)))) :=
  (diary_plan_joined n a1 a2 a3 a4 a5 a6 a7 a8 a0 a9).bind fun y1 =>
  (diary_plan_distance n a1 a2 a3 a4 a5 a6 a7 a0 a11 a9).bind fun y2 =>
  chk (!(y1.2 && y2.2.1) || inI (y1.1 + y2.1)) <|
  some ((y1.2 && y2.2.1) && ((y1.1 + y2.1) == a12), y2.2.2)
def slices_IndexFunc_string_3_L1 (n : Nat) (a0 : List Str) (a1 : List Str) (a2 : List Str) (a3 : List Road) (a4 : List Grand) (a5 : Int) (a6 : Int) (a8 : Str) (a9 : Int) (a10 : Str) (a11 : Str) (a12 : Int) (k1 : ((List (Int × List (Arr2_Str × Int))) → Option ((List (Int × List (Arr2_Str × Int))) × Int))) (back : Nat × (List (Int × List (Arr2_Str × Int))) → Option ((List (Int × List (Arr2_Str × Int))) × Int)) : Nat × (List (Int × List (Arr2_Str × Int))) → Option ((List (Int × List (Arr2_Str × Int))) × Int)
  | (v2, v3) =>
  bif decide (v2 < a0.length) then
    (diary_Route_f1 n (ix a0 v2) a1 a2 a3 a4 a5 a6 v3 a8 a9 a10 a11 a12).bind fun y4 =>
    bif y4.1 then
      some (y4.2, ((v2 : Nat) : Int))
    else
      chk (nI (v2 + 1)) <|
      back (v2 + 1, y4.2)
  else
    k1 v3
def slices_IndexFunc_string_3 (n : Nat) (a0 : List Str) (a1 : List Str) (a2 : List Str) (a3 : List Road) (a4 : List Grand) (a5 : Int) (a6 : Int) (a7 : List (Int × List (Arr2_Str × Int))) (a8 : Str) (a9 : Int) (a10 : Str) (a11 : Str) (a12 : Int) : Option ((List (Int × List (Arr2_Str × Int))) × Int) :=
  withK (fun (v5 : (List (Int × List (Arr2_Str × Int)))) =>
      some (v5, (-1))) fun k1 =>
  loopN (slices_IndexFunc_string_3_L1 n a0 a1 a2 a3 a4 a5 a6 a8 a9 a10 a11 a12 k1) n (0, a7)
def diary_Route_L1 (n : Nat) (a0 : Diary) (a1 : Arr2_Str) (a2 : Int) (k3 : ((List Str) → Option (Int × (List Str) × Int))) (back : Str × Int × (List Str) × (List (Int × List (Arr2_Str × Int))) → Option (Int × (List Str) × Int)) : Str × Int × (List Str) × (List (Int × List (Arr2_Str × Int))) → Option (Int × (List Str) × Int)
  | (v11, v12, v13, v14) =>
  bif !(v11 == a1.a1) then
    (slices_IndexFunc_string_3 n a0.Places a0.Places a0.Technicians a0.Roads a0.Grands a0.Change a0.Lasts v14 v11 a2 a1.a0 a1.a1 v12).bind fun y15 =>
    chk (inB y15.2 a0.Places.length) <|
    chk (decide (y15.2.toNat < a0.Places.length)) <|
    (diary_plan_joined n a0.Places a0.Technicians a0.Roads a0.Grands a0.Change a0.Lasts y15.1 v11 (ix a0.Places y15.2.toNat) a2).bind fun y16 =>
    chk (inI (v12 - y16.1)) <|
    chk (room 16 (v13 ++ ([(ix a0.Places y15.2.toNat)] : List Str)).length) <|
    back ((ix a0.Places y15.2.toNat), v12 - y16.1, (v13 ++ ([(ix a0.Places y15.2.toNat)] : List Str)), y15.1)
  else
    k3 v13
def diary_Route (n : Nat) (a0 : Diary) (a1 : Arr2_Str) (a2 : Int) : Option (Int × (List Str) × Int) :=
  withK (fun (v4 : Int) =>
      bif (v4 != (0 : Int)) then
        some (v4, ([] : List Str), 0)
      else
        none) fun k1 =>
  withK (fun (_ : Unit) =>
      (diary_plan_isPlace_2 n a0.Places a0.Technicians a0.Roads a0.Grands a0.Change a0.Lasts ([] : List (Int × List (Arr2_Str × Int))) a1.a0).bind fun y5 =>
      (gcall (!(!y5)) (diary_plan_isPlace_2 n a0.Places a0.Technicians a0.Roads a0.Grands a0.Change a0.Lasts ([] : List (Int × List (Arr2_Str × Int))) a1.a1)).bind fun y6 =>
      bif (!y5) || (!y6) then
        some (6, ([] : List Str), 0)
      else
        (diary_isWidth n a2).bind fun y7 =>
        bif !((decide (1 ≤ a2)) && (decide (a2 ≤ 10000))) then
          some (2, ([] : List Str), 0)
        else
          (diary_plan_distance n a0.Places a0.Technicians a0.Roads a0.Grands a0.Change a0.Lasts ([] : List (Int × List (Arr2_Str × Int))) a1.a0 a1.a1 a2).bind fun y8 =>
          bif !y8.2.1 then
            some (12, ([] : List Str), 0)
          else
            withK (fun (v17 : (List Str)) =>
                some (0, v17, y8.1)) fun k3 =>
            loopN (diary_Route_L1 n a0 a1 a2 k3) n (a1.a0, y8.1, ([a1.a0] : List Str), y8.2.2)) fun k2 =>
  (diary_open n a0).bind fun y1 =>
  match y1 with
  | .inl y1 =>
    k1 y1
  | .inr y1 =>
    k2 ()
def agraffetop_TopOnePlace_L1 (n : Nat) (a0 : Diary) (a1 : List Item) (k2 : (Unit → Option Bool)) (back : Nat → Option Bool) : Nat → Option Bool
  | v10 =>
  bif decide (v10 < a1.length) then
    withK (fun (_ : Unit) =>
        chk (nI (v10 + 1)) <|
        back (v10 + 1)) fun k1 =>
    (diary_PlaceOf n a0 a1 (Moment.mk ((ix a1 v10).Grand) ((ix a1 v10).From))).bind fun y11 =>
    (diary_PlaceOf n a0 a1 (Moment.mk ((ix a1 v10).Grand) ((ix a1 v10).To))).bind fun y12 =>
    bif (y11.1 != (0 : Int)) || (y12.1 != (0 : Int)) then
      some false
    else
      bif (((ix a1 v10).Kind) != (1 : Int)) then
        bif !(y11.2 == ((ix a1 v10).Place)) then
          some false
        else
          k1 ()
      else
        bif !(y11.2 == ([] : Str)) then
          some false
        else
          bif (!(y12.2 == ((ix a1 v10).Place))) && ((!(y12.2 == ([] : Str))) || (decide ((0 : Int) < a0.Change))) then
            some false
          else
            (agrafferef09_GrandAt n a0 ((ix a1 v10).Grand)).bind fun y13 =>
            chk (decide (v10 ≤ a1.length)) <|
            (agrafferef09_Stands n a0 (List.take v10 a1) ((ix a1 v10).Grand) ((ix a1 v10).From)).bind fun y14 =>
            chk (inB y13 a0.Grands.length) <|
            chk (decide (y13.toNat < a0.Grands.length)) <|
            (diary_Route n a0 (Arr2_Str.mk y14 ((ix a1 v10).Place)) ((ix a0.Grands y13.toNat).Width)).bind fun y15 =>
            chk (!(!(y15.1 != (0 : Int))) || inI (((ix a1 v10).To) - ((ix a1 v10).From))) <|
            bif ((y15.1 != (0 : Int)) || (decide ((((ix a1 v10).To) - ((ix a1 v10).From)) < y15.2.2))) || (decide (y15.2.1.length < 2)) then
              some false
            else
              k1 ()
  else
    k2 ()
def agraffetop_TopOnePlace (n : Nat) (a0 : Diary) (a1 : List Item) : Option Bool :=
  (agraffetop_written n).bind fun y1 =>
  bif !y1 then
    some false
  else
    (agraffelaw09_Light n a0).bind fun y2 =>
    (gcall (!(!y2)) (agraffelaw09_Few n a1)).bind fun y3 =>
    bif (!y2) || (!y3) then
      some true
    else
      (diary_Accept n a0 a1).bind fun y4 =>
      bif (y4.1 != (0 : Int)) then
        some true
      else
        bif decide (10 < a1.length) then
          some false
        else
          withK (fun (_ : Unit) =>
              some true) fun k2 =>
          loopN (agraffetop_TopOnePlace_L1 n a0 a1 k2) n 0
end
section
set_option maxRecDepth 4000
open Go
theorem loopN_s {α β : Type} (F : (α → Option β) → α → Option β) (n : Nat) (t : α) : loopN F (n + 1) t = F (loopN F n) t := rfl
@[simp] theorem chk_t {α : Type} (k : Option α) : chk true k = k := rfl
theorem chk_of {α : Type} {b : Bool} {k : Option α} (h : b = true) : chk b k = k := by subst h; rfl
@[simp] theorem withK_eq {α β : Type} (j : α → Option β) (f : (α → Option β) → Option β) : withK j f = f j := rfl
@[simp] theorem gcall_some_ {α : Type} [Inhabited α] (g : Bool) (x : α) : (gcall g (some x)) = some (bif g then x else default) := by cases g <;> rfl
theorem nI_of {n : Nat} (h : n ≤ 9223372036854775807) : nI n = true := by simp [nI, h]
theorem inI_of {n : Int} (h : -9223372036854775808 ≤ n) (h2 : n ≤ 9223372036854775807) : inI n = true := by simp [inI, h, h2]
theorem room_of {b n : Nat} (h : n * b ≤ 140737488355328) (h2 : n ≤ 9223372036854775807) : room b n = true := by simp [room, h, h2]
theorem inB_of {q : Int} {n : Nat} (h : 0 ≤ q) (h2 : q.toNat < n) : inB q n = true := by simp [inB, h, h2]
theorem inC_of {q : Int} {n : Nat} (h : 0 ≤ q) (h2 : q.toNat ≤ n) : inC q n = true := by simp [inC, h, h2]
theorem drop_ix {α : Type} [Inhabited α] {l : List α} {v : Nat} (h : v < l.length) : l.drop v = ix l v :: l.drop (v + 1) := by
  rw [ix_eq h]; exact List.drop_eq_getElem_cons h
theorem drop_nil {α : Type} {l : List α} {v : Nat} (h : ¬ v < l.length) : l.drop v = [] := List.drop_eq_nil_of_le (by omega)
def isL (c : UInt8) : Bool := (decide ((97 : Int) ≤ ((c.toNat : Nat) : Int)) && decide (((c.toNat : Nat) : Int) ≤ (122 : Int))) || (decide ((65 : Int) ≤ ((c.toNat : Nat) : Int)) && decide (((c.toNat : Nat) : Int) ≤ (90 : Int)))
def isD (c : UInt8) : Bool := decide ((48 : Int) ≤ ((c.toNat : Nat) : Int)) && decide (((c.toNat : Nat) : Int) ≤ (57 : Int))
def okC (c : UInt8) : Bool := isL c || isD c || (((c.toNat : Nat) : Int) == (45 : Int))
def nameB (s : Str) : Bool := match s with
  | [] => false
  | c :: r => isL c && r.all okC && decide (r.length < 12)
end
section
set_option maxRecDepth 4000
open Go
theorem bne_t {x : Int} (h : ¬ x = 0) : (x != 0) = true := by simp [bne, h]
def firstE (E : Nat → Int) : Nat → Nat → Int
  | _, 0 => 0
  | v, m + 1 => bif E v != 0 then E v else firstE E (v + 1) m
theorem firstE_zero {E : Nat → Int} : ∀ {m v : Nat}, firstE E v m = 0 → ∀ j, v ≤ j → j < v + m → E j = 0
  | 0, v, _, j, h1, h2 => by omega
  | m + 1, v, h, j, h1, h2 => by
    unfold firstE at h
    by_cases e : E v = 0
    · simp [e] at h
      by_cases hj : j = v
      · rw [hj]; exact e
      · exact firstE_zero h j (by omega) (by omega)
    · rw [bne_t e, cond_true] at h; exact absurd h e
theorem loop_first {σ R : Type} {F : (σ → Option R) → σ → Option R} {st : Nat → σ} {E : Nat → Int} {err : Int → Option R} {k : Option R} {len : Nat}
    (h1 : ∀ back v, v < len → (∀ j, j < v → E j = 0) → F back (st v) = bif E v != 0 then err (E v) else back (st (v + 1)))
    (h2 : ∀ back, (∀ j, j < len → E j = 0) → F back (st len) = k) : ∀ n v, len - v < n → v ≤ len → (∀ j, j < v → E j = 0) → loopN F n (st v) = bif firstE E v (len - v) != 0 then err (firstE E v (len - v)) else k := by
  intro n
  induction n with
  | zero => intro v h; omega
  | succ n ih =>
    intro v hn hv hz
    rw [loopN_s]
    by_cases h : v < len
    · rw [h1 _ v h hz, show len - v = (len - (v + 1)) + 1 by omega]
      unfold firstE
      by_cases e : E v = 0
      · simp only [e, bne_self_eq_false, cond_false]
        exact ih (v + 1) (by omega) (by omega) fun j hj => by
          by_cases hjv : j = v
          · rw [hjv]; exact e
          · exact hz j (by omega)
      · rw [bne_t e, cond_true, cond_true, bne_t e, cond_true]
    · have : v = len := by omega
      subst this
      rw [h2 _ hz, Nat.sub_self]
      simp [firstE]
theorem loop_through {σ R : Type} {F : (σ → Option R) → σ → Option R} {st : Nat → σ} {k : Option R} {len : Nat} (h1 : ∀ back v, v < len → F back (st v) = back (st (v + 1))) (h2 : ∀ back, F back (st len) = k) : ∀ n, len < n → loopN F n (st 0) = k := by
  intro n hn
  have := loop_first (F := F) (st := st) (E := fun _ => 0) (err := fun _ => none) (k := k) (len := len) (fun back v hv _ => by simp [h1 back v hv]) (fun back _ => h2 back) n 0 (by omega) (by omega) (fun _ _ => rfl)
  rw [this, Nat.sub_zero]
  have : firstE (fun _ => (0 : Int)) 0 len = 0 := by
    have : ∀ m v, firstE (fun _ => (0 : Int)) v m = 0 := by
      intro m
      induction m with
      | zero => intro v; rfl
      | succ m ih => intro v; simp [firstE, ih]
    exact this _ _
  rw [this]; rfl
def findI {α : Type} (p : α → Bool) (l : List α) : Int := match l.findIdx? p with
  | some i => ((i : Nat) : Int)
  | none => -1
theorem findI_neg {α : Type} {p : α → Bool} {l : List α} (h : findI p l < 0) : findI p l = -1 ∧ ∀ x ∈ l, p x = false := by
  unfold findI at h ⊢
  split at h
  · omega
  · rename_i e
    rw [List.findIdx?_eq_none_iff] at e
    exact ⟨rfl, e⟩
theorem findI_pos {α : Type} [Inhabited α] {p : α → Bool} {l : List α} (h : ¬ findI p l < 0) : 0 ≤ findI p l ∧ (findI p l).toNat < l.length ∧ p (ix l (findI p l).toNat) = true ∧ ∀ j, j < (findI p l).toNat → p (ix l j) = false := by
  unfold findI at h ⊢
  split at h
  · rename_i i e
    rw [List.findIdx?_eq_some_iff_getElem] at e
    obtain ⟨hi, hp, hb⟩ := e
    refine ⟨by omega, by simpa using hi, ?_, fun j hj => ?_⟩
    · rw [ix_eq (by simpa using hi)]; simpa using hp
    · have hj : j < i := by simpa using hj
      rw [ix_eq (by omega)]
      simpa using hb j hj
  · omega
end
section
set_option maxRecDepth 4000
open Go
theorem loop_find' {α R : Type} [Inhabited α] {l : List α} {p : α → Bool} {F : (Nat → Option R) → Nat → Option R} {yes : Nat → Option R} {no : Option R}
    (h1 : ∀ back v, v < l.length → F back v = bif p (ix l v) then yes v else back (v + 1)) (h2 : ∀ back, F back l.length = no) :
    ∀ n v, v ≤ l.length → l.length - v < n → loopN F n v = match (l.drop v).findIdx? p with | some i => yes (v + i) | none => no := by
  intro n
  induction n with
  | zero => intro v _ h; omega
  | succ n ih =>
    intro v hv hn
    rw [loopN_s]
    by_cases h : v < l.length
    · rw [h1 _ v h, drop_ix h, List.findIdx?_cons]
      cases hp : p (ix l v) with
      | true => simp
      | false =>
        simp only [cond_false, Bool.false_eq_true, if_false]
        rw [ih (v + 1) (by omega) (by omega)]
        cases hh : (l.drop (v + 1)).findIdx? p with
        | none => simp
        | some i => simp [Nat.add_assoc, Nat.add_comm 1 i]
    · have : v = l.length := by omega
      subst this
      rw [h2, drop_nil h]
      simp
theorem any_findIdx {α : Type} (p : α → Bool) (l : List α) : (l.findIdx? p).isSome = l.any p := by
  induction l with
  | nil => rfl
  | cons x l ih =>
    rw [List.findIdx?_cons, List.any_cons]
    cases p x <;> simp [ih]
theorem loop_any' {α R : Type} [Inhabited α] {l : List α} {p : α → Bool} {F : (Nat → Option R) → Nat → Option R} {bad no : Option R}
    (h1 : ∀ back v, v < l.length → F back v = bif p (ix l v) then bad else back (v + 1)) (h2 : ∀ back, F back l.length = no) (n : Nat) (hn : l.length < n) : loopN F n 0 = bif l.any p then bad else no := by
  rw [loop_find' (yes := fun _ => bad) h1 h2 n 0 (by omega) (by omega), List.drop_zero, ← any_findIdx]
  cases l.findIdx? p <;> rfl
theorem loop_findI {α : Type} [Inhabited α] {l : List α} {p : α → Bool} {F : (Nat → Option Int) → Nat → Option Int}
    (h1 : ∀ back v, v < l.length → F back v = bif p (ix l v) then some ((v : Nat) : Int) else back (v + 1)) (h2 : ∀ back, F back l.length = some (-1)) (n : Nat) (hn : l.length < n) : loopN F n 0 = some (findI p l) := by
  rw [loop_find' h1 h2 n 0 (by omega) (by omega), List.drop_zero, findI]
  cases l.findIdx? p <;> simp
theorem findI_any {α : Type} (p : α → Bool) (l : List α) : decide ((0 : Int) ≤ findI p l) = l.any p := by
  rw [← any_findIdx, findI]
  cases l.findIdx? p <;> simp
theorem findI_none {α : Type} (p : α → Bool) (l : List α) : decide (findI p l < (0 : Int)) = !l.any p := by
  rw [← any_findIdx, findI]
  cases l.findIdx? p
  · simp
  · simp only [Option.isSome_some, Bool.not_true, decide_eq_false_iff_not]; omega
theorem loop_fold {σ R : Type} {F : (σ × Nat → Option R) → σ × Nat → Option R} {st : Nat → σ} {k : Option R} {len : Nat} (h1 : ∀ back v, v < len → F back (st v, v) = back (st (v + 1), v + 1)) (h2 : ∀ back, F back (st len, len) = k) (n : Nat) (hn : len < n) {s0 : σ} (h0 : st 0 = s0) : loopN F n (s0, 0) = k := by
  subst h0
  exact loop_through (st := fun v => (st v, v)) h1 h2 n hn
theorem loop_fold' {σ R : Type} {F : (Nat × σ → Option R) → Nat × σ → Option R} {st : Nat → σ} {k : Option R} {len : Nat} (h1 : ∀ back v, v < len → F back (v, st v) = back (v + 1, st (v + 1))) (h2 : ∀ back, F back (len, st len) = k) (n : Nat) (hn : len < n) {s0 : σ} (h0 : st 0 = s0) : loopN F n (0, s0) = k := by
  subst h0
  exact loop_through (st := fun v => (v, st v)) h1 h2 n hn
theorem ix_take {α : Type} [Inhabited α] {l : List α} {i v : Nat} (h : v < i) (hl : v < l.length) : ix (l.take i) v = ix l v := by
  rw [ix_eq (by simp; omega), ix_eq hl, List.getElem_take]
end
section
set_option maxRecDepth 4000
open Go
theorem getD_ix (s : Str) (v : Nat) : List.getD s v 0 = ix s v := by
  simp only [ix, List.getD]; rfl
theorem isName_loop (s : Str) (k : Unit → Option Bool) : ∀ (n v : Nat), s.length - v < n → 0 < v → s.length < 9223372036854775807 → loopN (diary_isName_L1 s k) n v = bif (s.drop v).all okC then k () else some false := by
  intro n
  induction n with
  | zero => intro v h; omega
  | succ n ih =>
    intro v hn hv hl
    rw [loopN_s, diary_isName_L1]
    by_cases h : v < s.length
    · rw [drop_ix h]
      have h2 : ¬ v = 0 := by omega
      simp only [h, getD_ix, decide_true, cond_true, h2, decide_false, Bool.false_or, List.all_cons, nI_of (by omega : v + 1 ≤ 9223372036854775807), chk_t]
      rw [ih (v + 1) (by omega) (by omega) hl]
      have key : (!((decide ((97 : Int) ≤ (((ix s v).toNat : Nat) : Int)) && decide ((((ix s v).toNat : Nat) : Int) ≤ (122 : Int))) || (decide ((65 : Int) ≤ (((ix s v).toNat : Nat) : Int)) && decide ((((ix s v).toNat : Nat) : Int) ≤ (90 : Int)))) && (((((ix s v).toNat : Nat) : Int) != (45 : Int)) && (decide ((((ix s v).toNat : Nat) : Int) < (48 : Int)) || decide ((57 : Int) < (((ix s v).toNat : Nat) : Int))))) = !okC (ix s v) := by
        have hd : (decide ((((ix s v).toNat : Nat) : Int) < (48 : Int)) || decide ((57 : Int) < (((ix s v).toNat : Nat) : Int))) = !isD (ix s v) := by
          simp only [isD, Bool.not_and, ← decide_not, Int.not_le]
        rw [hd]
        show (!isL (ix s v) && _) = _
        simp only [okC]
        cases isL (ix s v) <;> cases isD (ix s v) <;> cases hh : (((((ix s v).toNat : Nat) : Int)) == (45 : Int)) <;> simp [bne, hh]
      rw [key]
      cases okC (ix s v) <;> simp
    · rw [drop_nil h]
      simp [h]
theorem isName_eq (s : Str) (n : Nat) (hn : s.length + 1 < n) (hl : s.length < 9223372036854775807) : diary_isName n s = some (nameB s) := by
  obtain ⟨n, rfl⟩ : ∃ m, n = m + 1 := ⟨n - 1, by omega⟩
  rw [diary_isName, withK_eq, loopN_s, diary_isName_L1]
  cases s with
  | nil => simp [nameB]
  | cons c r =>
    have h0 : 0 < (c :: r).length := by simp
    have hix : ix (c :: r) 0 = c := rfl
    simp only [h0, getD_ix, decide_true, cond_true, hix, Bool.true_or, Bool.and_true, nI_of (by simp : 0 + 1 ≤ 9223372036854775807), chk_t]
    rw [isName_loop _ _ n 1 (by simp at hn ⊢; omega) (by omega) hl]
    show (bif !isL c then some false else _) = _
    simp only [nameB, List.drop_succ_cons, List.drop_zero]
    cases hL : isL c <;> cases hA : r.all okC <;> simp
    omega
variable {n : Nat}
def isS (s : Str) (x : Str) : Bool := x == s
theorem isS_comm (s x : Str) : (s == x) = isS s x := by
  unfold isS
  rw [Bool.eq_iff_iff, beq_iff_eq, beq_iff_eq]
  exact eq_comm
theorem Contains_eq (l : List Str) (s : Str) (hn : l.length < n) (hl : l.length < 9223372036854775807) : slices_Contains_string n l s = some (l.any (isS s)) := by
  rw [slices_Contains_string, slices_Index_string, withK_eq, loop_findI (p := isS s) (fun back v hv => ?_) (fun back => ?_) n hn]
  · simp only [Option.bind_some, findI_any]
  · rw [slices_Index_string_L1]; simp only [hv, decide_true, cond_true, nI_of (by omega : v + 1 ≤ 9223372036854775807), chk_t, isS_comm]
  · rw [slices_Index_string_L1]; simp
theorem Contains2_eq (l : List Str) (s : Str) (hn : l.length < n) (hl : l.length < 9223372036854775807) : slices_Contains_string_2 n l s = some (l.any (isS s)) := by
  rw [slices_Contains_string_2, slices_Index_string_2, withK_eq, loop_findI (p := isS s) (fun back v hv => ?_) (fun back => ?_) n hn]
  · simp only [Option.bind_some, findI_any]
  · rw [slices_Index_string_2_L1]; simp only [hv, decide_true, cond_true, nI_of (by omega : v + 1 ≤ 9223372036854775807), chk_t, isS_comm]
  · rw [slices_Index_string_2_L1]; simp
theorem bif_id {x : Int} : (bif x != 0 then some x else some 0) = some x := by
  by_cases h : x = 0
  · simp [h]
  · rw [bne_t h]; rfl
theorem loop_errs {F : (Nat → Option Int) → Nat → Option Int} {E : Nat → Int} {k : Int} {len : Nat}
    (h1 : ∀ back v, v < len → F back v = bif E v != 0 then some (E v) else back (v + 1)) (h2 : ∀ back, F back len = some k) (hn : len < n) :
    loopN F n 0 = some (bif firstE E 0 len != 0 then firstE E 0 len else k) := by
  rw [loop_first (st := fun v => v) (E := E) (err := some) (k := some k) (len := len) (fun back v hv _ => h1 back v hv) (fun back _ => h2 back) n 0 (by omega) (by omega) (fun j h => by omega), Nat.sub_zero]
  cases firstE E 0 len != 0 <;> rfl
theorem bif_int {x : Int} : (bif x != 0 then x else 0) = x := by
  by_cases h : x = 0
  · simp [h]
  · rw [bne_t h]; rfl
structure OkD (d : Diary) : Prop where
  places : d.Places.length ≤ 23
  techs : d.Technicians.length ≤ 15
  roads : d.Roads.length ≤ 63
  grands : d.Grands.length ≤ 15
  place : ∀ x ∈ d.Places, x.length ≤ 30
  tech : ∀ x ∈ d.Technicians, x.length ≤ 30
  roadA : ∀ x ∈ d.Roads, x.A.length ≤ 30
  roadB : ∀ x ∈ d.Roads, x.B.length ≤ 30
  grandN : ∀ x ∈ d.Grands, x.Name.length ≤ 30
  grandP : ∀ x ∈ d.Grands, x.Place.length ≤ 30
theorem short_eq (l : List Str) (a b : Int) (hn : l.length < n) (hl : l.length ≤ 9223372036854775807) (hb : 0 ≤ b) (hb2 : b ≤ 100) :
    agraffelaw09_short n l a b = some (!(l.any fun s => decide (30 < s.length)) && (decide (((l.length : Nat) : Int) ≤ a) || (decide (b < ((l.length : Nat) : Int)) && decide (((l.length : Nat) : Int) ≤ b + 3)))) := by
  rw [agraffelaw09_short, withK_eq, loop_any' (l := l) (p := fun s => decide (30 < s.length)) (bad := some false) (no := chk (!((!(decide (((l.length : Nat) : Int) ≤ a))) && (decide (b < ((l.length : Nat) : Int)))) || inI (b + 3)) (some ((decide (((l.length : Nat) : Int) ≤ a)) || ((decide (b < ((l.length : Nat) : Int))) && (decide (((l.length : Nat) : Int) ≤ (b + 3))))))) (fun back v hv => ?_) (fun back => ?_) n hn]
  · have hi : inI (b + 3) = true := inI_of (by omega) (by omega)
    simp only [hi, Bool.or_true, chk_t]
    cases l.any _ <;> rfl
  · rw [agraffelaw09_short_L1]; simp only [hv, decide_true, cond_true, nI_of (by omega : v + 1 ≤ 9223372036854775807), chk_t]
  · rw [agraffelaw09_short_L1]; simp
theorem Light_eq (d : Diary) (hn : 1000 < n) (hp : d.Places.length < n) (ht : d.Technicians.length < n) (hp2 : d.Places.length ≤ 9223372036854775807) (ht2 : d.Technicians.length ≤ 9223372036854775807) : ∃ b, agraffelaw09_Light n d = some b ∧ (b = true → OkD d) := by
  rw [agraffelaw09_Light, short_eq (n := n) d.Places 6 20 hp hp2 (by omega) (by omega), short_eq (n := n) d.Technicians 4 12 ht ht2 (by omega) (by omega)]
  simp only [Option.bind_some, gcall_some_]
  have anyf : ∀ {l : List Str}, (l.any fun s => decide (30 < s.length)) = false → ∀ s ∈ l, s.length ≤ 30 := fun h s hs => by
    rw [List.any_eq_false] at h
    have := h s hs
    simpa using this
  generalize hg : (_ || decide (15 < d.Grands.length)) = g
  cases g with
  | true => exact ⟨false, rfl, fun h => by cases h⟩
  | false =>
    simp only [cond_false, withK_eq]
    simp only [Bool.or_eq_false_iff, Bool.not_eq_false', Bool.and_eq_true, decide_eq_false_iff_not] at hg
    obtain ⟨⟨⟨⟨⟨hA, hB⟩, hR1⟩, hR2⟩, hG1⟩, hG2⟩ := hg
    rw [hA.1, hA.2] at hB
    simp only [Bool.and_true, Bool.not_true, Bool.not_false, cond_true, Bool.and_eq_true, Bool.not_eq_true', Bool.or_eq_true, decide_eq_true_eq] at hA hB
    have hR : d.Roads.length ≤ 63 := by omega
    have hG : d.Grands.length ≤ 15 := by omega
    rw [loop_any' (l := d.Roads) (p := fun x => decide (30 < x.A.length) || decide (30 < x.B.length)) (bad := some false) (no := loopN (agraffelaw09_Light_L2 d fun _ => some true) n 0) (fun back v hv => ?_) (fun back => ?_) n (by omega),
      loop_any' (l := d.Grands) (p := fun x => decide (30 < x.Name.length) || decide (30 < x.Place.length)) (bad := some false) (no := some true) (fun back v hv => ?_) (fun back => ?_) n (by omega)]
    · cases h1 : d.Roads.any fun x => decide (30 < x.A.length) || decide (30 < x.B.length) with
      | true => exact ⟨false, rfl, fun h => by cases h⟩
      | false =>
        cases h2 : d.Grands.any fun x => decide (30 < x.Name.length) || decide (30 < x.Place.length) with
        | true => exact ⟨false, rfl, fun h => by cases h⟩
        | false =>
          refine ⟨true, rfl, fun _ => ?_⟩
          rw [List.any_eq_false] at h1 h2
          refine ⟨by omega, by omega, hR, hG, anyf hA.1, anyf hB.1, fun x hx => ?_, fun x hx => ?_, fun x hx => ?_, fun x hx => ?_⟩
          · have := h1 x hx; simp at this; omega
          · have := h1 x hx; simp at this; omega
          · have := h2 x hx; simp at this; omega
          · have := h2 x hx; simp at this; omega
    · rw [agraffelaw09_Light_L2]; simp only [hv, decide_true, cond_true, nI_of (by omega : v + 1 ≤ 9223372036854775807), chk_t]
    · rw [agraffelaw09_Light_L2]; simp
    · rw [agraffelaw09_Light_L1]; simp only [hv, decide_true, cond_true, nI_of (by omega : v + 1 ≤ 9223372036854775807), chk_t]
    · rw [agraffelaw09_Light_L1]; simp
end
section
set_option maxRecDepth 4000
open Go
variable {n : Nat}
def namesE (l : List Str) (v : Nat) : Int := bif !nameB (ix l v) then 4 else bif (l.take v).any (isS (ix l v)) then 5 else 0
def namesD (l : List Str) (most : Int) : Int := bif decide (most < ((l.length : Nat) : Int)) then 8 else firstE (namesE l) 0 l.length
theorem checkName_eq {l : List Str} {s : Str} (hn : 1000 < n) (hs : s.length ≤ 30) (hl : l.length ≤ 900) : diary_checkName n s l = some (bif !nameB s then 4 else bif l.any (isS s) then 5 else 0) := by
  rw [diary_checkName, isName_eq s n (by omega) (by omega)]
  simp only [Option.bind_some, Contains_eq (n := n) l s (by omega) (by omega)]
  cases nameB s <;> cases l.any (isS s) <;> rfl
theorem checkNames_eq {l : List Str} (most : Int) (hn : 1000 < n) (hl : l.length ≤ 900) (hs : ∀ x ∈ l, x.length ≤ 30) : diary_checkNames n l most = some (namesD l most) := by
  rw [diary_checkNames, namesD]
  cases decide (most < ((l.length : Nat) : Int)) with
  | true => rfl
  | false =>
    simp only [cond_false, withK_eq]
    rw [loop_errs (E := namesE l) (k := 0) (fun back v hv => ?_) (fun back => ?_) (by omega : l.length < n), bif_int]
    · rw [diary_checkNames_L1]
      have hle : v ≤ l.length := by omega
      simp only [hv, hle, decide_true, cond_true, chk_t, checkName_eq (n := n) (l := l.take v) hn (hs _ (ix_mem hv)) (by simp; omega), Option.bind_some, nI_of (by omega : v + 1 ≤ 9223372036854775807), namesE]
    · rw [diary_checkNames_L1]; simp
theorem namesD_nodup {l : List Str} {most : Int} (h : namesD l most = 0) : l.Nodup ∧ ((l.length : Nat) : Int) ≤ most ∧ ∀ s ∈ l, nameB s = true := by
  rw [namesD] at h
  cases hm : decide (most < ((l.length : Nat) : Int)) with
  | true => rw [hm] at h; simp at h
  | false =>
    rw [hm, cond_false] at h
    have hz := firstE_zero h
    refine ⟨?_, by simp at hm; omega, fun s hs => ?_⟩
    · rw [List.nodup_iff_pairwise_ne, List.pairwise_iff_getElem]
      intro i j hi hj hij he
      have := hz j (by omega) (by omega)
      rw [namesE, ix_eq hj] at this
      have ha : (l.take j).any (isS l[j]) = true := by
        rw [List.any_eq_true]
        refine ⟨l[i], List.mem_iff_getElem.2 ⟨i, by simp; omega, by simp⟩, ?_⟩
        rw [isS, he]; simp
      rw [ha] at this
      cases hh : nameB l[j] <;> rw [hh] at this <;> simp at this
    · obtain ⟨i, hi, rfl⟩ := List.mem_iff_getElem.1 hs
      have := hz i (by omega) (by omega)
      rw [namesE, ix_eq hi] at this
      cases hh : nameB l[i] with
      | true => rfl
      | false => rw [hh] at this; simp at this
def isG (s : Str) (x : Grand) : Bool := x.Name == s
theorem GrandAt_eq (d : Diary) (s : Str) (hn : d.Grands.length < n) (hl : d.Grands.length < 9223372036854775807) : agrafferef09_GrandAt n d s = some (findI (isG s) d.Grands) := by
  rw [agrafferef09_GrandAt, withK_eq]
  refine loop_findI (fun back v hv => ?_) (fun back => ?_) n hn
  · rw [agrafferef09_GrandAt_L1]; simp only [hv, decide_true, cond_true, nI_of (by omega : v + 1 ≤ 9223372036854775807), chk_t]; rfl
  · rw [agrafferef09_GrandAt_L1]; simp
def isW (w : Int) : Bool := (decide (1 ≤ w)) && (decide (w ≤ 10000))
def roadE (d : Diary) (v : Nat) : Int :=
  bif (!d.Places.any (isS (ix d.Roads v).A)) || (!d.Places.any (isS (ix d.Roads v).B)) then 6 else
  bif (ix d.Roads v).A == (ix d.Roads v).B then 3 else
  bif (!isW (ix d.Roads v).Minutes) || (!isW (ix d.Roads v).Width) then 2 else 0
theorem roads_step (d : Diary) (hd : OkD d) (hn : 1000 < n) (v : Nat) (hv : v < d.Roads.length) (k : Unit → Option Int) (back : Nat → Option Int) :
    diary_checkRoads_L1 n d k back v = bif roadE d v != 0 then some (roadE d v) else back (v + 1) := by
  have hp := hd.places
  have hr := hd.roads
  rw [diary_checkRoads_L1]
  simp only [hv, decide_true, cond_true, Contains_eq (n := n) d.Places _ (by omega) (by omega), Option.bind_some, gcall_some_, diary_within, diary_isWidth, nI_of (by omega : v + 1 ≤ 9223372036854775807), chk_t, roadE, isW]
  cases d.Places.any (isS (ix d.Roads v).A) <;> cases d.Places.any (isS (ix d.Roads v).B) <;> cases (ix d.Roads v).A == (ix d.Roads v).B <;> cases decide (1 ≤ (ix d.Roads v).Minutes) && decide ((ix d.Roads v).Minutes ≤ 10000) <;> cases decide (1 ≤ (ix d.Roads v).Width) && decide ((ix d.Roads v).Width ≤ 10000) <;> rfl
def roadsD (d : Diary) : Int := bif decide (60 < d.Roads.length) then 8 else firstE (roadE d) 0 d.Roads.length
theorem checkRoads_eq (d : Diary) (hd : OkD d) (hn : 1000 < n) : diary_checkRoads n d = some (roadsD d) := by
  have hr := hd.roads
  rw [diary_checkRoads, roadsD]
  cases decide (60 < d.Roads.length) with
  | true => rfl
  | false =>
    simp only [cond_false, withK_eq]
    rw [loop_errs (E := roadE d) (k := 0) (fun back v hv => roads_step d hd hn v hv _ back) (fun back => by rw [diary_checkRoads_L1]; simp) (by omega : d.Roads.length < n), bif_int]
def grandE (d : Diary) (v : Nat) : Int :=
  bif !nameB (ix d.Grands v).Name then 4 else bif (d.Grands.take v).any (isG (ix d.Grands v).Name) then 5 else
  bif !d.Places.any (isS (ix d.Grands v).Place) then 6 else bif !isW (ix d.Grands v).Width then 2 else 0
def grandsD (d : Diary) : Int := bif decide (12 < d.Grands.length) then 8 else firstE (grandE d) 0 d.Grands.length
theorem checkName2_eq {l : List Str} {s : Str} (hn : 1000 < n) (hs : s.length ≤ 30) (hl : l.length ≤ 900) : diary_checkName_2 n s l = some (bif !nameB s then 4 else bif l.any (isS s) then 5 else 0) := by
  rw [diary_checkName_2, isName_eq s n (by omega) (by omega)]
  simp only [Option.bind_some, Contains2_eq (n := n) l s (by omega) (by omega)]
  cases nameB s <;> cases l.any (isS s) <;> rfl
theorem any_mapName (l : List Grand) (s : Str) : (l.map Grand.Name).any (isS s) = l.any (isG s) := by
  rw [List.any_map]; rfl
theorem checkGrands_eq (d : Diary) (hd : OkD d) (hn : 1000 < n) : diary_checkGrands n d = some (grandsD d) := by
  have hg := hd.grands
  have hp := hd.places
  rw [diary_checkGrands, grandsD]
  cases decide (12 < d.Grands.length) with
  | true => rfl
  | false =>
    simp only [cond_false, withK_eq]
    have := loop_first (F := diary_checkGrands_L1 n d fun _ => some 0) (st := fun v => ((d.Grands.take v).map Grand.Name, v)) (E := grandE d) (err := some) (k := some 0) (len := d.Grands.length) (fun back v hv _ => ?_) (fun back _ => ?_) n 0 (by omega) (by omega) (fun j h => by omega)
    · simp only [List.take_zero, List.map_nil, Nat.sub_zero] at this
      rw [this]
      exact bif_id
    · rw [diary_checkGrands_L1]
      have h1 := hd.grandN _ (ix_mem hv)
      have hroom : room 16 ((d.Grands.take v).map Grand.Name ++ [(ix d.Grands v).Name]).length = true := room_of (by simp; omega) (by simp; omega)
      have htake : (d.Grands.take (v + 1)).map Grand.Name = (d.Grands.take v).map Grand.Name ++ [(ix d.Grands v).Name] := by
        rw [List.take_succ_eq_append_getElem hv, ix_eq hv, List.map_append]; rfl
      simp only [hv, decide_true, cond_true, checkName2_eq (n := n) (l := (d.Grands.take v).map Grand.Name) hn h1 (by simp; omega), Option.bind_some, Contains_eq (n := n) d.Places _ (by omega) (by omega), diary_isWidth, diary_within, nI_of (by omega : v + 1 ≤ 9223372036854775807), chk_t, hroom, any_mapName, htake, grandE, isW]
      cases nameB (ix d.Grands v).Name <;> cases (d.Grands.take v).any (isG (ix d.Grands v).Name) <;> cases d.Places.any (isS (ix d.Grands v).Place) <;> cases decide (1 ≤ (ix d.Grands v).Width) && decide ((ix d.Grands v).Width ≤ 10000) <;> rfl
    · rw [diary_checkGrands_L1]; simp
def isBet (a b w : Int) : Bool := (decide (a ≤ w)) && (decide (w ≤ b))
def diaryD (d : Diary) : Int :=
  bif namesD d.Places 20 != 0 then namesD d.Places 20 else bif roadsD d != 0 then roadsD d else bif grandsD d != 0 then grandsD d else
  bif namesD d.Technicians 12 != 0 then namesD d.Technicians 12 else bif (!isBet 0 1000 d.Change) || (!isBet 0 100000 d.Lasts) then 2 else 0
theorem CheckDiary_eq (d : Diary) (hd : OkD d) (hn : 1000 < n) : diary_CheckDiary n d = some (diaryD d) := by
  have hp := hd.places
  have ht := hd.techs
  rw [diary_CheckDiary, checkNames_eq 20 hn (by omega) hd.place]
  simp only [Option.bind_some, checkRoads_eq d hd hn, checkGrands_eq d hd hn, checkNames_eq 12 hn (by omega : d.Technicians.length ≤ 900) hd.tech, diary_within, gcall_some_, diaryD, isBet]
  cases namesD d.Places 20 != 0 <;> cases roadsD d != 0 <;> cases grandsD d != 0 <;> cases namesD d.Technicians 12 != 0 <;> cases decide (0 ≤ d.Change) && decide (d.Change ≤ 1000) <;> cases decide (0 ≤ d.Lasts) && decide (d.Lasts ≤ 100000) <;> rfl
theorem IndexGrand_eq (l : List Grand) (s : Str) (hn : l.length < n) (hl : l.length < 9223372036854775807) : slices_IndexFunc_Grand n l s = some (findI (isG s) l) := by
  rw [slices_IndexFunc_Grand, withK_eq]
  refine loop_findI (fun back v hv => ?_) (fun back => ?_) n hn
  · rw [slices_IndexFunc_Grand_L1]; simp only [hv, diary_grand_f1, Option.bind_some, decide_true, cond_true, nI_of (by omega : v + 1 ≤ 9223372036854775807), chk_t]; rfl
  · rw [slices_IndexFunc_Grand_L1]; simp
def grandOf (l : List Grand) (s : Str) : Option Grand := l.find? (isG s)
theorem grand_eq (d : Diary) (s : Str) (hg : d.Grands.length ≤ 900) (hn : 1000 < n) : diary_grand n d s = some (match grandOf d.Grands s with | some g => (g.Name, g.Place, g.Width, true) | none => ([], [], 0, false)) := by
  rw [diary_grand, IndexGrand_eq (n := n) d.Grands s (by omega) (by omega)]
  simp only [Option.bind_some]
  by_cases h : findI (isG s) d.Grands < 0
  · have := (findI_neg h).2
    have hf : grandOf d.Grands s = none := List.find?_eq_none.2 fun x hx => by rw [this x hx]; simp
    simp [h, hf]
  · obtain ⟨h1, h2, h3, h4⟩ := findI_pos h
    have hf : grandOf d.Grands s = some (ix d.Grands (findI (isG s) d.Grands).toNat) := by
      rw [grandOf, List.find?_eq_some_iff_getElem]
      refine ⟨h3, (findI (isG s) d.Grands).toNat, h2, (ix_eq h2).symm, fun j hj => ?_⟩
      have := h4 j hj
      rw [ix_eq (by omega)] at this
      simp [this]
    have hB : inB (findI (isG s) d.Grands) d.Grands.length = true := inB_of h1 h2
    simp only [hf, hB, h, h2, decide_true, decide_false, cond_false, chk_t]
theorem grandOf_some (l : List Grand) (s : Str) : (grandOf l s).isSome = l.any (isG s) := by
  rw [grandOf, Bool.eq_iff_iff, List.find?_isSome, List.any_eq_true]
def itemD (d : Diary) (x : Item) : Int :=
  bif !isBet 0 3 x.Kind then 15 else bif (!isBet 0 1000000 x.From) || (!isBet 0 1000000 x.To) then 2 else bif decide (x.To ≤ x.From) then 9 else
  bif (!d.Grands.any (isG x.Grand)) || (!d.Places.any (isS x.Place)) then 6 else bif (x.Kind == 0) && (!d.Technicians.any (isS x.Who)) then 6 else
  bif x.Kind == 3 then (bif !nameB x.Who then 4 else bif !isBet 0 1000000000 x.Deposit then 2 else 0) else
  bif (x.Deposit != 0) || ((x.Kind != 0) && (!(x.Who == ([] : Str)))) then 3 else 0
structure OkI (x : Item) : Prop where
  grand : x.Grand.length ≤ 30
  place : x.Place.length ≤ 30
  who : x.Who.length ≤ 30
theorem checkItem_eq (d : Diary) (x : Item) (hp : d.Places.length ≤ 900) (ht : d.Technicians.length ≤ 900) (hg : d.Grands.length ≤ 900) (hx : x.Who.length ≤ 900) (hn : 1000 < n) : diary_checkItem n d x = some (itemD d x) := by
  rw [diary_checkItem, grand_eq d x.Grand hg hn]
  have hG := grandOf_some d.Grands x.Grand
  have hdef : (default : Bool) = false := rfl
  simp only [Option.bind_some, diary_within, diary_isMinute, gcall_some_, Contains_eq (n := n) d.Places x.Place (by omega) (by omega), Contains_eq (n := n) d.Technicians x.Who (by omega) (by omega), isName_eq x.Who n (by omega) (by omega), withK_eq, itemD, hdef]
  rw [← hG]
  show (bif !isBet 0 3 x.Kind then some 15 else bif (!isBet 0 1000000 x.From) || (!isBet 0 1000000 x.To) then some 2 else _) = _
  cases hk : isBet 0 3 x.Kind with
  | false => rfl
  | true =>
    have hk4 : x.Kind = 0 ∨ x.Kind = 1 ∨ x.Kind = 2 ∨ x.Kind = 3 := by
      simp [isBet] at hk; omega
    simp only [Bool.not_true, cond_false]
    cases (!isBet 0 1000000 x.From) || (!isBet 0 1000000 x.To) with
    | true => rfl
    | false =>
    cases decide (x.To ≤ x.From) with
    | true => rfl
    | false =>
    simp only [cond_false, isBet]
    have e0 : ((match grandOf d.Grands x.Grand with | some g => (g.Name, g.Place, g.Width, true) | none => (([] : Str), ([] : Str), (0 : Int), false)).2.2.2) = (grandOf d.Grands x.Grand).isSome := by cases grandOf d.Grands x.Grand <;> rfl
    rw [e0]
    cases (grandOf d.Grands x.Grand).isSome with
    | false => rfl
    | true =>
    cases d.Places.any (isS x.Place) with
    | false => rfl
    | true =>
    rcases hk4 with e | e | e | e <;> rw [e] <;> cases d.Technicians.any (isS x.Who) <;> cases nameB x.Who <;> cases decide (0 ≤ x.Deposit) && decide (x.Deposit ≤ 1000000000) <;> cases x.Deposit != 0 <;> cases x.Who == ([] : Str) <;> rfl
end
section
set_option maxRecDepth 4000
open Go
end
section
set_option maxRecDepth 4000
open Go
theorem lookup_mPut {α β : Type} [BEq α] [LawfulBEq α] (x : α) (v : β) (y : α) : ∀ m : List (α × β), List.lookup y (mPut x v m) = bif y == x then some v else List.lookup y m := by
  intro m
  induction m with
  | nil =>
    simp only [mPut, List.lookup]
    cases y == x <;> rfl
  | cons p m ih =>
    obtain ⟨k, u⟩ := p
    simp only [mPut]
    by_cases h : x = k
    · subst h
      simp only [beq_self_eq_true, List.lookup]
      cases y == x <;> rfl
    · have e : (x == k) = false := by simpa using h
      rw [e]
      simp only [List.lookup]
      cases hy : y == k
      · exact ih
      · have : y = k := eq_of_beq hy
        have : (y == x) = false := by rw [this]; simpa using Ne.symm h
        rw [this]; rfl
theorem take_snoc {α : Type} [Inhabited α] {l : List α} {v : Nat} (h : v < l.length) : l.take (v + 1) = l.take v ++ [ix l v] := by
  rw [List.take_succ_eq_append_getElem h, ix_eq h]
end
section
set_option maxRecDepth 4000
open Go
variable {n : Nat}
def conn (a b : Str) (w : Int) (r : Road) : Bool := (((r.A == a) && (r.B == b)) || ((r.A == b) && (r.B == a))) && (decide (w ≤ r.Width))
def joinStep (a b : Str) (w : Int) (s : Int × Bool) (r : Road) : Int × Bool := bif conn a b w r && ((!s.2) || (decide (r.Minutes < s.1))) then (r.Minutes, true) else s
def joinB (l : List Road) (a b : Str) (w : Int) : Int × Bool := l.foldl (joinStep a b w) (0, false)
theorem joinB_snoc (l : List Road) (r : Road) (a b : Str) (w : Int) : joinB (l ++ [r]) a b w = joinStep a b w (joinB l a b w) r := by
  rw [joinB, List.foldl_append]; rfl
theorem loop_triple {σ τ R : Type} {F : (σ × τ × Nat → Option R) → σ × τ × Nat → Option R} {st : Nat → σ × τ} {k : Option R} {len : Nat} (h1 : ∀ back v, v < len → F back ((st v).1, (st v).2, v) = back ((st (v + 1)).1, (st (v + 1)).2, v + 1)) (h2 : ∀ back, F back ((st len).1, (st len).2, len) = k) (n : Nat) (hn : len < n) {s0 : σ} {t0 : τ} (h0 : st 0 = (s0, t0)) : loopN F n (s0, t0, 0) = k := by
  have := loop_through (st := fun v => ((st v).1, (st v).2, v)) h1 h2 n hn
  simpa only [h0] using this
theorem joined_eq (p t : List Str) (roads : List Road) (g : List Grand) (c ls : Int) (m : List (Int × List (Arr2_Str × Int))) (a b : Str) (w : Int) (hn : 1000 < n) (hl : roads.length ≤ 900) :
    diary_plan_joined n p t roads g c ls m a b w = some (joinB roads a b w) := by
  rw [diary_plan_joined, withK_eq]
  refine loop_triple (st := fun v => joinB (roads.take v) a b w) (len := roads.length) (fun back v hv => ?_) (fun back => ?_) n (by omega) rfl
  · rw [diary_plan_joined_L1]
    simp only [hv, decide_true, cond_true, withK_eq, nI_of (by omega : v + 1 ≤ 9223372036854775807), chk_t, take_snoc hv, joinB_snoc]
    show (bif conn a b w (ix roads v) && _ then _ else _) = _
    simp only [joinStep]
    cases conn a b w (ix roads v) && ((!(joinB (List.take v roads) a b w).2) || (decide ((ix roads v).Minutes < (joinB (List.take v roads) a b w).1))) <;> rfl
  · rw [diary_plan_joined_L1]
    simp only [Nat.lt_irrefl, decide_false, cond_false, List.take_length]
theorem joinB_spec (a b : Str) (w : Int) : ∀ l : List Road, (joinB l a b w).2 = l.any (conn a b w) ∧ ((joinB l a b w).2 = true → (∃ r ∈ l, conn a b w r = true ∧ r.Minutes = (joinB l a b w).1) ∧ ∀ r ∈ l, conn a b w r = true → (joinB l a b w).1 ≤ r.Minutes) := by
  intro l
  suffices h : ∀ l : List Road, (joinB l.reverse a b w).2 = l.reverse.any (conn a b w) ∧ ((joinB l.reverse a b w).2 = true → (∃ r ∈ l.reverse, conn a b w r = true ∧ r.Minutes = (joinB l.reverse a b w).1) ∧ ∀ r ∈ l.reverse, conn a b w r = true → (joinB l.reverse a b w).1 ≤ r.Minutes) by
    have := h l.reverse
    rwa [List.reverse_reverse] at this
  intro l
  induction l with
  | nil => exact ⟨rfl, fun h => by cases h⟩
  | cons r l ih =>
    rw [List.reverse_cons, joinB_snoc, joinStep, List.any_append, List.any_cons, List.any_nil, Bool.or_false, ← ih.1]
    obtain ⟨ih0, ih⟩ := ih
    generalize joinB l.reverse a b w = s at ih0 ih ⊢
    obtain ⟨x, y⟩ := s
    cases hc : conn a b w r with
    | false =>
      simp only [Bool.false_and, cond_false, Bool.or_false, true_and]
      intro hy
      obtain ⟨⟨r', h1, h2⟩, h3⟩ := ih hy
      refine ⟨⟨r', List.mem_append_left _ h1, h2⟩, fun q hq hcq => ?_⟩
      rcases List.mem_append.1 hq with hq | hq
      · exact h3 q hq hcq
      · rw [List.mem_singleton.1 hq, hc] at hcq; cases hcq
    | true =>
      simp only [Bool.true_and, Bool.or_true]
      cases y with
      | false =>
        simp only [Bool.not_false, Bool.true_or, cond_true, true_and, forall_const]
        refine ⟨⟨r, by simp, hc, rfl⟩, fun q hq hcq => ?_⟩
        rcases List.mem_append.1 hq with hq | hq
        · have := List.any_eq_false.1 ih0.symm q hq; exact absurd hcq this
        · rw [List.mem_singleton.1 hq]; exact Int.le_refl _
      | true =>
        obtain ⟨⟨r', h1, h2⟩, h3⟩ := ih rfl
        simp only [Bool.not_true, Bool.false_or]
        by_cases hlt : r.Minutes < x
        · rw [decide_eq_true hlt]
          simp only [cond_true, true_and, forall_const]
          refine ⟨⟨r, by simp, hc, rfl⟩, fun q hq hcq => ?_⟩
          rcases List.mem_append.1 hq with hq | hq
          · have := h3 q hq hcq; simp only at this; omega
          · rw [List.mem_singleton.1 hq]; exact Int.le_refl _
        · rw [decide_eq_false hlt]
          simp only [cond_false, true_and, forall_const]
          refine ⟨⟨r', List.mem_append_left _ h1, h2⟩, fun q hq hcq => ?_⟩
          rcases List.mem_append.1 hq with hq | hq
          · exact h3 q hq hcq
          · rw [List.mem_singleton.1 hq]; show x ≤ r.Minutes; omega
end
section
set_option maxRecDepth 4000
section
variable {α : Type}
inductive Walk (J : α → α → Nat → Prop) (S : α → Prop) : α → α → Nat → Prop
  | refl (a : α) : Walk J S a a 0
  | edge {a b : α} {m : Nat} (h : J a b m) : Walk J S a b m
  | cons {a c b : α} {m l : Nat} (h : J a c m) (hc : S c) (k : Walk J S c b l) : Walk J S a b (m + l)
variable {J : α → α → Nat → Prop} {S S' : α → Prop} {a b c k : α} {l l1 l2 m d : Nat}
theorem Walk.mono (hS : ∀ x, S x → S' x) (h : Walk J S a b l) : Walk J S' a b l := by
  induction h with
  | refl a => exact .refl a
  | edge h => exact .edge h
  | cons h hc _ ih => exact .cons h (hS _ hc) ih
theorem Walk.ends (P : α → Prop) (hJ : ∀ a b m, J a b m → P a ∧ P b) (h : Walk J S a b l) : Walk J P a b l := by
  induction h with
  | refl a => exact .refl a
  | edge h => exact .edge h
  | cons h hc _ ih => exact .cons h (hJ _ _ _ h).2 ih
theorem Walk.trans (h : Walk J S a c l1) (hc : S c) (g : Walk J S c b l2) : Walk J S a b (l1 + l2) := by
  induction h with
  | refl a => simpa using g
  | edge h => exact .cons h hc g
  | cons h hd _ ih =>
    rw [Nat.add_assoc]
    exact .cons h hd (ih hc g)
theorem Walk.split (h : Walk J (fun x => S x ∨ x = k) a b l) : (∃ l', l' ≤ l ∧ Walk J S a b l') ∨ ∃ l1 l2, Walk J S a k l1 ∧ Walk J S k b l2 ∧ l1 + l2 ≤ l := by
  induction h with
  | refl a => exact .inl ⟨0, Nat.le_refl _, .refl a⟩
  | edge h => exact .inl ⟨_, Nat.le_refl _, .edge h⟩
  | @cons a c b m l h hc _ ih =>
    rcases ih with ⟨l', h1, h2⟩ | ⟨l1, l2, h1, h2, h3⟩
    · rcases hc with hc | rfl
      · exact .inl ⟨m + l', by omega, .cons h hc h2⟩
      · exact .inr ⟨m, l', .edge h, h2, by omega⟩
    · rcases hc with hc | rfl
      · exact .inr ⟨m + l1, l2, .cons h hc h1, h2, by omega⟩
      · exact .inr ⟨m, l2, .edge h, h2, by omega⟩
theorem Walk.symm (hJ : ∀ a b m, J a b m → J b a m) (h : Walk J (fun _ => True) a b l) : Walk J (fun _ => True) b a l := by
  induction h with
  | refl a => exact .refl a
  | edge h => exact .edge (hJ _ _ _ h)
  | @cons a c b m l h hc _ ih =>
    rw [Nat.add_comm]
    exact ih.trans trivial (.edge (hJ _ _ _ h))
def IsDist (J : α → α → Nat → Prop) (a b : α) (o : Option Nat) : Prop := (∀ d, o = some d → Walk J (fun _ => True) a b d) ∧ ∀ l, Walk J (fun _ => True) a b l → ∃ d, o = some d ∧ d ≤ l
def TabSound (J : α → α → Nat → Prop) (m : α → α → Option Nat) : Prop := ∀ a b d, m a b = some d → Walk J (fun _ => True) a b d
def TabLe (m m' : α → α → Option Nat) : Prop := ∀ a b d, m a b = some d → ∃ d', m' a b = some d' ∧ d' ≤ d
def TabCl (J : α → α → Nat → Prop) (P S : α → Prop) (m : α → α → Option Nat) : Prop := ∀ a b l, P a → P b → Walk J S a b l → ∃ d, m a b = some d ∧ d ≤ l
theorem TabLe.refl (m : α → α → Option Nat) : TabLe m m := fun _ _ d h => ⟨d, h, Nat.le_refl _⟩
theorem TabLe.trans {m m' m'' : α → α → Option Nat} (h : TabLe m m') (g : TabLe m' m'') : TabLe m m'' := fun a b d e => by
  obtain ⟨d', h1, h2⟩ := h a b d e
  obtain ⟨d'', h3, h4⟩ := g a b d' h1
  exact ⟨d'', h3, by omega⟩
theorem TabCl.step {P : α → Prop} {m m' : α → α → Option Nat} (h : TabCl J P S m) (hk : P k) (hle : TabLe m m')
    (hs : ∀ a b d1 d2, P a → P b → m a k = some d1 → m k b = some d2 → ∃ d, m' a b = some d ∧ d ≤ d1 + d2) : TabCl J P (fun x => S x ∨ x = k) m' := by
  intro a b l ha hb hw
  rcases hw.split with ⟨l', h1, h2⟩ | ⟨l1, l2, h1, h2, h3⟩
  · obtain ⟨d, e1, e2⟩ := h a b l' ha hb h2
    obtain ⟨d', e3, e4⟩ := hle a b d e1
    exact ⟨d', e3, by omega⟩
  · obtain ⟨d1, e1, e2⟩ := h a k l1 ha hk h1
    obtain ⟨d2, e3, e4⟩ := h k b l2 hk hb h2
    obtain ⟨d, e5, e6⟩ := hs a b d1 d2 ha hb e1 e3
    exact ⟨d, e5, by omega⟩
theorem TabCl.dist {P : α → Prop} (hJ : ∀ a b m, J a b m → P a ∧ P b) {m : α → α → Option Nat} (h : TabCl J P P m) (hs : TabSound J m) {a b : α} (ha : P a) (hb : P b) : IsDist J a b (m a b) :=
  ⟨fun d hd => hs a b d hd, fun l hl => h a b l ha hb (hl.ends P hJ)⟩
end
end
section
set_option maxRecDepth 4000
open Go
abbrev Tab := List (Arr2_Str × Int)
def tv (t : Tab) (a b : Str) : Option Int := List.lookup (Arr2_Str.mk a b) t
def tN (t : Tab) (a b : Str) : Option Nat := (tv t a b).map Int.toNat
theorem tv_put (t : Tab) (a b : Str) (v : Int) (x y : Str) : tv (mPut (Arr2_Str.mk a b) v t) x y = if x = a ∧ y = b then some v else tv t x y := by
  rw [tv, lookup_mPut]
  by_cases h : x = a ∧ y = b
  · obtain ⟨rfl, rfl⟩ := h
    simp
  · have : ((Arr2_Str.mk x y) == (Arr2_Str.mk a b)) = false := by
      rw [beq_eq_false_iff_ne]
      intro e
      cases e
      exact h ⟨rfl, rfl⟩
    rw [this, if_neg h]; rfl
def Jn (roads : List Road) (w : Int) (a b : Str) (m : Nat) : Prop := ∃ r ∈ roads, conn a b w r = true ∧ r.Minutes = ((m : Nat) : Int)
def fwStep (p : List Str) (k i j : Nat) (t : Tab) : Tab :=
  bif ((Option.isSome (tv t (ix p i) (ix p k))) && (Option.isSome (tv t (ix p k) (ix p j)))) && ((!(Option.isSome (tv t (ix p i) (ix p j)))) || (decide (((Option.getD (tv t (ix p i) (ix p k)) (0 : Int)) + (Option.getD (tv t (ix p k) (ix p j)) (0 : Int))) < (Option.getD (tv t (ix p i) (ix p j)) (0 : Int))))) then
    mPut (Arr2_Str.mk (ix p i) (ix p j)) ((Option.getD (tv t (ix p i) (ix p k)) (0 : Int)) + (Option.getD (tv t (ix p k) (ix p j)) (0 : Int))) t
  else t
def fwJ (p : List Str) (k i : Nat) (t : Tab) : Nat → Tab
  | 0 => t
  | j + 1 => fwStep p k i j (fwJ p k i t j)
def fwI (p : List Str) (k : Nat) (t : Tab) : Nat → Tab
  | 0 => t
  | i + 1 => fwJ p k i (fwI p k t i) p.length
def fwK (p : List Str) (t : Tab) : Nat → Tab
  | 0 => t
  | k + 1 => fwI p k (fwK p t k) p.length
structure Rnd (J : Str → Str → Nat → Prop) (p : List Str) (k : Nat) (B : Int) (t : Tab) : Prop where
  diag : ∀ x ∈ p, tv t x x = some 0
  lo : ∀ a b v, tv t a b = some v → 0 ≤ v
  hi : ∀ a b v, tv t a b = some v → v ≤ 2 * B
  row : ∀ b v, tv t (ix p k) b = some v → v ≤ B
  col : ∀ a v, tv t a (ix p k) = some v → v ≤ B
  sound : TabSound J (tN t)
  mem : ∀ a b v, tv t a b = some v → a ∈ p ∧ b ∈ p
variable {J : Str → Str → Nat → Prop} {p : List Str} {k i j : Nat} {B : Int} {t : Tab}
theorem tN_some {a b : Str} {d : Nat} (h : tN t a b = some d) (lo : ∀ a b v, tv t a b = some v → 0 ≤ v) : tv t a b = some ((d : Nat) : Int) := by
  rw [tN, Option.map_eq_some_iff] at h
  obtain ⟨v, h1, h2⟩ := h
  have := lo a b v h1
  rw [h1]; congr 1; omega
theorem tN_of {a b : Str} {v : Int} (h : tv t a b = some v) : tN t a b = some v.toNat := by rw [tN, h]; rfl
theorem Rnd.step (h : Rnd J p k B t) (hk : k < p.length) (hi : i < p.length) (hj : j < p.length) :
    Rnd J p k B (fwStep p k i j t) ∧ TabLe (tN t) (tN (fwStep p k i j t)) ∧ ∀ d1 d2, tN t (ix p i) (ix p k) = some d1 → tN t (ix p k) (ix p j) = some d2 → ∃ d, tN (fwStep p k i j t) (ix p i) (ix p j) = some d ∧ d ≤ d1 + d2 := by
  have mi := ix_mem hi
  have mj := ix_mem hj
  have mk := ix_mem hk
  have hkk := h.diag _ mk
  rw [fwStep]
  cases e1 : tv t (ix p i) (ix p k) with
  | none =>
    simp only [Option.isSome_none, Bool.false_and, cond_false]
    refine ⟨h, .refl _, fun d1 d2 h1 => ?_⟩
    rw [tN, e1] at h1; cases h1
  | some x =>
    cases e2 : tv t (ix p k) (ix p j) with
    | none =>
      simp only [Option.isSome_none, Bool.and_false, Bool.false_and, cond_false]
      refine ⟨h, .refl _, fun d1 d2 _ h2 => ?_⟩
      rw [tN, e2] at h2; cases h2
    | some y =>
      have lx := h.lo _ _ _ e1
      have ly := h.lo _ _ _ e2
      have bx := h.col _ _ e1
      have by' := h.row _ _ e2
      have put : (∀ z, tv t (ix p i) (ix p j) = some z → x + y < z) →
          Rnd J p k B (mPut (Arr2_Str.mk (ix p i) (ix p j)) (x + y) t) ∧ TabLe (tN t) (tN (mPut (Arr2_Str.mk (ix p i) (ix p j)) (x + y) t)) ∧ ∀ d1 d2, tN t (ix p i) (ix p k) = some d1 → tN t (ix p k) (ix p j) = some d2 → ∃ d, tN (mPut (Arr2_Str.mk (ix p i) (ix p j)) (x + y) t) (ix p i) (ix p j) = some d ∧ d ≤ d1 + d2 := by
        intro hz
        have nik : ix p i ≠ ix p k := fun e => by
          rw [e] at e1 hz
          rw [hkk] at e1; cases e1
          have := hz y e2
          omega
        have njk : ix p j ≠ ix p k := fun e => by
          rw [e] at e2 hz
          rw [hkk] at e2; cases e2
          have := hz x e1
          omega
        have nij : ix p i ≠ ix p j := fun e => by
          rw [← e] at hz
          have := hz 0 (h.diag _ mi)
          omega
        refine ⟨⟨fun q hq => ?_, fun a b v hv => ?_, fun a b v hv => ?_, fun b v hv => ?_, fun a v hv => ?_, fun a b d hd => ?_, fun a b v hv => ?_⟩, fun a b d hd => ?_, fun d1 d2 h1 h2 => ?_⟩
        · rw [tv_put, if_neg (fun e => nij (e.1.symm.trans e.2))]; exact h.diag q hq
        · rw [tv_put] at hv
          split at hv
          · cases hv; omega
          · exact h.lo _ _ _ hv
        · rw [tv_put] at hv
          split at hv
          · cases hv; omega
          · exact h.hi _ _ _ hv
        · rw [tv_put, if_neg (fun e => nik e.1.symm)] at hv; exact h.row _ _ hv
        · rw [tv_put, if_neg (fun e => njk e.2.symm)] at hv; exact h.col _ _ hv
        · rw [tN, tv_put] at hd
          split at hd
          · rename_i e
            obtain ⟨rfl, rfl⟩ := e
            cases hd
            have w1 := h.sound _ _ _ (tN_of e1)
            have w2 := h.sound _ _ _ (tN_of e2)
            rw [show (x + y).toNat = x.toNat + y.toNat by omega]
            exact w1.trans trivial w2
          · exact h.sound _ _ _ hd
        · rw [tv_put] at hv
          split at hv
          · rename_i e
            obtain ⟨rfl, rfl⟩ := e
            exact ⟨mi, mj⟩
          · exact h.mem _ _ _ hv
        · rw [tN, tv_put]
          by_cases e : a = ix p i ∧ b = ix p j
          · rw [if_pos e]
            obtain ⟨rfl, rfl⟩ := e
            have := hz _ (tN_some hd h.lo)
            exact ⟨_, rfl, by omega⟩
          · rw [if_neg e]; exact ⟨d, hd, Nat.le_refl _⟩
        · rw [tN_of e1] at h1; rw [tN_of e2] at h2
          cases h1; cases h2
          rw [tN, tv_put, if_pos ⟨rfl, rfl⟩]
          exact ⟨_, rfl, by omega⟩
      have keep : ∀ z, tv t (ix p i) (ix p j) = some z → ¬ x + y < z → ∀ d1 d2, tN t (ix p i) (ix p k) = some d1 → tN t (ix p k) (ix p j) = some d2 → ∃ d, tN t (ix p i) (ix p j) = some d ∧ d ≤ d1 + d2 := by
        intro z e3 hz d1 d2 h1 h2
        rw [tN_of e1] at h1; rw [tN_of e2] at h2
        cases h1; cases h2
        exact ⟨_, tN_of e3, by omega⟩
      cases e3 : tv t (ix p i) (ix p j) with
      | none =>
        simp only [Option.isSome_some, Option.isSome_none, Bool.not_false, Bool.true_or, Bool.and_self, cond_true, Option.getD_some]
        exact put fun z hz => by rw [e3] at hz; cases hz
      | some z =>
        simp only [Option.isSome_some, Bool.not_true, Bool.false_or, Bool.true_and, Bool.and_self, Option.getD_some]
        by_cases hz : x + y < z
        · rw [decide_eq_true hz, cond_true]
          exact put fun z' hz' => by rw [e3] at hz'; cases hz'; exact hz
        · rw [decide_eq_false hz, cond_false]
          exact ⟨h, .refl _, keep z e3 hz⟩
theorem Rnd.rowJ (h : Rnd J p k B t) (hk : k < p.length) (hi : i < p.length) : ∀ m, m ≤ p.length →
    Rnd J p k B (fwJ p k i t m) ∧ TabLe (tN t) (tN (fwJ p k i t m)) ∧ ∀ j, j < m → ∀ d1 d2, tN t (ix p i) (ix p k) = some d1 → tN t (ix p k) (ix p j) = some d2 → ∃ d, tN (fwJ p k i t m) (ix p i) (ix p j) = some d ∧ d ≤ d1 + d2 := by
  intro m
  induction m with
  | zero => intro _; exact ⟨h, .refl _, fun j hj => absurd hj (Nat.not_lt_zero _)⟩
  | succ m ih =>
    intro hm
    obtain ⟨r, le, cl⟩ := ih (by omega)
    obtain ⟨r2, le2, cl2⟩ := r.step hk hi (by omega : m < p.length)
    refine ⟨r2, le.trans le2, fun j hj d1 d2 h1 h2 => ?_⟩
    by_cases e : j = m
    · subst e
      obtain ⟨e1, g1, l1⟩ := le _ _ _ h1
      obtain ⟨e2, g2, l2⟩ := le _ _ _ h2
      obtain ⟨d, g3, l3⟩ := cl2 e1 e2 g1 g2
      exact ⟨d, g3, by omega⟩
    · obtain ⟨d, g, l⟩ := cl j (by omega) d1 d2 h1 h2
      obtain ⟨d', g', l'⟩ := le2 _ _ _ g
      exact ⟨d', g', by omega⟩
theorem Rnd.rowsI (h : Rnd J p k B t) (hk : k < p.length) : ∀ m, m ≤ p.length →
    Rnd J p k B (fwI p k t m) ∧ TabLe (tN t) (tN (fwI p k t m)) ∧ ∀ i, i < m → ∀ j, j < p.length → ∀ d1 d2, tN t (ix p i) (ix p k) = some d1 → tN t (ix p k) (ix p j) = some d2 → ∃ d, tN (fwI p k t m) (ix p i) (ix p j) = some d ∧ d ≤ d1 + d2 := by
  intro m
  induction m with
  | zero => intro _; exact ⟨h, .refl _, fun j hj => absurd hj (Nat.not_lt_zero _)⟩
  | succ m ih =>
    intro hm
    obtain ⟨r, le, cl⟩ := ih (by omega)
    obtain ⟨r2, le2, cl2⟩ := r.rowJ hk (by omega : m < p.length) p.length (Nat.le_refl _)
    refine ⟨r2, le.trans le2, fun i hi j hj d1 d2 h1 h2 => ?_⟩
    by_cases e : i = m
    · subst e
      obtain ⟨e1, g1, l1⟩ := le _ _ _ h1
      obtain ⟨e2, g2, l2⟩ := le _ _ _ h2
      obtain ⟨d, g3, l3⟩ := cl2 j hj e1 e2 g1 g2
      exact ⟨d, g3, by omega⟩
    · obtain ⟨d, g, l⟩ := cl i (by omega) j hj d1 d2 h1 h2
      obtain ⟨d', g', l'⟩ := le2 _ _ _ g
      exact ⟨d', g', by omega⟩
structure Tbl (J : Str → Str → Nat → Prop) (p : List Str) (B : Int) (t : Tab) : Prop where
  diag : ∀ x ∈ p, tv t x x = some 0
  lo : ∀ a b v, tv t a b = some v → 0 ≤ v
  hi : ∀ a b v, tv t a b = some v → v ≤ B
  sound : TabSound J (tN t)
  mem : ∀ a b v, tv t a b = some v → a ∈ p ∧ b ∈ p
theorem Tbl.rnd (h : Tbl J p B t) (hB : 0 ≤ B) (k : Nat) : Rnd J p k B t := ⟨h.diag, h.lo, fun a b v e => by have := h.hi a b v e; omega, fun b v e => h.hi _ _ _ e, fun a v e => h.hi _ _ _ e, h.sound, h.mem⟩
theorem Rnd.tbl (h : Rnd J p k B t) : Tbl J p (2 * B) t := ⟨h.diag, h.lo, h.hi, h.sound, h.mem⟩
theorem Tbl.rounds (h : Tbl J p B t) (hB : 0 ≤ B) (hcl : TabCl J (· ∈ p) (fun _ => False) (tN t)) : ∀ m, m ≤ p.length → Tbl J p (B * 2 ^ m) (fwK p t m) ∧ TabCl J (· ∈ p) (fun x => ∃ k, k < m ∧ x = ix p k) (tN (fwK p t m)) := by
  intro m
  induction m with
  | zero =>
    intro _
    refine ⟨by rw [Int.pow_zero, Int.mul_one]; exact h, ?_⟩
    intro a b l ha hb hw
    exact hcl a b l ha hb (hw.mono fun x hx => by obtain ⟨k, hk, _⟩ := hx; omega)
  | succ m ih =>
    intro hm
    obtain ⟨t1, cl⟩ := ih (by omega)
    have hB2 : 0 ≤ B * 2 ^ m := Int.mul_nonneg hB (Int.pow_nonneg (by decide))
    obtain ⟨r, le, st⟩ := (t1.rnd hB2 m).rowsI (by omega : m < p.length) p.length (Nat.le_refl _)
    refine ⟨?_, ?_⟩
    · have := r.tbl
      rw [show B * 2 ^ (m + 1) = 2 * (B * 2 ^ m) by rw [Int.pow_succ, ← Int.mul_assoc, Int.mul_comm]]
      exact this
    · have c2 := cl.step (k := ix p m) (ix_mem (by omega : m < p.length)) le (fun a b d1 d2 ha hb h1 h2 => by
        obtain ⟨i, hi, rfl⟩ := List.mem_iff_getElem.1 ha
        obtain ⟨j, hj, rfl⟩ := List.mem_iff_getElem.1 hb
        rw [← ix_eq hi] at h1 ⊢
        rw [← ix_eq hj] at h2 ⊢
        exact st i hi j hj d1 d2 h1 h2)
      intro a b l ha hb hw
      refine c2 a b l ha hb (hw.mono fun x hx => ?_)
      obtain ⟨k, hk, rfl⟩ := hx
      by_cases e : k = m
      · exact .inr (by rw [e])
      · exact .inl ⟨k, by omega, rfl⟩
end
section
set_option maxRecDepth 4000
open Go
def initRow (p : List Str) (roads : List Road) (w : Int) (i : Nat) (t : Tab) : Nat → Tab
  | 0 => t
  | j + 1 => bif (joinB roads (ix p i) (ix p j) w).2 && (!(ix p i == ix p j)) then mPut (Arr2_Str.mk (ix p i) (ix p j)) (joinB roads (ix p i) (ix p j) w).1 (initRow p roads w i t j) else initRow p roads w i t j
def initT (p : List Str) (roads : List Road) (w : Int) : Nat → Tab
  | 0 => []
  | i + 1 => initRow p roads w i (mPut (Arr2_Str.mk (ix p i) (ix p i)) 0 (initT p roads w i)) p.length
def tabW (p : List Str) (roads : List Road) (w : Int) : Tab := fwK p (initT p roads w p.length) p.length
structure OkR (p : List Str) (roads : List Road) : Prop where
  nodup : p.Nodup
  len : p.length ≤ 20
  rlen : roads.length ≤ 60
  mem : ∀ r ∈ roads, r.A ∈ p ∧ r.B ∈ p
  ne : ∀ r ∈ roads, r.A ≠ r.B
  lo : ∀ r ∈ roads, 1 ≤ r.Minutes
  hi : ∀ r ∈ roads, r.Minutes ≤ 10000
theorem diaryD_zero {d : Diary} (h : diaryD d = 0) : OkR d.Places d.Roads ∧ (∀ g ∈ d.Grands, g.Place ∈ d.Places ∧ 1 ≤ g.Width ∧ g.Width ≤ 10000) ∧ d.Grands.length ≤ 12 ∧ d.Technicians.length ≤ 12 ∧ (0 ≤ d.Change ∧ d.Change ≤ 1000) ∧ (0 ≤ d.Lasts ∧ d.Lasts ≤ 100000) := by
  rw [diaryD] at h
  have h1 : namesD d.Places 20 = 0 := Decidable.byContradiction fun c => by
    rw [bne_t c, cond_true] at h; exact c h
  have h2 : roadsD d = 0 := Decidable.byContradiction fun c => by
    rw [h1, bne_t c] at h; exact c h
  have h3 : grandsD d = 0 := Decidable.byContradiction fun c => by
    rw [h1, h2, bne_t c] at h; exact c h
  have h4 : namesD d.Technicians 12 = 0 := Decidable.byContradiction fun c => by
    rw [h1, h2, h3, bne_t c] at h; exact c h
  rw [h1, h2, h3, h4] at h
  simp only [bne_self_eq_false, cond_false] at h
  have hcl : isBet 0 1000 d.Change = true ∧ isBet 0 100000 d.Lasts = true := by
    cases e1 : isBet 0 1000 d.Change <;> cases e2 : isBet 0 100000 d.Lasts <;> simp [e1, e2] at h ⊢
  obtain ⟨nd, nl, _⟩ := namesD_nodup h1
  obtain ⟨_, tl, _⟩ := namesD_nodup h4
  have hr60 : d.Roads.length ≤ 60 := by
    rw [roadsD] at h2
    cases e : decide (60 < d.Roads.length) with
    | true => rw [e] at h2; simp at h2
    | false => simp at e; omega
  have hrz : ∀ r ∈ d.Roads, r.A ∈ d.Places ∧ r.B ∈ d.Places ∧ r.A ≠ r.B ∧ isW r.Minutes = true ∧ isW r.Width = true := by
    intro r hr
    rw [roadsD, decide_eq_false (by omega : ¬ 60 < d.Roads.length), cond_false] at h2
    obtain ⟨i, hi, rfl⟩ := List.mem_iff_getElem.1 hr
    have := firstE_zero h2 i (by omega) (by omega)
    rw [roadE, ix_eq hi] at this
    have mem : ∀ s : Str, d.Places.any (isS s) = true → s ∈ d.Places := fun s hs => by
      obtain ⟨x, hx, e⟩ := List.any_eq_true.1 hs
      rw [isS, beq_iff_eq] at e; rwa [← e]
    cases a1 : d.Places.any (isS d.Roads[i].A) with
    | false => rw [a1] at this; simp at this
    | true =>
      cases a2 : d.Places.any (isS d.Roads[i].B) with
      | false => rw [a1, a2] at this; simp at this
      | true =>
        by_cases a3 : d.Roads[i].A = d.Roads[i].B
        · rw [a1, a2, a3, beq_self_eq_true] at this; simp at this
        · have a3' : (d.Roads[i].A == d.Roads[i].B) = false := beq_eq_false_iff_ne.2 a3
          cases a4 : isW d.Roads[i].Minutes with
          | false => rw [a1, a2, a3', a4] at this; simp at this
          | true =>
            cases a5 : isW d.Roads[i].Width with
            | false => rw [a1, a2, a3', a4, a5] at this; simp at this
            | true => exact ⟨mem _ a1, mem _ a2, a3, rfl, rfl⟩
  have hg12 : d.Grands.length ≤ 12 := by
    rw [grandsD] at h3
    cases e : decide (12 < d.Grands.length) with
    | true => rw [e] at h3; simp at h3
    | false => simp at e; omega
  have hgz : ∀ g ∈ d.Grands, g.Place ∈ d.Places ∧ 1 ≤ g.Width ∧ g.Width ≤ 10000 := by
    intro r hr
    rw [grandsD, decide_eq_false (by omega : ¬ 12 < d.Grands.length), cond_false] at h3
    obtain ⟨i, hi, rfl⟩ := List.mem_iff_getElem.1 hr
    have := firstE_zero h3 i (by omega) (by omega)
    rw [grandE, ix_eq hi] at this
    cases a0 : nameB d.Grands[i].Name with
    | false => rw [a0] at this; simp at this
    | true =>
      cases a1 : (d.Grands.take i).any (isG d.Grands[i].Name) with
      | true => rw [a0, a1] at this; simp at this
      | false =>
        cases a2 : d.Places.any (isS d.Grands[i].Place) with
        | false => rw [a0, a1, a2] at this; simp at this
        | true =>
          cases a3 : isW d.Grands[i].Width with
          | false => rw [a0, a1, a2, a3] at this; simp at this
          | true =>
            obtain ⟨x, hx, e⟩ := List.any_eq_true.1 a2
            rw [isS, beq_iff_eq] at e
            simp only [isW, Bool.and_eq_true, decide_eq_true_eq] at a3
            exact ⟨by rwa [← e], a3.1, a3.2⟩
  have toW : ∀ {x : Int}, isW x = true → 1 ≤ x ∧ x ≤ 10000 := fun h => by simpa [isW] using h
  refine ⟨⟨nd, by omega, hr60, fun r hr => ⟨(hrz r hr).1, (hrz r hr).2.1⟩, fun r hr => (hrz r hr).2.2.1, fun r hr => (toW (hrz r hr).2.2.2.1).1, fun r hr => (toW (hrz r hr).2.2.2.1).2⟩, hgz, hg12, by omega, ?_, ?_⟩
  · simpa [isBet] using hcl.1
  · simpa [isBet] using hcl.2
variable {p : List Str} {roads : List Road} {w : Int}
theorem Jn_mem (ok : OkR p roads) {a b : Str} {m : Nat} (h : Jn roads w a b m) : a ∈ p ∧ b ∈ p ∧ a ≠ b ∧ 1 ≤ m := by
  obtain ⟨r, h1, h2, h3⟩ := h
  have hm := ok.mem r h1
  have hne := ok.ne r h1
  have hlo := ok.lo r h1
  simp only [conn, Bool.and_eq_true, Bool.or_eq_true, beq_iff_eq] at h2
  rcases h2.1 with ⟨rfl, rfl⟩ | ⟨rfl, rfl⟩
  · exact ⟨hm.1, hm.2, hne, by omega⟩
  · exact ⟨hm.2, hm.1, fun e => hne e.symm, by omega⟩
structure Ini (p : List Str) (roads : List Road) (w : Int) (t : Tab) (done : Nat → Nat → Prop) : Prop where
  lo : ∀ a b v, tv t a b = some v → 0 ≤ v
  hi : ∀ a b v, tv t a b = some v → v ≤ 10000
  sound : TabSound (Jn roads w) (tN t)
  mem : ∀ a b v, tv t a b = some v → a ∈ p ∧ b ∈ p
  diag : ∀ a v, tv t a a = some v → v = 0
  all : ∀ i j, done i j → i < p.length → j < p.length → (i = j → tv t (ix p i) (ix p j) = some 0) ∧ ∀ m, Jn roads w (ix p i) (ix p j) m → ∃ v, tv t (ix p i) (ix p j) = some v ∧ v ≤ ((m : Nat) : Int)
theorem ix_inj (nd : p.Nodup) {i j : Nat} (hi : i < p.length) (hj : j < p.length) (h : ix p i = ix p j) : i = j := by
  rw [ix_eq hi, ix_eq hj] at h
  exact (List.getElem_inj nd).1 h
theorem Ini.diagPut {t : Tab} {done : Nat → Nat → Prop} (ok : OkR p roads) (h : Ini p roads w t done) {i : Nat} (hi : i < p.length) : Ini p roads w (mPut (Arr2_Str.mk (ix p i) (ix p i)) 0 t) (fun a b => done a b ∨ (a = i ∧ b = i)) := by
  refine ⟨fun a b v hv => ?_, fun a b v hv => ?_, fun a b d hd => ?_, fun a b v hv => ?_, fun a v hv => ?_, fun a b hd ha hb => ?_⟩
  · rw [tv_put] at hv; split at hv
    · cases hv; omega
    · exact h.lo _ _ _ hv
  · rw [tv_put] at hv; split at hv
    · cases hv; omega
    · exact h.hi _ _ _ hv
  · rw [tN, tv_put] at hd; split at hd
    · rename_i e; obtain ⟨rfl, rfl⟩ := e; cases hd; exact .refl _
    · exact h.sound _ _ _ hd
  · rw [tv_put] at hv; split at hv
    · rename_i e; obtain ⟨rfl, rfl⟩ := e; exact ⟨ix_mem hi, ix_mem hi⟩
    · exact h.mem _ _ _ hv
  · rw [tv_put] at hv; split at hv
    · cases hv; rfl
    · exact h.diag _ _ hv
  · rw [tv_put]
    by_cases e : ix p a = ix p i ∧ ix p b = ix p i
    · rw [if_pos e]
      refine ⟨fun _ => rfl, fun m hm => ⟨0, rfl, by omega⟩⟩
    · rw [if_neg e]
      rcases hd with hd | ⟨rfl, rfl⟩
      · exact h.all a b hd ha hb
      · exact absurd ⟨rfl, rfl⟩ e
theorem Ini.row {t : Tab} {done : Nat → Nat → Prop} (ok : OkR p roads) (h : Ini p roads w t done) {i : Nat} (hi : i < p.length) (hdi : done i i) : ∀ m, m ≤ p.length → Ini p roads w (initRow p roads w i t m) (fun a b => done a b ∨ (a = i ∧ b < m)) := by
  intro m
  induction m with
  | zero =>
    intro _
    exact ⟨h.lo, h.hi, h.sound, h.mem, h.diag, fun a b hd => by
      rcases hd with hd | ⟨_, hd⟩
      · exact h.all a b hd
      · omega⟩
  | succ m ih =>
    intro hm
    have g := ih (by omega)
    have hmm : m < p.length := by omega
    unfold initRow
    have spec := joinB_spec (ix p i) (ix p m) w roads
    have mono : ∀ a b, (done a b ∨ (a = i ∧ b < m + 1)) → (done a b ∨ (a = i ∧ b < m)) ∨ (a = i ∧ b = m) := fun a b hd => by
      rcases hd with hd | ⟨rfl, hd⟩
      · exact .inl (.inl hd)
      · by_cases e : b = m
        · exact .inr ⟨rfl, e⟩
        · exact .inl (.inr ⟨rfl, by omega⟩)
    cases hc : (joinB roads (ix p i) (ix p m) w).2 && (!(ix p i == ix p m)) with
    | false =>
      rw [cond_false]
      refine ⟨g.lo, g.hi, g.sound, g.mem, g.diag, fun a b hd ha hb => ?_⟩
      rcases mono a b hd with hd | ⟨rfl, rfl⟩
      · exact g.all a b hd ha hb
      · by_cases e : a = b
        · subst e; exact g.all a a (.inl hdi) ha hb
        · have hne : ¬ ix p a = ix p b := fun h => e (ix_inj ok.nodup ha hb h)
          refine ⟨fun h => absurd h e, fun q hq => ?_⟩
          have : (ix p a == ix p b) = false := beq_eq_false_iff_ne.2 hne
          rw [this, Bool.not_false, Bool.and_true, spec.1] at hc
          obtain ⟨r, h1, h2, _⟩ := hq
          exact absurd h2 (List.any_eq_false.1 hc r h1)
    | true =>
      rw [Bool.and_eq_true, Bool.not_eq_true', beq_eq_false_iff_ne] at hc
      obtain ⟨⟨r, hr, hcr, hmr⟩, hmin⟩ := spec.2 hc.1
      have lo := ok.lo r hr
      have hi' := ok.hi r hr
      rw [cond_true]
      refine ⟨fun a b v hv => ?_, fun a b v hv => ?_, fun a b d hd => ?_, fun a b v hv => ?_, fun a v hv => ?_, fun a b hd ha hb => ?_⟩
      · rw [tv_put] at hv; split at hv
        · cases hv; omega
        · exact g.lo _ _ _ hv
      · rw [tv_put] at hv; split at hv
        · cases hv; omega
        · exact g.hi _ _ _ hv
      · rw [tN, tv_put] at hd; split at hd
        · rename_i e; obtain ⟨rfl, rfl⟩ := e; cases hd
          exact .edge ⟨r, hr, hcr, by omega⟩
        · exact g.sound _ _ _ hd
      · rw [tv_put] at hv; split at hv
        · rename_i e; obtain ⟨rfl, rfl⟩ := e; exact ⟨ix_mem hi, ix_mem hmm⟩
        · exact g.mem _ _ _ hv
      · rw [tv_put, if_neg (fun e => hc.2 (e.1.symm.trans e.2))] at hv
        exact g.diag _ _ hv
      · rw [tv_put]
        by_cases e : ix p a = ix p i ∧ ix p b = ix p m
        · rw [if_pos e]
          have ea := ix_inj ok.nodup ha hi e.1
          have eb := ix_inj ok.nodup hb hmm e.2
          subst ea; subst eb
          refine ⟨fun h => absurd (by rw [h]) hc.2, fun q hq => ⟨_, rfl, ?_⟩⟩
          obtain ⟨r', h1, h2, h3⟩ := hq
          have := hmin r' h1 h2
          omega
        · rw [if_neg e]
          rcases mono a b hd with hd | ⟨rfl, rfl⟩
          · exact g.all a b hd ha hb
          · exact absurd ⟨rfl, rfl⟩ e
theorem Ini.rows (ok : OkR p roads) : ∀ m, m ≤ p.length → Ini p roads w (initT p roads w m) (fun a _ => a < m) := by
  intro m
  induction m with
  | zero =>
    intro _
    exact ⟨fun a b v hv => (by cases hv), fun a b v hv => (by cases hv), fun a b v hv => (by cases hv), fun a b v hv => (by cases hv), fun a v hv => (by cases hv), fun a b hd => absurd hd (Nat.not_lt_zero _)⟩
  | succ m ih =>
    intro hm
    have g := ((ih (by omega)).diagPut ok (by omega : m < p.length)).row ok (by omega : m < p.length) (.inr ⟨rfl, rfl⟩) p.length (Nat.le_refl _)
    refine ⟨g.lo, g.hi, g.sound, g.mem, g.diag, fun a b hd ha hb => g.all a b ?_ ha hb⟩
    by_cases e : a = m
    · exact .inr ⟨e, hb⟩
    · exact .inl (.inl (by omega))
theorem walk_none {a b : Str} {l : Nat} (h : Walk (Jn roads w) (fun _ => False) a b l) : (l = 0 ∧ a = b) ∨ Jn roads w a b l := by
  cases h with
  | refl => exact .inl ⟨rfl, rfl⟩
  | edge h => exact .inr h
  | cons h hc k => exact hc.elim
theorem init_tbl (ok : OkR p roads) : Tbl (Jn roads w) p 10000 (initT p roads w p.length) ∧ TabCl (Jn roads w) (· ∈ p) (fun _ => False) (tN (initT p roads w p.length)) := by
  have g := Ini.rows (w := w) ok p.length (Nat.le_refl _)
  refine ⟨⟨fun x hx => ?_, g.lo, g.hi, g.sound, g.mem⟩, fun a b l ha hb hw => ?_⟩
  · obtain ⟨i, hi, rfl⟩ := List.mem_iff_getElem.1 hx
    have := (g.all i i hi hi hi).1 rfl
    rwa [ix_eq hi] at this
  · obtain ⟨i, hi, rfl⟩ := List.mem_iff_getElem.1 ha
    obtain ⟨j, hj, rfl⟩ := List.mem_iff_getElem.1 hb
    have ga := g.all i j hi hi hj
    rw [ix_eq hi, ix_eq hj] at ga
    rcases walk_none hw with ⟨rfl, he⟩ | h
    · have e : i = j := (List.getElem_inj ok.nodup).1 he
      exact ⟨0, by rw [tN_of (ga.1 e)]; rfl, Nat.le_refl _⟩
    · obtain ⟨v, h1, h2⟩ := ga.2 l h
      exact ⟨_, tN_of h1, by omega⟩
end
section
set_option maxRecDepth 4000
open Go
variable {p : List Str} {roads : List Road} {w : Int} {n : Nat}
theorem tab_ok (ok : OkR p roads) (w : Int) : Tbl (Jn roads w) p (10000 * 2 ^ p.length) (tabW p roads w) ∧ TabCl (Jn roads w) (· ∈ p) (· ∈ p) (tN (tabW p roads w)) := by
  obtain ⟨h1, h2⟩ := init_tbl (w := w) ok
  obtain ⟨h3, h4⟩ := h1.rounds (by decide) h2 p.length (Nat.le_refl _)
  refine ⟨h3, fun a b l ha hb hw => h4 a b l ha hb (hw.mono fun x hx => ?_)⟩
  obtain ⟨i, hi, rfl⟩ := List.mem_iff_getElem.1 hx
  exact ⟨i, hi, (ix_eq hi).symm⟩
theorem tab_dist (ok : OkR p roads) (w : Int) {a b : Str} (ha : a ∈ p) (hb : b ∈ p) : IsDist (Jn roads w) a b (tN (tabW p roads w) a b) :=
  TabCl.dist (P := fun x => x ∈ p) (a := a) (b := b) (fun a b m h => ⟨(Jn_mem ok h).1, (Jn_mem ok h).2.1⟩) (tab_ok ok w).2 (tab_ok ok w).1.sound ha hb
theorem pow_bound {m : Nat} (h : m ≤ 20) : (10000 : Int) * 2 ^ m ≤ 10485760000 := by
  have : (2 : Int) ^ m ≤ 2 ^ 20 := by
    have h2 : (2 : Nat) ^ m ≤ 2 ^ 20 := Nat.pow_le_pow_right (by decide) h
    have h3 : ((2 ^ m : Nat) : Int) ≤ ((2 ^ 20 : Nat) : Int) := by omega
    simpa using h3
  have e : (2 : Int) ^ 20 = 1048576 := by decide
  omega
theorem bif_app {α β : Type} (f : α → β) (c : Bool) (x y : α) : (bif c then f x else f y) = f (bif c then x else y) := by cases c <;> rfl
theorem row_in (t' : List Str) (g : List Grand) (ch ls : Int) (c : List (Int × Tab)) (hn : 1000 < n) (ok : OkR p roads) {i : Nat} (hi : i < p.length) (t : Tab) (k : Tab → Option (Tab × List (Int × Tab))) :
    loopN (diary_plan_distances_L1 n p t' roads g ch ls c w i k) n (0, t) = k (initRow p roads w i t p.length) := by
  have hl := ok.len
  have hr := ok.rlen
  refine loop_fold' (st := initRow p roads w i t) (len := p.length) (fun back v hv => ?_) (fun back => ?_) n (by omega) rfl
  · rw [diary_plan_distances_L1]
    simp only [hv, decide_true, cond_true, withK_eq, joined_eq p t' roads g ch ls c (ix p i) (ix p v) w hn (by omega), Option.bind_some, nI_of (by omega : v + 1 ≤ 9223372036854775807), chk_t, initRow]
    cases (joinB roads (ix p i) (ix p v) w).2 && (!(ix p i == ix p v)) <;> rfl
  · rw [diary_plan_distances_L1]; simp
theorem init_in (t' : List Str) (g : List Grand) (ch ls : Int) (c : List (Int × Tab)) (hn : 1000 < n) (ok : OkR p roads) (k : Tab → Option (Tab × List (Int × Tab))) :
    loopN (diary_plan_distances_L2 n p t' roads g ch ls c w k) n (0, []) = k (initT p roads w p.length) := by
  have hl := ok.len
  refine loop_fold' (st := initT p roads w) (len := p.length) (fun back v hv => ?_) (fun back => ?_) n (by omega) rfl
  · rw [diary_plan_distances_L2]
    simp only [hv, decide_true, cond_true, withK_eq, row_in t' g ch ls c hn ok hv, nI_of (by omega : v + 1 ≤ 9223372036854775807), chk_t, initT]
  · rw [diary_plan_distances_L2]; simp
theorem rowJ_in (hn : 1000 < n) (hl : p.length ≤ 20) {k i : Nat} (hk : k < p.length) (hi : i < p.length) {B : Int} (hB : B ≤ 10485760000) {J : Str → Str → Nat → Prop} {t : Tab} (h : Rnd J p k B t) (kk : Tab → Option (Tab × List (Int × Tab))) :
    loopN (diary_plan_distances_L3 p k i kk) n (0, t) = kk (fwJ p k i t p.length) := by
  refine loop_fold' (st := fwJ p k i t) (len := p.length) (fun back v hv => ?_) (fun back => ?_) n (by omega) rfl
  · obtain ⟨r, _, _⟩ := h.rowJ hk hi v (by omega)
    have hs : ∀ g : Bool, (!g || inI (Option.getD (tv (fwJ p k i t v) (ix p i) (ix p k)) 0 + Option.getD (tv (fwJ p k i t v) (ix p k) (ix p v)) 0)) = true := fun g => by
      have b1 : 0 ≤ Option.getD (tv (fwJ p k i t v) (ix p i) (ix p k)) 0 ∧ Option.getD (tv (fwJ p k i t v) (ix p i) (ix p k)) 0 ≤ 20971520000 := by
        cases e : tv (fwJ p k i t v) (ix p i) (ix p k) with
        | none => exact ⟨by decide, by decide⟩
        | some x => have h1 := r.lo _ _ _ e; have h2 := r.hi _ _ _ e; exact ⟨h1, by simp only [Option.getD_some]; omega⟩
      have b2 : 0 ≤ Option.getD (tv (fwJ p k i t v) (ix p k) (ix p v)) 0 ∧ Option.getD (tv (fwJ p k i t v) (ix p k) (ix p v)) 0 ≤ 20971520000 := by
        cases e : tv (fwJ p k i t v) (ix p k) (ix p v) with
        | none => exact ⟨by decide, by decide⟩
        | some x => have h1 := r.lo _ _ _ e; have h2 := r.hi _ _ _ e; exact ⟨h1, by simp only [Option.getD_some]; omega⟩
      rw [inI_of (by omega) (by omega), Bool.or_true]
    have hs2 : inI (Option.getD (tv (fwJ p k i t v) (ix p i) (ix p k)) 0 + Option.getD (tv (fwJ p k i t v) (ix p k) (ix p v)) 0) = true := by simpa using hs true
    rw [diary_plan_distances_L3]
    simp only [hv, decide_true, cond_true, withK_eq, nI_of (by omega : v + 1 ≤ 9223372036854775807), chk_t]
    simp only [tv] at hs hs2
    rw [chk_of (hs _), chk_of hs2]
    simp only [fwJ, fwStep, tv]
    exact bif_app (fun z => back (v + 1, z)) _ _ _
  · rw [diary_plan_distances_L3]; simp
theorem rowI_in (hn : 1000 < n) (hl : p.length ≤ 20) {k : Nat} (hk : k < p.length) {B : Int} (hB : B ≤ 10485760000) {J : Str → Str → Nat → Prop} {t : Tab} (h : Rnd J p k B t) (kk : Tab → Option (Tab × List (Int × Tab))) :
    loopN (diary_plan_distances_L4 n p k kk) n (0, t) = kk (fwI p k t p.length) := by
  refine loop_fold' (st := fwI p k t) (len := p.length) (fun back v hv => ?_) (fun back => ?_) n (by omega) rfl
  · obtain ⟨r, _, _⟩ := h.rowsI hk v (by omega)
    rw [diary_plan_distances_L4]
    simp only [hv, decide_true, cond_true, withK_eq, rowJ_in hn hl hk hv hB r, nI_of (by omega : v + 1 ≤ 9223372036854775807), chk_t, fwI]
  · rw [diary_plan_distances_L4]; simp
theorem rowK_in (hn : 1000 < n) (ok : OkR p roads) (w : Int) (kk : Tab → Option (Tab × List (Int × Tab))) :
    loopN (diary_plan_distances_L5 n p kk) n (0, initT p roads w p.length) = kk (tabW p roads w) := by
  have hl := ok.len
  obtain ⟨h1, h2⟩ := init_tbl (w := w) ok
  refine loop_fold' (st := fwK p (initT p roads w p.length)) (len := p.length) (fun back v hv => ?_) (fun back => ?_) n (by omega) rfl
  · obtain ⟨r, _⟩ := h1.rounds (by decide) h2 v (by omega)
    have hB : (10000 : Int) * 2 ^ v ≤ 10485760000 := pow_bound (by omega)
    have hB0 : (0 : Int) ≤ 10000 * 2 ^ v := Int.mul_nonneg (by decide) (Int.pow_nonneg (by decide))
    rw [diary_plan_distances_L5]
    simp only [hv, decide_true, cond_true, withK_eq, rowI_in hn hl hv hB (r.rnd hB0 v), nI_of (by omega : v + 1 ≤ 9223372036854775807), chk_t, fwK]
  · rw [diary_plan_distances_L5]; simp [tabW]
def OkC (p : List Str) (roads : List Road) (c : List (Int × Tab)) : Prop := ∀ w t, List.lookup w c = some t → t = tabW p roads w
theorem distances_eq (t' : List Str) (g : List Grand) (ch ls : Int) {c : List (Int × Tab)} (hn : 1000 < n) (ok : OkR p roads) (hc : OkC p roads c) (w : Int) :
    ∃ c', diary_plan_distances n p t' roads g ch ls c w = some (tabW p roads w, c') ∧ OkC p roads c' := by
  rw [diary_plan_distances]
  simp only [withK_eq]
  cases e : List.lookup w c with
  | some t =>
    have := hc w t e
    subst this
    exact ⟨c, rfl, hc⟩
  | none =>
    simp only [Option.isSome_none, cond_false, init_in t' g ch ls c hn ok, rowK_in hn ok w]
    refine ⟨_, rfl, fun w' t h => ?_⟩
    rw [lookup_mPut] at h
    by_cases hw : w' = w
    · subst hw
      rw [beq_self_eq_true, cond_true] at h
      cases h; rfl
    · rw [beq_eq_false_iff_ne.2 hw, cond_false] at h
      exact hc w' t h
theorem OkC.nil : OkC p roads [] := fun w t h => by cases h
def distW (p : List Str) (roads : List Road) (a b : Str) (w : Int) : Option Int := tv (tabW p roads w) a b
theorem distance_eq (t' : List Str) (g : List Grand) (ch ls : Int) {c : List (Int × Tab)} (hn : 1000 < n) (ok : OkR p roads) (hc : OkC p roads c) (a b : Str) (w : Int) :
    ∃ c', diary_plan_distance n p t' roads g ch ls c a b w = some (Option.getD (distW p roads a b w) 0, (distW p roads a b w).isSome, c') ∧ OkC p roads c' := by
  obtain ⟨c', h1, h2⟩ := distances_eq t' g ch ls hn ok hc w
  exact ⟨c', by rw [diary_plan_distance, h1]; rfl, h2⟩
theorem distW_rng (ok : OkR p roads) {a b : Str} {w v : Int} (h : distW p roads a b w = some v) : 0 ≤ v ∧ v ≤ 10485760000 := by
  have t := (tab_ok ok w).1
  have hb := pow_bound ok.len
  have := t.hi _ _ _ h
  exact ⟨t.lo _ _ _ h, by omega⟩
theorem distW_dist (ok : OkR p roads) {a b : Str} (ha : a ∈ p) (hb : b ∈ p) (w : Int) : IsDist (Jn roads w) a b ((distW p roads a b w).map Int.toNat) := tab_dist ok w ha hb
end
section
set_option maxRecDepth 4000
theorem nodupLen {α : Type} [DecidableEq α] : ∀ (l m : List α), l.Nodup → (∀ x ∈ l, x ∈ m) → l.length ≤ m.length
  | [], _, _, _ => Nat.zero_le _
  | a :: l, m, h, hs => by
    have ha : a ∈ m := hs a (by simp)
    have h2 := List.nodup_cons.1 h
    have := nodupLen l (m.erase a) h2.2 fun x hx => (List.mem_erase_of_ne (by rintro rfl; exact h2.1 hx)).2 (hs x (by simp [hx]))
    rw [List.length_erase_of_mem ha] at this
    have hm := List.length_pos_of_mem ha
    simp only [List.length_cons]; omega
theorem nodupMap {α β : Type} {f : α → β} : ∀ {l : List α}, l.Nodup → (∀ x ∈ l, ∀ y ∈ l, f x = f y → x = y) → (l.map f).Nodup
  | [], _, _ => List.nodup_nil
  | a :: l, h, hf => by
    have h2 := List.nodup_cons.1 h
    rw [List.map_cons, List.nodup_cons]
    refine ⟨fun hm => ?_, nodupMap h2.2 fun x hx y hy => hf x (by simp [hx]) y (by simp [hy])⟩
    obtain ⟨x, hx, e⟩ := List.mem_map.1 hm
    have := hf x (by simp [hx]) a (by simp) e
    subst this
    exact h2.1 hx
theorem injLen {α β : Type} [DecidableEq β] {A : List α} {B : List β} (f : α → β) (hA : A.Nodup) (hf : ∀ x ∈ A, f x ∈ B) (hi : ∀ x ∈ A, ∀ y ∈ A, f x = f y → x = y) : A.length ≤ B.length := by
  have := nodupLen (A.map f) B (nodupMap hA hi) fun y hy => by
    obtain ⟨x, hx, rfl⟩ := List.mem_map.1 hy
    exact hf x hx
  simpa using this
structure Edf (N : Nat) (fr to slot : Nat → Int) : Prop where
  win : ∀ i, i < N → 0 ≤ fr i ∧ fr i < to i
  und : ∀ i, i < N → slot i = -1 ∨ fr i ≤ slot i ∧ slot i < to i
  inj : ∀ i j, i < N → j < N → slot i = slot j → slot i ≠ -1 → i = j
  due : ∀ (s : Int) u, 0 ≤ s → u < N → fr u ≤ s → s < to u → (slot u = -1 ∨ s < slot u) → ∃ i, i < N ∧ slot i = s ∧ to i ≤ to u
structure Slotted (N : Nat) (fr to slot : Nat → Int) : Prop where
  und : ∀ i, i < N → slot i = -1 ∨ fr i ≤ slot i ∧ slot i < to i
  inj : ∀ i j, i < N → j < N → slot i = slot j → slot i ≠ -1 → i = j
variable {N : Nat} {fr to slot : Nat → Int}
theorem least_from (p : Nat → Prop) : ∀ n, p n → ∃ a, a ≤ n ∧ p a ∧ (∀ a', a' + 1 = a → ¬ p a')
  | 0, h => ⟨0, Nat.le_refl _, h, fun _ h => by omega⟩
  | n + 1, h => by
    by_cases hp : p n
    · obtain ⟨a, h1, h2, h3⟩ := least_from p n hp
      exact ⟨a, by omega, h2, h3⟩
    · refine ⟨n + 1, Nat.le_refl _, h, fun a' e => ?_⟩
      have : a' = n := by omega
      rw [this]; exact hp
theorem Edf.block (h : Edf N fr to slot) {t : Nat} (ht : t < N) (hu : slot t = -1) : ∃ a : Nat, (a : Int) ≤ fr t ∧ ∀ s : Int, (a : Int) ≤ s → s < to t → ∃ i, i < N ∧ slot i = s ∧ (a : Int) ≤ fr i ∧ to i ≤ to t := by
  obtain ⟨w1, w2⟩ := h.win t ht
  let good (s : Int) : Prop := ∃ i, i < N ∧ slot i = s ∧ to i ≤ to t
  have hst : ∀ s : Int, (((fr t).toNat : Nat) : Int) ≤ s → s < to t → good s := fun s h1 h2 => h.due s t (by omega) ht (by omega) h2 (.inl hu)
  obtain ⟨a, ha, hp, hmin⟩ := least_from (fun a => ∀ s : Int, (a : Int) ≤ s → s < to t → good s) _ hst
  refine ⟨a, by omega, fun s h1 h2 => ?_⟩
  obtain ⟨i, hi, hs, hto⟩ := hp s h1 h2
  refine ⟨i, hi, hs, ?_, hto⟩
  by_cases c : (a : Int) ≤ fr i
  · exact c
  · exfalso
    have hfi := (h.win i hi).1
    obtain ⟨a', rfl⟩ : ∃ a', a = a' + 1 := ⟨a - 1, by omega⟩
    refine hmin a' rfl fun s' h3 h4 => ?_
    by_cases e : ((a' + 1 : Nat) : Int) ≤ s'
    · exact hp s' e h4
    · have e' : s' = a' := by omega
      subst e'
      have hw := h.und i hi
      obtain ⟨j, hj, hjs, hjt⟩ := h.due (a' : Int) i (by omega) hi (by omega) (by omega) (.inr (by omega))
      exact ⟨j, hj, hjs, by omega⟩
noncomputable def blockA (N : Nat) (fr to slot : Nat → Int) (t : Nat) : Nat := @dite Nat (∃ a : Nat, (a : Int) ≤ fr t ∧ ∀ s : Int, (a : Int) ≤ s → s < to t → ∃ i, i < N ∧ slot i = s ∧ (a : Int) ≤ fr i ∧ to i ≤ to t) (Classical.propDecidable _) (fun h => Classical.choose h) fun _ => 0
theorem Edf.blockA (h : Edf N fr to slot) {t : Nat} (ht : t < N) (hu : slot t = -1) : (As.blockA N fr to slot t : Int) ≤ fr t ∧ ∀ s : Int, (As.blockA N fr to slot t : Int) ≤ s → s < to t → ∃ i, i < N ∧ slot i = s ∧ (As.blockA N fr to slot t : Int) ≤ fr i ∧ to i ≤ to t := by
  unfold As.blockA
  rw [dif_pos (h.block ht hu)]
  exact Classical.choose_spec (h.block ht hu)
def doneL (N : Nat) (slot : Nat → Int) : List Nat := (List.range N).filter fun i => decide (slot i ≠ -1)
theorem mem_doneL {i : Nat} : i ∈ doneL N slot ↔ i < N ∧ slot i ≠ -1 := by simp [doneL]
theorem doneL_nodup : (doneL N slot).Nodup := List.Nodup.sublist List.filter_sublist List.nodup_range
def Tight (N : Nat) (fr to slot : Nat → Int) (s : Int) : Prop := ∃ t, t < N ∧ slot t = -1 ∧ (blockA N fr to slot t : Int) ≤ s ∧ s < to t
def Within (fr to : Nat → Int) (Z : Int → Prop) (i : Nat) : Prop := ∀ s, fr i ≤ s → s < to i → Z s
theorem Edf.tight (h : Edf N fr to slot) {s : Int} (hs : Tight N fr to slot s) : ∃ i, i < N ∧ slot i = s ∧ Within fr to (Tight N fr to slot) i := by
  obtain ⟨t, h1, h2, h3, h4⟩ := hs
  obtain ⟨g1, g2⟩ := h.blockA h1 h2
  obtain ⟨i, hi, e, k1, k2⟩ := g2 s h3 h4
  exact ⟨i, hi, e, fun s' q1 q2 => ⟨t, h1, h2, by omega, by omega⟩⟩
theorem Edf.most (h : Edf N fr to slot) {sl : Nat → Int} (hs : Slotted N fr to sl) : (doneL N sl).length ≤ (doneL N slot).length := by
  classical
  let Z := Tight N fr to slot
  have hex : ∀ s, Z s → ∃ i, i < N ∧ slot i = s ∧ Within fr to Z i := fun s hz => h.tight hz
  let f : Nat → Nat := fun i => if hw : Within fr to Z i ∧ Z (sl i) then Classical.choose (hex (sl i) hw.2) else i
  have fin : ∀ i, i < N → sl i ≠ -1 → Within fr to Z i → f i < N ∧ slot (f i) = sl i ∧ Within fr to Z (f i) := by
    intro i hi hd hw
    have hz : Z (sl i) := by
      rcases hs.und i hi with e | ⟨e1, e2⟩
      · exact absurd e hd
      · exact hw _ e1 e2
    have : f i = Classical.choose (hex (sl i) hz) := by simp only [f]; rw [dif_pos ⟨hw, hz⟩]
    rw [this]
    exact Classical.choose_spec (hex (sl i) hz)
  have fout : ∀ i, ¬ Within fr to Z i → f i = i := by
    intro i hw
    simp only [f]; rw [dif_neg (fun e => hw e.1)]
  refine injLen f doneL_nodup (fun i hi => ?_) (fun i hi j hj e => ?_)
  · obtain ⟨h1, h2⟩ := mem_doneL.1 hi
    rw [mem_doneL]
    by_cases hw : Within fr to Z i
    · obtain ⟨g1, g2, _⟩ := fin i h1 h2 hw
      exact ⟨g1, by rw [g2]; exact h2⟩
    · rw [fout i hw]
      refine ⟨h1, fun e => hw fun s q1 q2 => ⟨i, h1, e, ?_, q2⟩⟩
      have := (h.blockA h1 e).1
      omega
  · obtain ⟨h1, h2⟩ := mem_doneL.1 hi
    obtain ⟨h3, h4⟩ := mem_doneL.1 hj
    by_cases hw : Within fr to Z i
    · obtain ⟨g1, g2, g3⟩ := fin i h1 h2 hw
      by_cases hv : Within fr to Z j
      · obtain ⟨k1, k2, k3⟩ := fin j h3 h4 hv
        rw [e] at g2
        exact hs.inj i j h1 h3 (g2.symm.trans k2) h2
      · rw [fout j hv] at e
        rw [e] at g3
        exact absurd g3 hv
    · rw [fout i hw] at e
      by_cases hv : Within fr to Z j
      · obtain ⟨k1, k2, k3⟩ := fin j h3 h4 hv
        rw [← e] at k3
        exact absurd k3 hw
      · rw [fout j hv] at e
        exact e
end
section
set_option maxRecDepth 4000
section
variable {α : Type} {J : α → α → Nat → Prop}
theorem Walk.last {a b : α} {l : Nat} (h : Walk J (fun _ => True) a b l) : (l = 0 ∧ a = b) ∨ ∃ c m l', Walk J (fun _ => True) a c l' ∧ J c b m ∧ l' + m = l := by
  induction h with
  | refl a => exact .inl ⟨rfl, rfl⟩
  | @edge a b m h => exact .inr ⟨a, m, 0, .refl a, h, by omega⟩
  | @cons a c b m l h _ _ ih =>
    rcases ih with ⟨rfl, rfl⟩ | ⟨c', m', l', h1, h2, h3⟩
    · exact .inr ⟨a, m, 0, .refl a, h, by omega⟩
    · exact .inr ⟨c', m', m + l', .cons h trivial h1, h2, by omega⟩
end
end
section
set_option maxRecDepth 4000
open Go
variable {d : Diary} {n : Nat} {w : Int}
def orNeg (s : Int × Bool) : Int := bif s.2 then s.1 else -1
theorem join_road (ok : OkR d.Places d.Roads) (a b : Str) (w : Int) : (orNeg (joinB d.Roads a b w) < 0 ∧ ∀ m, ¬ Jn d.Roads w a b m) ∨ (∃ m : Nat, orNeg (joinB d.Roads a b w) = ((m : Nat) : Int) ∧ m ≤ 10000 ∧ Jn d.Roads w a b m ∧ ∀ m', Jn d.Roads w a b m' → m ≤ m') := by
  have spec := joinB_spec a b w d.Roads
  generalize joinB d.Roads a b w = s at spec
  obtain ⟨x, y⟩ := s
  cases y with
  | false =>
    refine .inl ⟨by simp [orNeg], fun m hm => ?_⟩
    obtain ⟨r, h1, h2, _⟩ := hm
    exact absurd h2 (List.any_eq_false.1 spec.1.symm r h1)
  | true =>
    obtain ⟨⟨r, h1, h2, h3⟩, h4⟩ := spec.2 rfl
    simp only at h3 h4
    have lo := ok.lo r h1
    have hi := ok.hi r h1
    refine .inr ⟨x.toNat, by simp only [orNeg, cond_true]; omega, by omega, ⟨r, h1, h2, by omega⟩, fun m' hm => ?_⟩
    obtain ⟨r', g1, g2, g3⟩ := hm
    have := h4 r' g1 g2
    omega
def val (x : Int) : Option Nat := if x < 0 then none else some x.toNat
structure Bf (d : Diary) (s : Nat) (w : Int) (B : Int) (v : List Int) : Prop where
  len : v.length = d.Places.length
  zero : ix v s = 0
  hi : ∀ j, j < v.length → ix v j ≤ B
  lo : ∀ j, j < v.length → -1 ≤ ix v j
  sound : ∀ j, j < v.length → 0 ≤ ix v j → Walk (Jn d.Roads w) (fun _ => True) (ix d.Places s) (ix d.Places j) (ix v j).toNat
theorem Bf.mono {s : Nat} {B B' : Int} {v : List Int} (h : Bf d s w B v) (hB : B ≤ B') : Bf d s w B' v := ⟨h.len, h.zero, fun j hj => Int.le_trans (h.hi j hj) hB, h.lo, h.sound⟩
def Less (v v' : List Int) : Prop := ∀ j, j < v.length → 0 ≤ ix v j → 0 ≤ ix v' j ∧ ix v' j ≤ ix v j
theorem Less.refl (v : List Int) : Less v v := fun _ _ h => ⟨h, Int.le_refl _⟩
theorem Less.trans {u v x : List Int} (h : Less u v) (g : Less v x) (hl : u.length = v.length) : Less u x := fun j hj h0 => by
  have h1 := h j hj h0
  have h2 := g j (by omega) h1.1
  exact ⟨h2.1, by omega⟩
def skipB (v : List Int) (i j : Nat) (y : Int) : Bool := ((decide ((ix v i) < (0 : Int))) || (decide (y < (0 : Int)))) || ((decide ((0 : Int) ≤ (ix v j))) && (decide ((ix v j) ≤ ((ix v i) + y))))
def bfStep (d : Diary) (w : Int) (i j : Nat) (s : Bool × List Int) : Bool × List Int :=
  bif skipB s.2 i j (orNeg (joinB d.Roads (ix d.Places i) (ix d.Places j) w)) then s else (true, s.2.set j (ix s.2 i + orNeg (joinB d.Roads (ix d.Places i) (ix d.Places j) w)))
def bfJ (d : Diary) (w : Int) (i : Nat) (s : Bool × List Int) : Nat → Bool × List Int
  | 0 => s
  | j + 1 => bfStep d w i j (bfJ d w i s j)
def bfI (d : Diary) (w : Int) (s : Bool × List Int) : Nat → Bool × List Int
  | 0 => s
  | i + 1 => bfJ d w i (bfI d w s i) d.Places.length
theorem ix_set {v : List Int} {j k : Nat} {x : Int} (hj : j < v.length) : ix (v.set j x) k = if k = j then x else ix v k := by
  by_cases h : k = j
  · subst h
    rw [if_pos rfl, ix_eq (by simpa using hj)]; simp
  · rw [if_neg h]
    simp only [ix, List.getD, List.getElem?_set_ne (Ne.symm h)]
theorem Bf.step {s : Nat} {B : Int} {v : List Int} {c : Bool} (ok : OkR d.Places d.Roads) (hs : s < d.Places.length) (h : Bf d s w B v) {i j : Nat} (hi : i < d.Places.length) (hj : j < d.Places.length) :
    Bf d s w (B + 10000) (bfStep d w i j (c, v)).2 ∧ Less v (bfStep d w i j (c, v)).2 ∧ (∀ m, 0 ≤ ix v i → Jn d.Roads w (ix d.Places i) (ix d.Places j) m → 0 ≤ ix (bfStep d w i j (c, v)).2 j ∧ ix (bfStep d w i j (c, v)).2 j ≤ ix v i + ((m : Nat) : Int)) ∧
      ((bfStep d w i j (c, v)).1 = false → c = false ∧ (bfStep d w i j (c, v)).2 = v) ∧ (c = false → (bfStep d w i j (c, v)).1 = true → ¬ ∀ q, q < v.length → ∀ l, Walk (Jn d.Roads w) (fun _ => True) (ix d.Places s) (ix d.Places q) l → 0 ≤ ix v q ∧ ix v q ≤ ((l : Nat) : Int)) := by
  have hl := h.len
  rw [bfStep]
  have road := join_road ok (ix d.Places i) (ix d.Places j) w
  generalize orNeg (joinB d.Roads (ix d.Places i) (ix d.Places j) w) = y at road
  simp only
  cases hsk : skipB v i j y with
  | true =>
    simp only [cond_true]
    refine ⟨h.mono (by omega), Less.refl v, fun m h0 hm => ?_, fun hc => ⟨hc, trivial⟩, fun hc ht => by rw [hc] at ht; cases ht⟩
    rcases road with ⟨hy, hno⟩ | ⟨m0, hy, _, hm0, hmin⟩
    · exact absurd hm (hno m)
    · have := hmin m hm
      rw [skipB, decide_eq_false (by omega : ¬ ix v i < 0), decide_eq_false (by omega : ¬ y < 0)] at hsk
      simp only [Bool.or_self, Bool.false_or, Bool.and_eq_true, decide_eq_true_eq] at hsk
      exact ⟨hsk.1, by omega⟩
  | false =>
    simp only [cond_false]
    rw [skipB] at hsk
    simp only [Bool.or_eq_false_iff, decide_eq_false_iff_not, Bool.and_eq_false_iff] at hsk
    obtain ⟨⟨h1, h2⟩, h3⟩ := hsk
    rcases road with ⟨hy, _⟩ | ⟨m0, hy, hb, hm0, hmin⟩
    · exact absurd hy h2
    have hjv : j < v.length := by omega
    have hiv : i < v.length := by omega
    have hsv : s < v.length := by omega
    have hbi := h.hi i hiv
    have wi := h.sound i hiv (by omega)
    have wj : Walk (Jn d.Roads w) (fun _ => True) (ix d.Places s) (ix d.Places j) (ix v i + y).toNat := by
      rw [show (ix v i + y).toNat = (ix v i).toNat + m0 by omega]
      exact wi.trans trivial (.edge hm0)
    have hlt : 0 ≤ ix v j → ix v i + y < ix v j := fun h0 => by
      rcases h3 with h3 | h3
      · exact absurd h0 h3
      · omega
    have hjs : j ≠ s := fun e => by
      subst e
      have := hlt (by rw [h.zero]; exact Int.le_refl _)
      rw [h.zero] at this
      omega
    refine ⟨⟨by simpa using hl, ?_, fun q hq => ?_, fun q hq => ?_, fun q hq h0 => ?_⟩, fun q hq h0 => ?_, fun m h0 hm => ?_, fun hc => (by cases hc), fun _ _ hall => ?_⟩
    · rw [ix_set hjv, if_neg (fun e => hjs e.symm)]; exact h.zero
    · rw [ix_set hjv]
      split
      · omega
      · have := h.hi q (by simpa using hq); omega
    · rw [ix_set hjv]
      split
      · omega
      · exact h.lo q (by simpa using hq)
    · rw [ix_set hjv] at h0 ⊢
      split
      · rename_i e; subst e; exact wj
      · rename_i e; rw [if_neg e] at h0; exact h.sound q (by simpa using hq) h0
    · rw [ix_set hjv]
      split
      · rename_i e; subst e; have := hlt h0; omega
      · exact ⟨h0, Int.le_refl _⟩
    · rw [ix_set hjv, if_pos rfl]
      have := hmin m hm
      omega
    · have := hall j hjv _ wj
      have := hlt this.1
      omega
def AllR (d : Diary) (s : Nat) (w : Int) (v : List Int) : Prop := ∀ q, q < v.length → ∀ l, Walk (Jn d.Roads w) (fun _ => True) (ix d.Places s) (ix d.Places q) l → 0 ≤ ix v q ∧ ix v q ≤ ((l : Nat) : Int)
structure Did (d : Diary) (s : Nat) (w : Int) (B : Int) (v0 : List Int) (c0 : Bool) (r : Bool × List Int) (done : Nat → Nat → Prop) : Prop where
  bf : Bf d s w B r.2
  less : Less v0 r.2
  len : r.2.length = v0.length
  rel : ∀ i j, done i j → i < d.Places.length → j < d.Places.length → ∀ m, 0 ≤ ix v0 i → Jn d.Roads w (ix d.Places i) (ix d.Places j) m → 0 ≤ ix r.2 j ∧ ix r.2 j ≤ ix v0 i + ((m : Nat) : Int)
  still : r.1 = false → c0 = false ∧ r.2 = v0
  turn : c0 = false → r.1 = true → ¬ AllR d s w v0
theorem Did.step {s : Nat} {B : Int} {v0 : List Int} {c0 : Bool} {r : Bool × List Int} {done : Nat → Nat → Prop} (ok : OkR d.Places d.Roads) (hs : s < d.Places.length) (h : Did d s w B v0 c0 r done) {i j : Nat} (hi : i < d.Places.length) (hj : j < d.Places.length) :
    Did d s w (B + 10000) v0 c0 (bfStep d w i j r) (fun a b => done a b ∨ (a = i ∧ b = j)) := by
  obtain ⟨c, v⟩ := r
  have hb : Bf d s w B v := h.bf
  have hls : Less v0 v := h.less
  have hlen : v.length = v0.length := h.len
  have hrel : ∀ i j, done i j → i < d.Places.length → j < d.Places.length → ∀ m, 0 ≤ ix v0 i → Jn d.Roads w (ix d.Places i) (ix d.Places j) m → 0 ≤ ix v j ∧ ix v j ≤ ix v0 i + ((m : Nat) : Int) := h.rel
  obtain ⟨g1, g2, g3, g4, g5⟩ := hb.step (c := c) ok hs hi hj
  have hbl := hb.len
  have hbl2 := g1.len
  refine ⟨g1, hls.trans g2 hlen.symm, ?_, fun a b hd ha hb m h0 hm => ?_, fun hf => ?_, fun hc ht => ?_⟩
  · rw [hbl2, ← hbl]; exact hlen
  · rcases hd with hd | ⟨rfl, rfl⟩
    · have := hrel a b hd ha hb m h0 hm
      have := g2 b (by omega) this.1
      exact ⟨this.1, by omega⟩
    · have := hls a (by omega) h0
      have := g3 m this.1 hm
      exact ⟨this.1, by omega⟩
  · obtain ⟨e1, e2⟩ := g4 hf
    obtain ⟨e3, e4⟩ := h.still e1
    exact ⟨e3, e2.trans e4⟩
  · cases c with
    | true => exact h.turn hc rfl
    | false =>
      have e := (h.still rfl).2
      have := g5 rfl ht
      simp only at e
      subst e
      exact this
theorem Did.rowJ {s : Nat} {B : Int} {v0 : List Int} {c0 : Bool} {r : Bool × List Int} {done : Nat → Nat → Prop} (ok : OkR d.Places d.Roads) (hs : s < d.Places.length) (h : Did d s w B v0 c0 r done) {i : Nat} (hi : i < d.Places.length) :
    ∀ m, m ≤ d.Places.length → Did d s w (B + 10000 * ((m : Nat) : Int)) v0 c0 (bfJ d w i r m) (fun a b => done a b ∨ (a = i ∧ b < m)) := by
  intro m
  induction m with
  | zero =>
    intro _
    refine ⟨h.bf.mono (by omega), h.less, h.len, fun a b hd => ?_, h.still, h.turn⟩
    rcases hd with hd | ⟨_, hd⟩
    · exact h.rel a b hd
    · omega
  | succ m ih =>
    intro hm
    have g := (ih (by omega)).step ok hs hi (by omega : m < d.Places.length)
    refine ⟨g.bf.mono (by omega), g.less, g.len, fun a b hd => g.rel a b ?_, g.still, g.turn⟩
    rcases hd with hd | ⟨rfl, hd⟩
    · exact .inl (.inl hd)
    · by_cases e : b = m
      · exact .inr ⟨rfl, e⟩
      · exact .inl (.inr ⟨rfl, by omega⟩)
theorem Did.rowsI {s : Nat} {B : Int} {v0 : List Int} {c0 : Bool} (ok : OkR d.Places d.Roads) (hs : s < d.Places.length) (h : Bf d s w B v0) :
    ∀ m, m ≤ d.Places.length → Did d s w (B + 200000 * ((m : Nat) : Int)) v0 c0 (bfI d w (c0, v0) m) (fun a _ => a < m) := by
  intro m
  induction m with
  | zero =>
    intro _
    refine ⟨h.mono (by omega), Less.refl v0, rfl, fun a b hd => absurd hd (Nat.not_lt_zero _), fun hf => ⟨hf, rfl⟩, fun hc ht => ?_⟩
    have ht : c0 = true := ht
    rw [hc] at ht; cases ht
  | succ m ih =>
    intro hm
    have hl := ok.len
    have g := (ih (by omega)).rowJ ok hs (by omega : m < d.Places.length) d.Places.length (Nat.le_refl _)
    refine ⟨g.bf.mono (by omega), g.less, g.len, fun a b hd ha hb => g.rel a b ?_ ha hb, g.still, g.turn⟩
    by_cases e : a = m
    · exact .inr ⟨e, hb⟩
    · exact .inl (by omega)
end
section
set_option maxRecDepth 4000
open Go
variable {d : Diary} {n : Nat} {w : Int}
end
section
set_option maxRecDepth 4000
open Go
variable {d : Diary} {n : Nat} {w : Int}
theorem Distance_eq (ok : OkR d.Places d.Roads) (hn : 1000 < n) {c : List (Int × Tab)} (hc : OkC d.Places d.Roads c) (a b : Str) (w : Int) :
    ∃ c', diary_plan_distance n d.Places d.Technicians d.Roads d.Grands d.Change d.Lasts c a b w = some (Option.getD (distW d.Places d.Roads a b w) 0, (distW d.Places d.Roads a b w).isSome, c') ∧ OkC d.Places d.Roads c' :=
  distance_eq d.Technicians d.Grands d.Change d.Lasts hn ok hc a b w
end
section
set_option maxRecDepth 4000
open Go
structure Dia where
  ce : Item → Int
  change : Int
  lasts : Int
  init : Str → Str
  width : Str → Int
  dist : Str → Str → Int → Option Int
section
variable (D : Dia)
def movesTo (g : Str) (t : Int) (y : Item) : Bool := (y.Kind == 1) && (y.Grand == g) && decide (y.To ≤ t)
def placeS (l : List Item) (g : Str) (t : Int) : Str := l.foldl (fun a y => bif movesTo g t y then y.Place else a) (D.init g)
def tunes (x y : Item) : Bool := (y.Kind == 0) && decide (y.To ≤ x.From) && decide (x.From - y.To ≤ D.lasts)
def restS (x : Item) : List Item → Nat → Int → Int
  | [], _, o => o
  | y :: r, i, o => restS x r (i + 1) (bif y.Grand == x.Grand then (bif tunes D x y then ((i : Nat) : Int) else bif y.Kind == 1 then -1 else o) else o)
def orderE (l : List Item) (x : Item) : Int := match l.getLast? with
  | none => 0
  | some y => bif decide (x.From < y.From) then 9 else 0
def changesE (l : List Item) (x : Item) : Int := bif l.any (fun y => (y.Grand == x.Grand) && decide (x.From < y.To + D.change)) then 17 else 0
def standsE (l : List Item) (x : Item) : Int :=
  bif x.Kind == 1 then
    (bif placeS D l x.Grand x.From == x.Place then 24
    else match D.dist (placeS D l x.Grand x.From) x.Place (D.width x.Grand) with
      | none => 12
      | some n => bif decide (x.To - x.From < n) then 18 else 0)
  else bif placeS D l x.Grand x.From == x.Place then 0 else 13
def farE (x y : Item) : Bool := (y.Kind == 0) && (y.Who == x.Who) && match D.dist y.Place x.Place 1 with
  | none => true
  | some n => decide (x.From < y.To + n)
def travelsE (l : List Item) (x : Item) : Int := bif (x.Kind == 0) && l.any (farE D x) then 16 else 0
def tunedE (l : List Item) (x : Item) : Int := bif (x.Kind == 2) && decide (restS D x l 0 (-1) < 0) then 26 else 0
def firstNZ : List Int → Int
  | [] => 0
  | a :: r => bif a != 0 then a else firstNZ r
def errS (l : List Item) (x : Item) : Int := firstNZ [D.ce x, orderE l x, changesE D l x, standsE D l x, travelsE D l x, tunedE D l x]
def okF (pre : List Item) : List Item → Prop
  | [] => True
  | x :: r => errS D pre x = 0 ∧ okF (pre ++ [x]) r
def accS (pre : List Item) : List Item → Nat → Int × Int
  | [], _ => (-1, 0)
  | x :: r, i => bif errS D pre x != 0 then (((i : Nat) : Int), errS D pre x) else accS (pre ++ [x]) r (i + 1)
end
variable {D : Dia}
theorem bne0 {a : Int} (h : a ≠ 0) : (a != 0) = true := by simp [bne, h]
theorem firstNZ_zero : ∀ {l : List Int}, firstNZ l = 0 ↔ ∀ a ∈ l, a = 0
  | [] => by simp [firstNZ]
  | a :: r => by
    unfold firstNZ
    by_cases h : a = 0
    · simp [h, firstNZ_zero (l := r)]
    · simp only [bne0 h, cond_true, List.mem_cons, forall_eq_or_imp]
      exact ⟨fun e => absurd e h, fun e => e.1⟩
theorem accS_ok : ∀ (l pre : List Item) (i : Nat), (accS D pre l i).2 = 0 ↔ okF D pre l
  | [], _, _ => by simp [accS, okF]
  | x :: r, pre, i => by
    unfold accS okF
    by_cases h : errS D pre x = 0
    · simp only [h, bne_self_eq_false, cond_false, true_and]
      exact accS_ok r _ _
    · simp only [bne0 h, cond_true, h, false_and]
theorem okF_append : ∀ (a pre b : List Item), okF D pre (a ++ b) ↔ okF D pre a ∧ okF D (pre ++ a) b
  | [], pre, b => by simp [okF]
  | x :: a, pre, b => by
    simp only [List.cons_append, okF]
    rw [okF_append a (pre ++ [x]) b, and_assoc]
    simp
theorem okF_at {l : List Item} (h : okF D [] l) {i : Nat} (hi : i < l.length) : errS D (l.take i) (l[i]) = 0 := by
  have h1 : l = l.take i ++ (l[i] :: l.drop (i + 1)) := by rw [List.getElem_cons_drop, List.take_append_drop]
  rw [h1] at h
  have := ((okF_append _ [] _).1 h).2
  simpa [okF] using this.1
theorem errS_zero {l : List Item} {x : Item} : errS D l x = 0 ↔ D.ce x = 0 ∧ orderE l x = 0 ∧ changesE D l x = 0 ∧ standsE D l x = 0 ∧ travelsE D l x = 0 ∧ tunedE D l x = 0 := by
  unfold errS
  rw [firstNZ_zero]
  simp
theorem changesE_zero {l : List Item} {x : Item} : changesE D l x = 0 ↔ ∀ y ∈ l, y.Grand = x.Grand → y.To + D.change ≤ x.From := by
  unfold changesE
  cases h : l.any (fun y => (y.Grand == x.Grand) && decide (x.From < y.To + D.change)) with
  | true =>
    simp only [cond_true]
    constructor
    · intro e; exact absurd e (by decide)
    · intro e
      obtain ⟨y, hy, h2⟩ := List.any_eq_true.1 h
      simp only [Bool.and_eq_true, beq_iff_eq, decide_eq_true_eq] at h2
      have := e y hy h2.1
      omega
  | false =>
    simp only [cond_false, true_iff]
    intro y hy hg
    have := List.any_eq_false.1 h y hy
    simp only [Bool.and_eq_true, beq_iff_eq, decide_eq_true_eq, not_and, Int.not_lt] at this
    exact this hg
theorem travelsE_zero {l : List Item} {x : Item} : travelsE D l x = 0 ↔ (x.Kind = 0 → ∀ y ∈ l, farE D x y = false) := by
  unfold travelsE
  cases h : l.any (farE D x) with
  | true =>
    obtain ⟨y, hy, h2⟩ := List.any_eq_true.1 h
    by_cases c : x.Kind = 0
    · simp only [c, BEq.rfl, Bool.and_self, cond_true, forall_const]
      constructor
      · intro e; exact absurd e (by decide)
      · intro e; rw [e y hy] at h2; cases h2
    · have c' : (x.Kind == 0) = false := by simpa using c
      simp [c, c']
  | false =>
    simp only [Bool.and_false, cond_false, true_iff]
    intro _ y hy
    simpa using List.any_eq_false.1 h y hy
theorem restS_append (x : Item) : ∀ (a b : List Item) (i : Nat) (o : Int), restS D x (a ++ b) i o = restS D x b (i + a.length) (restS D x a i o)
  | [], b, i, o => by simp [restS]
  | y :: a, b, i, o => by
    simp only [List.cons_append, restS, List.length_cons]
    rw [restS_append x a b]
    congr 1; omega
def at_ (x : Item) (t : Int) : Item := { x with From := t, To := t + (x.To - x.From) }
end
section
set_option maxRecDepth 4000
open Go
variable {d : Diary} {n : Nat}
def diaD (d : Diary) : Dia where
  ce := itemD d
  change := d.Change
  lasts := d.Lasts
  init := fun g => match grandOf d.Grands g with | some x => x.Place | none => []
  width := fun g => match grandOf d.Grands g with | some x => x.Width | none => 0
  dist := fun a b w => distW d.Places d.Roads a b w
structure OkP (d : Diary) : Prop where
  r : OkR d.Places d.Roads
  g : ∀ x ∈ d.Grands, x.Place ∈ d.Places ∧ 1 ≤ x.Width ∧ x.Width ≤ 10000
  gl : d.Grands.length ≤ 12
  tl : d.Technicians.length ≤ 12
  ch : 0 ≤ d.Change ∧ d.Change ≤ 1000
  ls : 0 ≤ d.Lasts ∧ d.Lasts ≤ 100000
theorem okP {d : Diary} (h : diaryD d = 0) : OkP d := by
  obtain ⟨h1, h2, h3, h4, h5, h6⟩ := diaryD_zero h
  exact ⟨h1, h2, h3, h4, h5, h6⟩
def grandT (o : Option Grand) : Str × Str × Int × Bool := match o with | some g => (g.Name, g.Place, g.Width, true) | none => ([], [], 0, false)
theorem grandP (ok : OkP d) (hn : 1000 < n) (s : Str) : diary_grand n d s = some (grandT (grandOf d.Grands s)) := by
  rw [grand_eq d s (by have := ok.gl; omega) hn]
  cases grandOf d.Grands s <;> rfl
theorem grandT_place (s : Str) : (grandT (grandOf d.Grands s)).2.1 = (diaD d).init s := by
  simp only [diaD, grandT]
  cases grandOf d.Grands s <;> rfl
theorem grandT_width (s : Str) : (grandT (grandOf d.Grands s)).2.2.1 = (diaD d).width s := by
  simp only [diaD, grandT]
  cases grandOf d.Grands s <;> rfl
structure OkIt (d : Diary) (x : Item) : Prop where
  kind : 0 ≤ x.Kind ∧ x.Kind ≤ 3
  fr : 0 ≤ x.From ∧ x.From ≤ 1000000
  to : 0 ≤ x.To ∧ x.To ≤ 1000000
  lt : x.From < x.To
  place : x.Place ∈ d.Places
theorem itemD_ok {x : Item} (h : itemD d x = 0) : OkIt d x := by
  rw [itemD] at h
  cases e1 : isBet 0 3 x.Kind with
  | false => rw [e1] at h; simp at h
  | true =>
    cases e2 : isBet 0 1000000 x.From with
    | false => rw [e1, e2] at h; simp at h
    | true =>
      cases e3 : isBet 0 1000000 x.To with
      | false => rw [e1, e2, e3] at h; simp at h
      | true =>
        by_cases e4 : x.To ≤ x.From
        · rw [e1, e2, e3, decide_eq_true e4] at h; simp at h
        · cases e5 : d.Grands.any (isG x.Grand) with
          | false => rw [e1, e2, e3, decide_eq_false e4, e5] at h; simp at h
          | true =>
            cases e6 : d.Places.any (isS x.Place) with
            | false => rw [e1, e2, e3, decide_eq_false e4, e5, e6] at h; simp at h
            | true =>
              obtain ⟨y, hy, e⟩ := List.any_eq_true.1 e6
              rw [isS, beq_iff_eq] at e
              simp only [isBet, Bool.and_eq_true, decide_eq_true_eq] at e1 e2 e3
              exact ⟨e1, e2, e3, by omega, by rwa [← e]⟩
def clashB (d : Diary) (x y : Item) : Bool := (y.Grand == x.Grand) && decide (x.From < y.To + d.Change)
theorem changes_eq (ok : OkP d) (hn : 1000 < n) (c : List (Int × Tab)) (l : List Item) (hl : l.length ≤ 900) (hit : ∀ y ∈ l, y.To ≤ 1000000 ∧ 0 ≤ y.To) (x : Item) :
    diary_plan_changes n d.Places d.Technicians d.Roads d.Grands d.Change d.Lasts c l x = some (changesE (diaD d) l x) := by
  have hc := ok.ch
  rw [diary_plan_changes, slices_ContainsFunc_Item, slices_IndexFunc_Item, withK_eq, loop_findI (l := l) (p := clashB d x) (fun back v hv => ?_) (fun back => ?_) n (by omega)]
  · simp only [Option.bind_some, findI_any, changesE]
    show (bif l.any (clashB d x) then some 17 else some 0) = some (bif l.any (clashB d x) then 17 else 0)
    cases l.any (clashB d x) <;> rfl
  · have hb := hit _ (ix_mem hv)
    rw [slices_IndexFunc_Item_L1]
    simp only [hv, diary_plan_changes_f1, inI_of (by omega : -9223372036854775808 ≤ (ix l v).To + d.Change) (by omega), Bool.or_true, chk_t, Option.bind_some, decide_true, cond_true, nI_of (by omega : v + 1 ≤ 9223372036854775807), clashB]
  · rw [slices_IndexFunc_Item_L1]; simp
theorem place_P (ok : OkP d) (hn : 1000 < n) (c : List (Int × Tab)) (l : List Item) (hl : l.length ≤ 900) (g : Str) (t : Int) :
    diary_plan_place n d.Places d.Technicians d.Roads d.Grands d.Change d.Lasts c l g t = some (placeS (diaD d) l g t) := by
  have e : Diary.mk d.Places d.Technicians d.Roads d.Grands d.Change d.Lasts = d := rfl
  rw [diary_plan_place, e, grandP ok hn g]
  simp only [Option.bind_some, withK_eq]
  rw [grandT_place]
  refine loop_fold (st := fun v => placeS (diaD d) (l.take v) g t) (len := l.length) (fun back v hv => ?_) (fun back => ?_) n (by omega) rfl
  · rw [diary_plan_place_L1]
    simp only [hv, decide_true, cond_true, withK_eq, nI_of (by omega : v + 1 ≤ 9223372036854775807), chk_t, take_snoc hv]
    rw [placeS, placeS, List.foldl_append]
    show (bif movesTo g t (ix l v) then _ else _) = _
    simp only [List.foldl_cons, List.foldl_nil]
    cases movesTo g t (ix l v) <;> rfl
  · rw [diary_plan_place_L1]; simp
end
section
set_option maxRecDepth 4000
open Go
variable {d : Diary} {n : Nat}
theorem stands_eq (ok : OkP d) (hn : 1000 < n) {c : List (Int × Tab)} (hc : OkC d.Places d.Roads c) (l : List Item) (hl : l.length ≤ 900) {x : Item} (hx : OkIt d x) :
    ∃ c', diary_plan_stands n d.Places d.Technicians d.Roads d.Grands d.Change d.Lasts c l x = some (standsE (diaD d) l x, c') ∧ OkC d.Places d.Roads c' := by
  have e : Diary.mk d.Places d.Technicians d.Roads d.Grands d.Change d.Lasts = d := rfl
  rw [diary_plan_stands, place_P ok hn c l hl, e, grandP ok hn x.Grand]
  simp only [Option.bind_some, standsE]
  rw [grandT_width]
  have hne : (x.Kind != 1) = !(x.Kind == 1) := rfl
  rw [hne]
  cases x.Kind == 1 with
  | false =>
    refine ⟨c, ?_, hc⟩
    simp only [Bool.not_false, cond_true, cond_false]
    cases placeS (diaD d) l x.Grand x.From == x.Place <;> rfl
  | true =>
    obtain ⟨c', h1, h2⟩ := Distance_eq ok.r hn hc (placeS (diaD d) l x.Grand x.From) x.Place ((diaD d).width x.Grand)
    refine ⟨c', ?_, h2⟩
    simp only [Bool.not_true, cond_true, cond_false]
    rw [h1]
    simp only [Option.bind_some]
    have hf := hx.fr
    have ht := hx.to
    have hd : (diaD d).dist (placeS (diaD d) l x.Grand x.From) x.Place ((diaD d).width x.Grand) = distW d.Places d.Roads (placeS (diaD d) l x.Grand x.From) x.Place ((diaD d).width x.Grand) := rfl
    rw [hd, chk_of (inI_of (by omega : -9223372036854775808 ≤ x.To - x.From) (by omega))]
    cases placeS (diaD d) l x.Grand x.From == x.Place with
    | true => rfl
    | false =>
      cases distW d.Places d.Roads (placeS (diaD d) l x.Grand x.From) x.Place ((diaD d).width x.Grand) with
      | none => rfl
      | some v =>
        simp only [cond_false, Option.isSome_some, Bool.not_true, Option.getD_some]
        cases decide (x.To - x.From < v) <;> rfl
end
section
set_option maxRecDepth 4000
open Go
variable {d : Diary} {n : Nat}
theorem travels_in (ok : OkP d) (hn : 1000 < n) (l : List Item) (hl : l.length ≤ 900) (hit : ∀ y ∈ l, y.To ≤ 1000000 ∧ 0 ≤ y.To) (x : Item) :
    ∀ m v f (c : List (Int × Tab)), v + m = l.length → m < f → OkC d.Places d.Roads c →
      ∃ c', loopN (diary_plan_travels_L1 n d.Places d.Technicians d.Roads d.Grands d.Change d.Lasts l x fun v7 => some (0, v7)) f (v, c) = some (bif (l.drop v).any (farE (diaD d) x) then 16 else 0, c') ∧ OkC d.Places d.Roads c' := by
  intro m
  induction m with
  | zero =>
    intro v f c hv hf hc
    obtain ⟨f, rfl⟩ : ∃ q, f = q + 1 := ⟨f - 1, by omega⟩
    refine ⟨c, ?_, hc⟩
    rw [loopN_s, diary_plan_travels_L1, decide_eq_false (by omega : ¬ v < l.length), drop_nil (by omega : ¬ v < l.length)]; rfl
  | succ m ih =>
    intro v f c hv hf hc
    obtain ⟨f, rfl⟩ : ∃ q, f = q + 1 := ⟨f - 1, by omega⟩
    have hvl : v < l.length := by omega
    have hb := hit _ (ix_mem hvl)
    rw [loopN_s, diary_plan_travels_L1, decide_eq_true hvl, cond_true, drop_ix hvl, List.any_cons]
    simp only [withK_eq, nI_of (by omega : v + 1 ≤ 9223372036854775807), chk_t]
    have e1 : farE (diaD d) x (ix l v) = (((ix l v).Kind == 0) && ((ix l v).Who == x.Who) && match distW d.Places d.Roads (ix l v).Place x.Place 1 with | none => true | some q => decide (x.From < (ix l v).To + q)) := rfl
    have e2 : (((ix l v).Kind != 0) || (!((ix l v).Who == x.Who))) = !(((ix l v).Kind == 0) && ((ix l v).Who == x.Who)) := by
      rw [Bool.not_and]; rfl
    rw [e1, e2]
    cases ((ix l v).Kind == 0) && ((ix l v).Who == x.Who) with
    | false => exact ih (v + 1) f c (by omega) (by omega) hc
    | true =>
      obtain ⟨c', h1, h2⟩ := Distance_eq ok.r hn hc (ix l v).Place x.Place 1
      simp only [Bool.not_true, cond_false, h1, Option.bind_some, Bool.true_and]
      cases hd : distW d.Places d.Roads (ix l v).Place x.Place 1 with
      | none => exact ⟨c', rfl, h2⟩
      | some q =>
        have hq := distW_rng ok.r hd
        simp only [Option.getD_some, Option.isSome_some, Bool.not_true, Bool.not_false, Bool.false_or, inI_of (by omega : -9223372036854775808 ≤ (ix l v).To + q) (by omega), chk_t]
        cases decide (x.From < (ix l v).To + q) with
        | true => exact ⟨c', rfl, h2⟩
        | false => exact ih (v + 1) f c' (by omega) (by omega) h2
theorem travels_eq (ok : OkP d) (hn : 1000 < n) {c : List (Int × Tab)} (hc : OkC d.Places d.Roads c) (l : List Item) (hl : l.length ≤ 900) (hit : ∀ y ∈ l, y.To ≤ 1000000 ∧ 0 ≤ y.To) (x : Item) :
    ∃ c', diary_plan_travels n d.Places d.Technicians d.Roads d.Grands d.Change d.Lasts c l x = some (travelsE (diaD d) l x, c') ∧ OkC d.Places d.Roads c' := by
  rw [diary_plan_travels, travelsE]
  have hne : (x.Kind != 0) = !(x.Kind == 0) := rfl
  rw [hne]
  cases x.Kind == 0 with
  | false => exact ⟨c, rfl, hc⟩
  | true =>
    simp only [Bool.not_true, cond_false, withK_eq, Bool.true_and]
    obtain ⟨c', h1, h2⟩ := travels_in ok hn l hl hit x l.length 0 n c (by omega) (by omega) hc
    exact ⟨c', by rw [h1, List.drop_zero], h2⟩
theorem tune_eq (x : Item) (l : List Item) (hx : 0 ≤ x.From ∧ x.From ≤ 1000000) (hit : ∀ y ∈ l, y.To ≤ 1000000 ∧ 0 ≤ y.To) : ∀ k, k ≤ l.length → tuneL x d.Lasts l k = restS (diaD d) x (l.take k) 0 (-1) := by
  intro k
  induction k with
  | zero => intro _; rfl
  | succ k ih =>
    intro hk
    have hkl : k < l.length := by omega
    have hb := hit _ (ix_mem hkl)
    rw [tuneL, ih (by omega), take_snoc hkl, restS_append]
    have hw : IntKind.i64.wrap (x.From - (ix l k).To) = x.From - (ix l k).To := wrap64 (by omega) (by omega)
    have hlen : (l.take k).length = k := by simp; omega
    simp only [restS, tunStop, hw, hlen, Nat.zero_add]
    have et : tunes (diaD d) x (ix l k) = (((ix l k).Kind == 0) && (decide ((ix l k).To ≤ x.From) && decide (x.From - (ix l k).To ≤ d.Lasts))) := by
      rw [tunes, Bool.and_assoc]; rfl
    rw [et]
    cases (ix l k).Grand == x.Grand with
    | false => rfl
    | true =>
      by_cases h1 : (ix l k).Kind = 1
      · rw [h1]; rfl
      · have h1' : ((ix l k).Kind == 1) = false := beq_eq_false_iff_ne.2 h1
        rw [h1']
        cases ((ix l k).Kind == 0) && (decide ((ix l k).To ≤ x.From) && decide (x.From - (ix l k).To ≤ d.Lasts)) <;> rfl
end
section
set_option maxRecDepth 4000
open Go
variable {d : Diary} {n : Nat} {w : Int}
theorem open_eq (d : Diary) (hd : OkD d) (hn : 1000 < n) : diary_open n d = some (bif diaryD d != 0 then .inl (diaryD d) else .inr ()) := by
  rw [diary_open, CheckDiary_eq d hd hn]
  simp only [Option.bind_some]
  cases diaryD d != 0 <;> rfl
def noPlace (d : Diary) (s : Str) : Bool := !d.Places.any (isS s)
theorem isPlace_eq (d : Diary) (hn : 1000 < n) (hp : d.Places.length ≤ 900) (c : List (Int × Tab)) (s : Str) : diary_plan_isPlace_2 n d.Places d.Technicians d.Roads d.Grands d.Change d.Lasts c s = some (d.Places.any (isS s)) := by
  rw [diary_plan_isPlace_2, Contains_eq (n := n) d.Places s (by omega) (by omega)]; rfl
def legJ (d : Diary) (l : List Str) (w : Int) (v : Nat) : Int × Bool := joinB d.Roads (ix l (v - 1)) (ix l v) w
def legE (d : Diary) (l : List Str) (w : Int) (v : Nat) : Int := bif !(legJ d l w v).2 then 14 else 0
def sumR (d : Diary) (l : List Str) (w : Int) : Nat → Int
  | 0 => 0
  | v + 1 => bif decide (v = 0) then 0 else sumR d l w v + (legJ d l w v).1
theorem sumR_one (l : List Str) : sumR d l w 1 = 0 := rfl
theorem sumR_succ {l : List Str} {v : Nat} (h : 1 ≤ v) : sumR d l w (v + 1) = sumR d l w v + (legJ d l w v).1 := by
  rw [sumR, decide_eq_false (by omega : ¬ v = 0), cond_false]
end
section
set_option maxRecDepth 4000
open Go
variable {d : Diary} {n : Nat}
theorem isTuned_eq (ok : OkP d) (hn : 1000 < n) (c : List (Int × Tab)) (l : List Item) (hl : l.length ≤ 900) (hit : ∀ y ∈ l, y.To ≤ 1000000 ∧ 0 ≤ y.To) {x : Item} (hx : OkIt d x) :
    diary_plan_isTuned n d.Places d.Technicians d.Roads d.Grands d.Change d.Lasts c l x = some (tunedE (diaD d) l x) := by
  have e : diary_plan_tuning n d.Places d.Technicians d.Roads d.Grands d.Change d.Lasts c l x = some (restS (diaD d) x l 0 (-1)) := by
    rw [diary_plan_tuning, chk_of (decide_eq_true (by omega)), tune_eq x l hx.fr hit l.length (Nat.le_refl _), List.take_length]
  rw [diary_plan_isTuned, e, gcall_some_, tunedE]
  simp only [Option.bind_some]
  cases x.Kind == 2 with
  | false => rfl
  | true =>
    simp only [cond_true, Bool.true_and]
    cases decide (restS (diaD d) x l 0 (-1) < 0) <;> rfl
theorem order_take {l : List Item} {v : Nat} (hv : v < l.length) : orderE (l.take v) (ix l v) = bif decide (0 < v) && decide ((ix l v).From < (ix l (v - 1)).From) then 9 else 0 := by
  cases v with
  | zero => rfl
  | succ v =>
    rw [take_snoc (by omega : v < l.length), orderE]
    simp
theorem okF_mem {D : Dia} : ∀ {l pre : List Item}, okF D pre l → ∀ y ∈ l, D.ce y = 0
  | [], _, _, y, hy => by cases hy
  | x :: r, pre, h, y, hy => by
    rcases List.mem_cons.1 hy with rfl | hy
    · exact (errS_zero.1 h.1).1
    · exact okF_mem h.2 y hy
theorem errS_eq {D : Dia} {l : List Item} {x : Item} : errS D l x = bif D.ce x != 0 then D.ce x else bif orderE l x != 0 then orderE l x else bif changesE D l x != 0 then changesE D l x else bif standsE D l x != 0 then standsE D l x else bif travelsE D l x != 0 then travelsE D l x else bif tunedE D l x != 0 then tunedE D l x else 0 := rfl
theorem okIts {l : List Item} (h : ∀ y ∈ l, itemD d y = 0) : ∀ y ∈ l, y.To ≤ 1000000 ∧ 0 ≤ y.To := fun y hy => by
  have := (itemD_ok (h y hy)).to
  omega
theorem accS_cons {D : Dia} {pre : List Item} {x : Item} {r : List Item} {i : Nat} : accS D pre (x :: r) i = bif errS D pre x != 0 then (((i : Nat) : Int), errS D pre x) else accS D (pre ++ [x]) r (i + 1) := rfl
theorem accept_in (ok : OkP d) (hn : 1000 < n) (l : List Item) (hl : l.length ≤ 900) (hw : ∀ x ∈ l, x.Who.length ≤ 900) :
    ∀ m v f (c : List (Int × Tab)), v + m = l.length → m < f → OkC d.Places d.Roads c → (∀ y ∈ l.take v, itemD d y = 0) →
      ∃ c', loopN (diary_plan_accept_2_L1 n d.Places d.Technicians d.Roads d.Grands d.Change d.Lasts l fun v13 => some ((-1), 0, v13)) f (((v : Nat) : Int), c) =
        some ((accS (diaD d) (l.take v) (l.drop v) v).1, (accS (diaD d) (l.take v) (l.drop v) v).2, c') ∧ OkC d.Places d.Roads c' := by
  intro m
  induction m with
  | zero =>
    intro v f c hv hf hc hz
    obtain ⟨f, rfl⟩ : ∃ q, f = q + 1 := ⟨f - 1, by omega⟩
    refine ⟨c, ?_, hc⟩
    rw [loopN_s, diary_plan_accept_2_L1, decide_eq_false (by omega : ¬ (((v : Nat) : Int) < ((l.length : Nat) : Int))), drop_nil (by omega : ¬ v < l.length)]; rfl
  | succ m ih =>
    intro v f c hv hf hc hz
    obtain ⟨f, rfl⟩ : ∃ q, f = q + 1 := ⟨f - 1, by omega⟩
    have hvl : v < l.length := by omega
    have hp := ok.r.len
    have ht := ok.tl
    have hg := ok.gl
    have e : Diary.mk d.Places d.Technicians d.Roads d.Grands d.Change d.Lasts = d := rfl
    have hci := checkItem_eq (n := n) d (ix l v) (by omega) (by omega) (by omega) (hw _ (ix_mem hvl)) hn
    have htl : (l.take v).length ≤ 900 := by simp; omega
    rw [loopN_s, diary_plan_accept_2_L1, decide_eq_true (by omega : (((v : Nat) : Int) < ((l.length : Nat) : Int))), cond_true, drop_ix hvl, accS_cons, errS_eq, e]
    have b1 : inB ((v : Nat) : Int) l.length = true := inB_of (by omega) (by omega)
    have b2 : inC ((v : Nat) : Int) l.length = true := inC_of (by omega) (by omega)
    have b3 : inI (((v : Nat) : Int) - 1) = true := inI_of (by omega) (by omega)
    have b4 : inI (((v : Nat) : Int) + 1) = true := inI_of (by omega) (by omega)
    have b5 : (!(decide ((0 : Int) < ((v : Nat) : Int))) || inB (((v : Nat) : Int) - 1) l.length) = true := by
      by_cases h0 : v = 0
      · subst h0; rfl
      · rw [inB_of (by omega) (by omega), Bool.or_true]
    have b6 : (!(decide ((0 : Int) < ((v : Nat) : Int))) || decide ((((v : Nat) : Int) - 1).toNat < l.length)) = true := by
      by_cases h0 : v = 0
      · subst h0; rfl
      · rw [Bool.or_eq_true]; exact .inr (decide_eq_true (by omega))
    have b7 : ((((v : Nat) : Int) - 1).toNat) = v - 1 := by omega
    have b8 : decide ((0 : Int) < ((v : Nat) : Int)) = decide (0 < v) := by rw [decide_eq_decide]; omega
    rw [b5, b6]
    simp only [b1, b2, b3, b4, b7, b8, chk_t, Int.toNat_natCast, decide_eq_true hvl, hci, Option.bind_some, Bool.or_true]
    have hce : (diaD d).ce (ix l v) = itemD d (ix l v) := rfl
    rw [hce]
    by_cases h1 : itemD d (ix l v) = 0
    · have hx := itemD_ok h1
      rw [h1, order_take hvl]
      simp only [bne_self_eq_false, cond_false]
      cases h2 : decide (0 < v) && decide ((ix l v).From < (ix l (v - 1)).From) with
      | true => exact ⟨c, rfl, hc⟩
      | false =>
        have hits := okIts hz
        rw [changes_eq ok hn c (l.take v) htl hits (ix l v)]
        simp only [Option.bind_some, cond_false, bne_self_eq_false]
        by_cases h3 : changesE (diaD d) (l.take v) (ix l v) = 0
        · rw [h3]
          obtain ⟨c1, g1, hc1⟩ := stands_eq ok hn hc (l.take v) htl hx
          rw [g1]
          simp only [Option.bind_some, cond_false, bne_self_eq_false]
          by_cases h4 : standsE (diaD d) (l.take v) (ix l v) = 0
          · rw [h4]
            obtain ⟨c2, g2, hc2⟩ := travels_eq ok hn hc1 (l.take v) htl hits (ix l v)
            rw [g2]
            simp only [Option.bind_some, cond_false, bne_self_eq_false]
            by_cases h5 : travelsE (diaD d) (l.take v) (ix l v) = 0
            · rw [h5, isTuned_eq ok hn c2 (l.take v) htl hits hx]
              simp only [Option.bind_some, cond_false, bne_self_eq_false]
              by_cases h6 : tunedE (diaD d) (l.take v) (ix l v) = 0
              · rw [h6]
                simp only [cond_false, bne_self_eq_false]
                rw [← take_snoc hvl]
                refine ih (v + 1) f c2 (by omega) (by omega) hc2 fun y hy => ?_
                rw [take_snoc hvl, List.mem_append, List.mem_singleton] at hy
                rcases hy with hy | rfl
                · exact hz y hy
                · exact h1
              · exact ⟨c2, by simp only [bne_t h6, cond_true], hc2⟩
            · exact ⟨c2, by simp only [bne_t h5, cond_true], hc2⟩
          · exact ⟨c1, by simp only [bne_t h4, cond_true], hc1⟩
        · exact ⟨c, by simp only [bne_t h3, cond_true], hc⟩
    · exact ⟨c, by simp only [bne_t h1, cond_true], hc⟩
def accL (d : Diary) (l : List Item) : Int × Int := bif decide (100 < l.length) then (0, 8) else accS (diaD d) [] l 0
theorem accept_eq (ok : OkP d) (hn : 1000 < n) {c : List (Int × Tab)} (hc : OkC d.Places d.Roads c) (l : List Item) (hl : l.length ≤ 900) (hw : ∀ x ∈ l, x.Who.length ≤ 900) :
    ∃ c', diary_plan_accept_2 n d.Places d.Technicians d.Roads d.Grands d.Change d.Lasts c l = some ((accL d l).1, (accL d l).2, c') ∧ OkC d.Places d.Roads c' := by
  rw [diary_plan_accept_2, accL]
  cases decide (100 < l.length) with
  | true => exact ⟨c, rfl, hc⟩
  | false =>
    simp only [cond_false, withK_eq]
    obtain ⟨c', h1, h2⟩ := accept_in ok hn l hl hw l.length 0 n c (by omega) (by omega) hc (by simp)
    exact ⟨c', h1, h2⟩
def acceptD (d : Diary) (l : List Item) : Int × Int := bif diaryD d != 0 then (0, diaryD d) else accL d l
theorem Accept_eq (hd : OkD d) (hn : 1000 < n) (l : List Item) (hl : l.length ≤ 900) (hw : ∀ x ∈ l, x.Who.length ≤ 900) : diary_Accept n d l = some ((acceptD d l).2, (acceptD d l).1) := by
  rw [diary_Accept, open_eq d hd hn, acceptD]
  simp only [withK_eq, Option.bind_some]
  by_cases h : diaryD d = 0
  · obtain ⟨c', h1, _⟩ := accept_eq (okP h) hn OkC.nil l hl hw
    rw [h]
    simp only [bne_self_eq_false, cond_false]
    rw [h1]
    rfl
  · simp only [bne_t h, cond_true]
theorem read_eq (hd : OkD d) (hn : 1000 < n) (l : List Item) (hl : l.length ≤ 900) (hw : ∀ x ∈ l, x.Who.length ≤ 900) :
    (diaryD d ≠ 0 ∧ diary_read n d l = some (.inl (diaryD d))) ∨ (diaryD d = 0 ∧ ∃ c, diary_read n d l = some (.inr ((accL d l).2, c)) ∧ OkC d.Places d.Roads c) := by
  rw [diary_read, open_eq d hd hn]
  simp only [withK_eq, Option.bind_some]
  by_cases h : diaryD d = 0
  · obtain ⟨c', h1, h2⟩ := accept_eq (okP h) hn OkC.nil l hl hw
    refine .inr ⟨h, c', ?_, h2⟩
    rw [h]
    simp only [bne_self_eq_false, cond_false]
    rw [h1]
    rfl
  · refine .inl ⟨h, ?_⟩
    simp only [bne_t h, cond_true]
end
section
set_option maxRecDepth 4000
open Go
variable {n : Nat}
theorem mem_takeS {d : List Int} {p : Nat} (hp : p < d.length) (x : Int) : x ∈ d.take (p + 1) ↔ x ∈ d.take p ∨ x = ix d p := by
  rw [take_snoc hp, List.mem_append, List.mem_singleton]
def CptI (d : List Int) (p : Nat) (l : List Int) : Prop := l.Pairwise (· ≤ ·) ∧ ∀ x, x ∈ l ↔ x ∈ d.take p
theorem ord_take {d : List Int} (hd : d.Pairwise (· ≤ ·)) {p : Nat} (hp : p < d.length) : ∀ x ∈ d.take p, x ≤ ix d p := by
  intro x hx
  have h1 : (d.take p ++ d.drop p).Pairwise (· ≤ ·) := by rwa [List.take_append_drop]
  rw [drop_ix hp] at h1
  exact (List.pairwise_append.1 h1).2.2 x hx _ List.mem_cons_self
theorem CptI.same {d l : List Int} {p : Nat} (h : CptI d p l) (hp : p < d.length) (h1 : 1 ≤ p) (e : ix d p = ix d (p - 1)) : CptI d (p + 1) l := by
  refine ⟨h.1, fun x => ?_⟩
  rw [h.2, mem_takeS hp]
  refine ⟨.inl, fun g => ?_⟩
  rcases g with g | g
  · exact g
  · have : x ∈ d.take (p - 1 + 1) := (mem_takeS (by omega) x).2 (.inr (by rw [g, e]))
    rwa [show p - 1 + 1 = p by omega] at this
theorem CptI.new {d l : List Int} {p : Nat} (hd : d.Pairwise (· ≤ ·)) (h : CptI d p l) (hp : p < d.length) : CptI d (p + 1) (l ++ [ix d p]) := by
  refine ⟨List.pairwise_append.2 ⟨h.1, List.pairwise_singleton _ _, fun x hx y hy => ?_⟩, fun x => ?_⟩
  · rw [List.mem_singleton] at hy
    subst hy
    exact ord_take hd hp x ((h.2 x).1 hx)
  · rw [List.mem_append, List.mem_singleton, h.2, mem_takeS hp]
end
section
set_option maxRecDepth 4000
open Go
variable {d : Diary} {n : Nat}
end
section
set_option maxRecDepth 4000
open Go
variable {d : Diary} {n : Nat}
theorem accL_okF {l : List Item} (hl : l.length ≤ 100) : (accL d l).2 = 0 ↔ okF (diaD d) [] l := by
  rw [accL, decide_eq_false (by omega : ¬ 100 < l.length), cond_false]
  exact accS_ok l [] 0
theorem accL_items {l : List Item} (h : (accL d l).2 = 0) : l.length ≤ 100 ∧ okF (diaD d) [] l := by
  by_cases hl : 100 < l.length
  · rw [accL, decide_eq_true hl, cond_true] at h; exact absurd h (by decide : ¬ (8 : Int) = 0)
  · exact ⟨by omega, (accL_okF (by omega)).1 h⟩
end
section
set_option maxRecDepth 4000
open Go
variable {d : Diary} {n : Nat}
structure OkL (l : List Item) : Prop where
  len : l.length ≤ 103
  few : l.length ≤ 10 ∨ 100 < l.length
  it : ∀ x ∈ l, OkI x
def slimB (x : Item) : Bool := ((decide (x.Grand.length ≤ 30)) && (decide (x.Place.length ≤ 30))) && (decide (x.Who.length ≤ 30))
theorem slimB_ok {x : Item} (h : slimB x = true) : OkI x := by
  simp only [slimB, Bool.and_eq_true, decide_eq_true_eq] at h
  exact ⟨h.1.1, h.1.2, h.2⟩
theorem Few_eq (l : List Item) (hn : l.length < n) (hl : l.length ≤ 9223372036854775807) : ∃ b, agraffelaw09_Few n l = some b ∧ (b = true → OkL l) := by
  refine ⟨!(l.any fun x => !slimB x) && (decide (l.length ≤ 10) || (decide (100 < l.length) && decide (l.length ≤ 103))), ?_, fun h => ?_⟩
  · rw [agraffelaw09_Few, withK_eq, loop_any' (l := l) (p := fun x => !slimB x) (bad := some false) (no := some (decide (l.length ≤ 10) || (decide (100 < l.length) && decide (l.length ≤ 103)))) (fun back v hv => ?_) (fun back => ?_) n hn]
    · cases l.any fun x => !slimB x <;> rfl
    · rw [agraffelaw09_Few_L1]
      simp only [hv, decide_true, cond_true, agraffelaw09_slim, Option.bind_some, nI_of (by omega : v + 1 ≤ 9223372036854775807), chk_t]
      rfl
    · rw [agraffelaw09_Few_L1]; simp
  · rw [Bool.and_eq_true, Bool.not_eq_true', Bool.or_eq_true, Bool.and_eq_true] at h
    simp only [decide_eq_true_eq] at h
    refine ⟨by omega, by omega, fun x hx => ?_⟩
    have := List.any_eq_false.1 h.1 x hx
    rw [Bool.not_eq_true', Bool.not_eq_false] at this
    exact slimB_ok this
theorem acceptD_ok {l : List Item} : (acceptD d l).2 = 0 ↔ diaryD d = 0 ∧ (accL d l).2 = 0 := by
  rw [acceptD]
  by_cases h : diaryD d = 0
  · rw [h]; simp
  · rw [bne_t h]; simp [h]
theorem ix_getE {l : List Item} {i : Nat} (h : i < l.length) : l[i] = ix l i := (ix_eq h).symm
theorem apart (ok : OkP d) {l : List Item} (h : okF (diaD d) [] l) {i k : Nat} (hi : i < l.length) (hk : k < i) :
    ((((ix l i).Grand == (ix l k).Grand) || ((((ix l i).Kind == 0) && ((ix l k).Kind == 0)) && ((ix l i).Who == (ix l k).Who))) && (decide ((ix l i).From < (ix l k).To))) = false := by
  have h1 := okF_at h hi
  rw [ix_getE hi] at h1
  obtain ⟨_, _, h3, _, h5, _⟩ := errS_zero.1 h1
  rw [changesE_zero] at h3
  rw [travelsE_zero] at h5
  have hm : ix l k ∈ l.take i := by
    rw [← ix_take hk (by omega)]
    exact ix_mem (by simp; omega)
  have hch := ok.ch
  have hchD : (diaD d).change = d.Change := rfl
  rw [hchD] at h3
  cases hlt : decide ((ix l i).From < (ix l k).To) with
  | false => rw [Bool.and_false]
  | true =>
    have hlt := of_decide_eq_true hlt
    rw [Bool.and_true, Bool.or_eq_false_iff]
    refine ⟨?_, ?_⟩
    · rw [beq_eq_false_iff_ne]
      intro e
      have := h3 _ hm e.symm
      omega
    · rw [Bool.and_eq_false_iff, Bool.and_eq_false_iff]
      by_cases c1 : (ix l i).Kind = 0
      · by_cases c2 : (ix l k).Kind = 0
        · refine .inr ?_
          rw [beq_eq_false_iff_ne]
          intro e
          have hf := h5 c1 _ hm
          rw [farE, c2, e] at hf
          simp only [beq_self_eq_true, Bool.and_self, Bool.true_and] at hf
          have hdD : (diaD d).dist (ix l k).Place (ix l i).Place 1 = distW d.Places d.Roads (ix l k).Place (ix l i).Place 1 := rfl
          rw [hdD] at hf
          cases hd : distW d.Places d.Roads (ix l k).Place (ix l i).Place 1 with
          | none => rw [hd] at hf; cases hf
          | some q =>
            have hq := distW_rng ok.r hd
            rw [hd] at hf
            have := of_decide_eq_false hf
            omega
        · exact .inl (.inr (beq_eq_false_iff_ne.2 c2))
      · exact .inl (.inl (beq_eq_false_iff_ne.2 c1))
end
section
set_option maxRecDepth 4000
open Go
section
variable {D : Dia}
end
end
section
set_option maxRecDepth 4000
open Go
variable {d : Diary} {n : Nat}
end
section
set_option maxRecDepth 4000
open Go
variable {d : Diary} {n : Nat}
set_option maxRecDepth 100000 in
theorem written_ok (m : Nat) : agraffetop_written (m + 2000) = some true := by kernel_rfl
section
variable {D : Dia}
theorem foldl_none {g : Str} {t : Int} : ∀ (B : List Item) (a : Str), (∀ y ∈ B, movesTo g t y = false) → B.foldl (fun a y => bif movesTo g t y then y.Place else a) a = a
  | [], _, _ => rfl
  | y :: B, a, h => by
    rw [List.foldl_cons, h y List.mem_cons_self, cond_false]
    exact foldl_none B a fun z hz => h z (List.mem_cons_of_mem _ hz)
theorem placeS_none (A B : List Item) (g : Str) (t : Int) (h : ∀ y ∈ B, movesTo g t y = false) : placeS D (A ++ B) g t = placeS D A g t := by
  unfold placeS
  rw [List.foldl_append, foldl_none B _ h]
theorem mem_mid {l : List Item} {j i : Nat} (hi : i ≤ l.length) {y : Item} (hy : y ∈ (l.take i).drop j) : ∃ q, j ≤ q ∧ q < i ∧ y = ix l q := by
  obtain ⟨p, hp, e⟩ := List.mem_iff_getElem.1 hy
  have hp' : j + p < i := by simp at hp; omega
  refine ⟨j + p, by omega, hp', ?_⟩
  rw [← e, List.getElem_drop, List.getElem_take, ix_eq (by omega)]
theorem ix_take_mem {l : List Item} {i q : Nat} (hi : i ≤ l.length) (hq : q < i) : ix l q ∈ l.take i := by
  rw [← ix_take hq (by omega)]
  exact ix_mem (by simp; omega)
theorem standsE_place {l : List Item} {x : Item} (h : standsE D l x = 0) (hk : x.Kind ≠ 1) : placeS D l x.Grand x.From = x.Place := by
  have hb : (x.Kind == 1) = false := beq_eq_false_iff_ne.2 hk
  rw [standsE, hb, cond_false] at h
  cases e : placeS D l x.Grand x.From == x.Place with
  | true => exact eq_of_beq e
  | false => rw [e] at h; cases h
end
end
section
set_option maxRecDepth 4000
open Go
variable {d : Diary} {n : Nat} {w : Int}
theorem joinB_of (roads : List Road) (a b : Str) (w : Int) (h : (joinB roads a b w).2 = true) (lo : ∀ r ∈ roads, 1 ≤ r.Minutes) (hi : ∀ r ∈ roads, r.Minutes ≤ 10000) :
    1 ≤ (joinB roads a b w).1 ∧ (joinB roads a b w).1 ≤ 10000 ∧ Jn roads w a b (joinB roads a b w).1.toNat := by
  obtain ⟨⟨r, h1, h2, h3⟩, _⟩ := (joinB_spec a b w roads).2 h
  have g1 := lo r h1
  have g2 := hi r h1
  exact ⟨by omega, by omega, r, h1, h2, by omega⟩
theorem joinB_le {roads : List Road} {a b : Str} {w : Int} {m : Nat} (h : Jn roads w a b m) : (joinB roads a b w).2 = true ∧ (joinB roads a b w).1 ≤ ((m : Nat) : Int) := by
  obtain ⟨r, h1, h2, h3⟩ := h
  have s := joinB_spec a b w roads
  have h4 : (joinB roads a b w).2 = true := by
    rw [s.1, List.any_eq_true]; exact ⟨r, h1, h2⟩
  exact ⟨h4, by rw [← h3]; exact (s.2 h4).2 r h1 h2⟩
theorem distW_walk (ok : OkR d.Places d.Roads) {a b : Str} (ha : a ∈ d.Places) (hb : b ∈ d.Places) {v : Int} (h : distW d.Places d.Roads a b w = some v) :
    Walk (Jn d.Roads w) (fun _ => True) a b v.toNat ∧ ∀ l, Walk (Jn d.Roads w) (fun _ => True) a b l → v ≤ ((l : Nat) : Int) := by
  have h1 := distW_dist ok ha hb w
  have h2 := distW_rng ok h
  rw [h] at h1
  refine ⟨h1.1 v.toNat rfl, fun l hl => ?_⟩
  obtain ⟨q, g1, g2⟩ := h1.2 l hl
  have : v.toNat = q := Option.some.inj g1
  omega
theorem walk_distW (ok : OkR d.Places d.Roads) {a b : Str} (ha : a ∈ d.Places) (hb : b ∈ d.Places) {l : Nat} (h : Walk (Jn d.Roads w) (fun _ => True) a b l) :
    ∃ v, distW d.Places d.Roads a b w = some v ∧ v ≤ ((l : Nat) : Int) := by
  obtain ⟨q, g1, g2⟩ := (distW_dist ok ha hb w).2 l h
  cases e : distW d.Places d.Roads a b w with
  | none => rw [e] at g1; cases g1
  | some v =>
    rw [e] at g1
    have : v.toNat = q := Option.some.inj g1
    have := distW_rng ok e
    exact ⟨v, rfl, by omega⟩
theorem walk_cons {J : Str → Str → Nat → Prop} {a b : Str} {l : Nat} (h : Walk J (fun _ => True) a b l) : (l = 0 ∧ a = b) ∨ ∃ c m l', J a c m ∧ Walk J (fun _ => True) c b l' ∧ l = m + l' := by
  cases h with
  | refl => exact .inl ⟨rfl, rfl⟩
  | edge h => exact .inr ⟨b, l, 0, h, .refl b, rfl⟩
  | cons h _ k => exact .inr ⟨_, _, _, h, k, rfl⟩
def goP (d : Diary) (b : Str) (w : Int) (at_ : Str) (left : Int) (y : Str) : Bool :=
  ((joinB d.Roads at_ y w).2 && (distW d.Places d.Roads y b w).isSome) && ((joinB d.Roads at_ y w).1 + (distW d.Places d.Roads y b w).getD 0 == left)
theorem go_ex (ok : OkR d.Places d.Roads) {at_ b : Str} {left : Int} (ha : at_ ∈ d.Places) (hb : b ∈ d.Places) (hne : at_ ≠ b) (hd : distW d.Places d.Roads at_ b w = some left) : ∃ y ∈ d.Places, goP d b w at_ left y = true := by
  have hr := distW_rng ok hd
  obtain ⟨h1, h2⟩ := distW_walk ok ha hb hd
  rcases walk_cons h1 with ⟨_, e⟩ | ⟨c, m, l', g1, g2, g3⟩
  · exact absurd e hne
  · have hm := Jn_mem ok g1
    obtain ⟨j1, j2⟩ := joinB_le g1
    obtain ⟨v, v1, v2⟩ := walk_distW ok hm.2.1 hb g2
    have vr := distW_rng ok v1
    obtain ⟨q1, q2, q3⟩ := joinB_of d.Roads at_ c w j1 ok.lo ok.hi
    obtain ⟨w1, _⟩ := distW_walk ok hm.2.1 hb v1
    have := h2 _ (Walk.cons q3 trivial w1)
    refine ⟨c, hm.2.1, ?_⟩
    rw [goP, j1, v1]
    simp only [Option.isSome_some, Bool.and_self, Option.getD_some, Bool.true_and, beq_iff_eq]
    omega
theorem go_ok (ok : OkR d.Places d.Roads) {at_ b y : Str} {left : Int} (h : goP d b w at_ left y = true) : (joinB d.Roads at_ y w).2 = true ∧ 1 ≤ (joinB d.Roads at_ y w).1 ∧ (joinB d.Roads at_ y w).1 ≤ 10000 ∧ distW d.Places d.Roads y b w = some (left - (joinB d.Roads at_ y w).1) := by
  rw [goP, Bool.and_eq_true, Bool.and_eq_true, beq_iff_eq] at h
  obtain ⟨⟨h1, h2⟩, h3⟩ := h
  obtain ⟨q1, q2, _⟩ := joinB_of d.Roads at_ y w h1 ok.lo ok.hi
  cases e : distW d.Places d.Roads y b w with
  | none => rw [e] at h2; cases h2
  | some v =>
    rw [e] at h3
    refine ⟨h1, q1, q2, ?_⟩
    congr 1
    simp only [Option.getD_some] at h3
    omega
theorem goIdx (ok : OkR d.Places d.Roads) (hn : 1000 < n) (at_ a b : Str) (w left : Int) : ∀ m v f (c : List (Int × Tab)), v + m = d.Places.length → m < f → OkC d.Places d.Roads c →
    ∃ c', loopN (slices_IndexFunc_string_3_L1 n d.Places d.Places d.Technicians d.Roads d.Grands d.Change d.Lasts at_ w a b left fun v5 => some (v5, (-1))) f (v, c) =
      some (c', match (d.Places.drop v).findIdx? (goP d b w at_ left) with | some i => ((v + i : Nat) : Int) | none => -1) ∧ OkC d.Places d.Roads c' := by
  have hl := ok.len
  have hr := ok.rlen
  intro m
  induction m with
  | zero =>
    intro v f c hv hf hc
    obtain ⟨f, rfl⟩ : ∃ q, f = q + 1 := ⟨f - 1, by omega⟩
    refine ⟨c, ?_, hc⟩
    rw [loopN_s, slices_IndexFunc_string_3_L1, decide_eq_false (by omega : ¬ v < d.Places.length), drop_nil (by omega : ¬ v < d.Places.length)]; rfl
  | succ m ih =>
    intro v f c hv hf hc
    obtain ⟨f, rfl⟩ : ∃ q, f = q + 1 := ⟨f - 1, by omega⟩
    have hvl : v < d.Places.length := by omega
    obtain ⟨c1, g1, hc1⟩ := Distance_eq ok hn hc (ix d.Places v) b w
    have hi : (!((joinB d.Roads at_ (ix d.Places v) w).2 && (distW d.Places d.Roads (ix d.Places v) b w).isSome) || inI ((joinB d.Roads at_ (ix d.Places v) w).1 + (distW d.Places d.Roads (ix d.Places v) b w).getD 0)) = true := by
      cases h1 : (joinB d.Roads at_ (ix d.Places v) w).2 with
      | false => rfl
      | true =>
        obtain ⟨q1, q2, _⟩ := joinB_of d.Roads at_ (ix d.Places v) w h1 ok.lo ok.hi
        cases h2 : distW d.Places d.Roads (ix d.Places v) b w with
        | none => rfl
        | some u =>
          have := distW_rng ok h2
          rw [Option.getD_some, inI_of (by omega) (by omega), Bool.or_true]
    rw [loopN_s, slices_IndexFunc_string_3_L1, decide_eq_true hvl, cond_true, drop_ix hvl, List.findIdx?_cons]
    simp only [diary_Route_f1, joined_eq d.Places d.Technicians d.Roads d.Grands d.Change d.Lasts c at_ (ix d.Places v) w hn (by omega), g1, Option.bind_some, hi, chk_t]
    show ∃ c', (bif goP d b w at_ left (ix d.Places v) then some (c1, ((v : Nat) : Int)) else _) = _ ∧ _
    cases goP d b w at_ left (ix d.Places v) with
    | true => exact ⟨c1, rfl, hc1⟩
    | false =>
      simp only [cond_false, nI_of (by omega : v + 1 ≤ 9223372036854775807), chk_t]
      obtain ⟨c2, g2, hc2⟩ := ih (v + 1) f c1 (by omega) (by omega) hc1
      refine ⟨c2, ?_, hc2⟩
      rw [g2]
      cases (d.Places.drop (v + 1)).findIdx? (goP d b w at_ left) with
      | none => rfl
      | some i =>
        simp only [Bool.false_eq_true, if_false, Option.map_some]
        rw [show v + 1 + i = v + (i + 1) by omega]
theorem goIdx_eq (ok : OkR d.Places d.Roads) (hn : 1000 < n) {c : List (Int × Tab)} (hc : OkC d.Places d.Roads c) (at_ a b : Str) (w left : Int) :
    ∃ c', slices_IndexFunc_string_3 n d.Places d.Places d.Technicians d.Roads d.Grands d.Change d.Lasts c at_ w a b left = some (c', findI (goP d b w at_ left) d.Places) ∧ OkC d.Places d.Roads c' := by
  have hl := ok.len
  obtain ⟨c', h1, h2⟩ := goIdx ok hn at_ a b w left d.Places.length 0 n c (by omega) (by omega) hc
  refine ⟨c', ?_, h2⟩
  rw [slices_IndexFunc_string_3, withK_eq, h1, List.drop_zero, findI]
  cases d.Places.findIdx? (goP d b w at_ left) <;> simp
structure RInv (d : Diary) (a b : Str) (w all : Int) (at_ : Str) (left : Int) (r : List Str) : Prop where
  mem : at_ ∈ d.Places
  dist : distW d.Places d.Roads at_ b w = some left
  ne : 1 ≤ r.length
  first : ix r 0 = a
  last : ix r (r.length - 1) = at_
  nodup : r.Nodup
  far : ∀ y ∈ r, y ∈ d.Places ∧ ∃ v, distW d.Places d.Roads y b w = some v ∧ left ≤ v
  legs : ∀ v, 1 ≤ v → v < r.length → legE d r w v = 0
  sum : sumR d r w r.length = all - left
theorem nodup_len {l m : List Str} (h : l.Nodup) (hs : ∀ x ∈ l, x ∈ m) : l.length ≤ m.length := nodupLen l m h hs
theorem ix_snoc {r : List Str} {y : Str} {v : Nat} (h : v < r.length) : ix (r ++ [y]) v = ix r v := by
  rw [ix_eq (by simp; omega), ix_eq h, List.getElem_append_left h]
theorem ix_snoc' {r : List Str} {y : Str} : ix (r ++ [y]) r.length = y := by
  rw [ix_eq (by simp), List.getElem_append_right (Nat.le_refl _)]; simp
theorem sumR_snoc {r : List Str} {y : Str} : ∀ v, v ≤ r.length → sumR d (r ++ [y]) w v = sumR d r w v
  | 0, _ => rfl
  | v + 1, h => by
    rw [sumR, sumR, sumR_snoc v (by omega)]
    by_cases h0 : v = 0
    · subst h0; rfl
    · rw [legJ, legJ, ix_snoc (by omega), ix_snoc (by omega)]
theorem RInv.next (ok : OkR d.Places d.Roads) {a b : Str} {w all : Int} {at_ : Str} {left : Int} {r : List Str} (h : RInv d a b w all at_ left r) {y : Str} (hy : y ∈ d.Places) (hg : goP d b w at_ left y = true) :
    RInv d a b w all y (left - (joinB d.Roads at_ y w).1) (r ++ [y]) := by
  obtain ⟨g1, g2, g3, g4⟩ := go_ok ok hg
  have hne := h.ne
  have hll : (r ++ [y]).length = r.length + 1 := by simp
  have hleg : legJ d (r ++ [y]) w r.length = joinB d.Roads at_ y w := by
    rw [legJ, ix_snoc (by omega), ix_snoc', h.last]
  refine ⟨hy, g4, by omega, ?_, ?_, ?_, ?_, ?_, ?_⟩
  · rw [ix_snoc (by omega), h.first]
  · rw [hll, Nat.add_sub_cancel, ix_snoc']
  · rw [List.nodup_append]
    refine ⟨h.nodup, by simp, fun x hx z hz e => ?_⟩
    rw [List.mem_singleton] at hz
    subst hz; subst e
    obtain ⟨_, v, e1, e2⟩ := h.far _ hx
    rw [g4] at e1
    have := Option.some.inj e1
    omega
  · intro z hz
    rcases List.mem_append.1 hz with hz | hz
    · obtain ⟨e0, v, e1, e2⟩ := h.far z hz
      exact ⟨e0, v, e1, by omega⟩
    · rw [List.mem_singleton] at hz
      subst hz
      exact ⟨hy, _, g4, Int.le_refl _⟩
  · intro v h1 h2
    by_cases e : v = r.length
    · rw [e, legE, hleg, g1]; rfl
    · have := h.legs v h1 (by omega)
      rw [legE, legJ] at this ⊢
      rw [ix_snoc (by omega), ix_snoc (by omega)]
      exact this
  · rw [hll, sumR_succ hne, sumR_snoc _ (Nat.le_refl _), h.sum, hleg]
    omega
theorem route_in (ok : OkR d.Places d.Roads) (hn : 1000 < n) (e : Arr2_Str) (hb : e.a1 ∈ d.Places) (w all : Int) (hall : 0 ≤ all ∧ all ≤ 10485760000) :
    ∀ m f at_ left (r : List Str) (c : List (Int × Tab)), r.length + m = d.Places.length → m + 1 < f → OkC d.Places d.Roads c → RInv d e.a0 e.a1 w all at_ left r →
      ∃ r', loopN (diary_Route_L1 n d e w fun v17 => some (0, v17, all)) f (at_, left, r, c) = some (0, r', all) ∧ RInv d e.a0 e.a1 w all e.a1 0 r' := by
  intro m
  induction m with
  | zero =>
    intro f at_ left r c hm hf hc h
    obtain ⟨f, rfl⟩ : ∃ q, f = q + 1 := ⟨f - 1, by omega⟩
    by_cases hne : at_ = e.a1
    · have hz : left = 0 := by
        have h1 := h.dist
        rw [hne] at h1
        have h2 := distW_rng ok h1
        have h3 := (distW_walk ok hb hb h1).2 0 (.refl _)
        omega
      refine ⟨r, ?_, ?_⟩
      · rw [loopN_s, diary_Route_L1, hne, beq_self_eq_true]; rfl
      · rw [hne, hz] at h; exact h
    · obtain ⟨y, hy, hg⟩ := go_ex ok h.mem hb hne h.dist
      have h2 := h.next ok hy hg
      have := nodup_len h2.nodup (fun x hx => (h2.far x hx).1)
      simp at this
      omega
  | succ m ih =>
    intro f at_ left r c hm hf hc h
    obtain ⟨f, rfl⟩ : ∃ q, f = q + 1 := ⟨f - 1, by omega⟩
    have hl := ok.len
    have hrl := ok.rlen
    by_cases hne : at_ = e.a1
    · have hz : left = 0 := by
        have h1 := h.dist
        rw [hne] at h1
        have h2 := distW_rng ok h1
        have h3 := (distW_walk ok hb hb h1).2 0 (.refl _)
        omega
      refine ⟨r, ?_, ?_⟩
      · rw [loopN_s, diary_Route_L1, hne, beq_self_eq_true]; rfl
      · rw [hne, hz] at h; exact h
    · obtain ⟨y, hy, hg⟩ := go_ex ok h.mem hb hne h.dist
      have hfi : ¬ findI (goP d e.a1 w at_ left) d.Places < 0 := fun hneg => by
        have := (findI_neg hneg).2 y hy
        rw [hg] at this; cases this
      obtain ⟨p1, p2, p3, _⟩ := findI_pos hfi
      obtain ⟨c1, g1, hc1⟩ := goIdx_eq ok hn hc at_ e.a0 e.a1 w left
      generalize hj : findI (goP d e.a1 w at_ left) d.Places = j at *
      have hyp := ix_mem p2
      obtain ⟨q1, q2, q3, q4⟩ := go_ok ok p3
      have hdr := distW_rng ok h.dist
      have h2 := h.next ok hyp p3
      have hbe : (at_ == e.a1) = false := beq_eq_false_iff_ne.2 hne
      have hro : room 16 (r ++ [ix d.Places j.toNat]).length = true := room_of (by simp; omega) (by simp; omega)
      rw [loopN_s, diary_Route_L1, hbe]
      simp only [Bool.not_false, cond_true, g1, Option.bind_some, inB_of p1 p2, decide_eq_true p2, chk_t, joined_eq d.Places d.Technicians d.Roads d.Grands d.Change d.Lasts c1 at_ (ix d.Places j.toNat) w hn (by omega),
        inI_of (by omega : -9223372036854775808 ≤ left - (joinB d.Roads at_ (ix d.Places j.toNat) w).1) (by omega), hro]
      exact ih f _ _ _ c1 (by simp; omega) (by omega) hc1 h2
def endsD (d : Diary) (a b : Str) (w : Int) : Int := bif (noPlace d a) || (noPlace d b) then 6 else bif !isW w then 2 else 0
theorem noPlace_mem {s : Str} : noPlace d s = false ↔ s ∈ d.Places := by
  rw [noPlace, Bool.not_eq_false', List.any_eq_true]
  constructor
  · rintro ⟨y, hy, e⟩
    rw [isS, beq_iff_eq] at e
    rwa [← e]
  · intro h
    exact ⟨s, h, by rw [isS, beq_self_eq_true]⟩
theorem Route_eq (hd : OkD d) (h0 : diaryD d = 0) (hn : 1000 < n) (e : Arr2_Str) (w : Int) (h1 : endsD d e.a0 e.a1 w = 0) :
    e.a0 ∈ d.Places ∧ e.a1 ∈ d.Places ∧ isW w = true ∧
    ((distW d.Places d.Roads e.a0 e.a1 w = none ∧ diary_Route n d e w = some (12, [], 0)) ∨
     ∃ all r, distW d.Places d.Roads e.a0 e.a1 w = some all ∧ diary_Route n d e w = some (0, r, all) ∧ RInv d e.a0 e.a1 w all e.a1 0 r) := by
  have hp := hd.places
  have ok := (diaryD_zero h0).1
  have hl := ok.len
  rw [endsD] at h1
  cases e1 : noPlace d e.a0 with
  | true => rw [e1] at h1; simp at h1
  | false =>
  cases e2 : noPlace d e.a1 with
  | true => rw [e1, e2] at h1; simp at h1
  | false =>
  cases e3 : isW w with
  | false => rw [e1, e2, e3] at h1; simp at h1
  | true =>
  have ha := noPlace_mem.1 e1
  have hb := noPlace_mem.1 e2
  refine ⟨ha, hb, rfl, ?_⟩
  have f1 : d.Places.any (isS e.a0) = true := by rw [noPlace, Bool.not_eq_false'] at e1; exact e1
  have f2 : d.Places.any (isS e.a1) = true := by rw [noPlace, Bool.not_eq_false'] at e2; exact e2
  have f3 : ((decide (1 ≤ w)) && (decide (w ≤ 10000))) = true := e3
  obtain ⟨c1, g1, hc1⟩ := Distance_eq ok hn OkC.nil e.a0 e.a1 w
  have start : diary_Route n d e w = bif !(distW d.Places d.Roads e.a0 e.a1 w).isSome then some (12, [], 0) else
      loopN (diary_Route_L1 n d e w fun v17 => some (0, v17, (distW d.Places d.Roads e.a0 e.a1 w).getD 0)) n (e.a0, (distW d.Places d.Roads e.a0 e.a1 w).getD 0, [e.a0], c1) := by
    rw [diary_Route, open_eq d hd hn, h0]
    simp only [withK_eq, Option.bind_some, bne_self_eq_false, cond_false, isPlace_eq d hn (by omega), gcall_some_, diary_isWidth, diary_within, f1, f2, f3, Bool.not_true, Bool.not_false, cond_true, Bool.or_self, g1]
  cases hdist : distW d.Places d.Roads e.a0 e.a1 w with
  | none => exact .inl ⟨rfl, by rw [start, hdist]; rfl⟩
  | some all =>
    have hall := distW_rng ok hdist
    rw [hdist] at start
    simp only [Option.isSome_some, Bool.not_true, cond_false, Option.getD_some] at start
    have hpl : 1 ≤ d.Places.length := List.length_pos_of_mem ha
    obtain ⟨r', k1, k2⟩ := route_in ok hn e hb w all hall (d.Places.length - 1) n e.a0 all [e.a0] c1 (by simp; omega) (by omega) hc1
      ⟨ha, hdist, by simp, rfl, rfl, by simp, fun y hy => by rw [List.mem_singleton] at hy; subst hy; exact ⟨ha, all, hdist, Int.le_refl _⟩, fun v h1 h2 => by simp at h2; omega, by show sumR d [e.a0] w 1 = _; rw [sumR_one]; omega⟩
    exact .inr ⟨all, r', rfl, by rw [start]; exact k1, k2⟩
end
section
set_option maxRecDepth 4000
open Go
variable {d : Diary} {n : Nat}
def runsM (g : Str) (t : Int) (y : Item) : Bool := (((y.Kind == 1) && (y.Grand == g)) && (decide (y.From ≤ t))) && (decide (t < y.To))
def placeOfD (d : Diary) (l : List Item) (m : Moment) : Int × Str :=
  bif diaryD d != 0 then (diaryD d, []) else bif (accL d l).2 != 0 then ((accL d l).2, []) else bif !d.Grands.any (isG m.Grand) then (6, []) else bif !isBet 0 1000000 m.Minute then (2, []) else
  bif l.any (runsM m.Grand m.Minute) then (0, []) else (0, placeS (diaD d) l m.Grand m.Minute)
theorem Runs_eq (l : List Item) (hn : 1000 < n) (hl : l.length ≤ 900) (g : Str) (t : Int) : slices_ContainsFunc_Item_3 n l g t = some (l.any (runsM g t)) := by
  rw [slices_ContainsFunc_Item_3, slices_IndexFunc_Item_3, withK_eq, loop_findI (l := l) (p := runsM g t) (fun back v hv => ?_) (fun back => ?_) n (by omega)]
  · simp only [Option.bind_some, findI_any]
  · rw [slices_IndexFunc_Item_3_L1]
    simp only [hv, decide_true, cond_true, diary_PlaceOf_f1, Option.bind_some, nI_of (by omega : v + 1 ≤ 9223372036854775807), chk_t]
    rfl
  · rw [slices_IndexFunc_Item_3_L1]; simp
theorem PlaceOf_eq (hd : OkD d) (hn : 1000 < n) (l : List Item) (hl : l.length ≤ 900) (hw : ∀ x ∈ l, x.Who.length ≤ 900) (m : Moment) : diary_PlaceOf n d l m = some (placeOfD d l m) := by
  have hg := hd.grands
  rw [diary_PlaceOf, placeOfD]
  rcases read_eq hd hn l hl hw with ⟨h1, h2⟩ | ⟨h1, c, h2, h3⟩
  · rw [h2]
    simp only [withK_eq, Option.bind_some, bne_t h1, cond_true]
  · rw [h2, h1]
    simp only [withK_eq, Option.bind_some, bne_self_eq_false, cond_false]
    by_cases ha : (accL d l).2 = 0
    · rw [ha, grandP (okP h1) hn m.Grand]
      have hG := grandOf_some d.Grands m.Grand
      simp only [bne_self_eq_false, cond_false, Option.bind_some, diary_isMinute, diary_within, Runs_eq l hn hl, place_P (okP h1) hn c l hl]
      have e : ((decide (0 ≤ m.Minute)) && (decide (m.Minute ≤ 1000000))) = isBet 0 1000000 m.Minute := rfl
      rw [e, ← hG]
      cases grandOf d.Grands m.Grand with
      | none => rfl
      | some x =>
        cases isBet 0 1000000 m.Minute with
        | false => rfl
        | true =>
          simp only [grandT, Option.isSome_some, Bool.not_true, cond_false]
          cases l.any (runsM m.Grand m.Minute) <;> rfl
    · simp only [bne_t ha, cond_true]
theorem grandOf_ix {l : List Grand} {s : Str} (h : ¬ findI (isG s) l < 0) : grandOf l s = some (ix l (findI (isG s) l).toNat) := by
  obtain ⟨h1, h2, h3, h4⟩ := findI_pos h
  rw [grandOf, List.find?_eq_some_iff_getElem]
  refine ⟨h3, _, h2, (ix_eq h2).symm, fun j hj => ?_⟩
  have := h4 j hj
  rw [ix_eq (by omega)] at this
  rw [this]; rfl
theorem known_findI {l : List Grand} {s : Str} (h : l.any (isG s) = true) : ¬ findI (isG s) l < 0 := fun c => by
  have := findI_none (isG s) l
  rw [h, decide_eq_true c] at this
  cases this
theorem Stands_ref (hd : OkD d) (hn : 1000 < n) (l : List Item) (hl : l.length ≤ 900) {g : Str} (hg : d.Grands.any (isG g) = true) (t : Int) : agrafferef09_Stands n d l g t = some (placeS (diaD d) l g t) := by
  have hgl := hd.grands
  have hk := known_findI hg
  obtain ⟨h1, h2, _, _⟩ := findI_pos hk
  have hi : (diaD d).init g = (ix d.Grands (findI (isG g) d.Grands).toNat).Place := by
    simp only [diaD, grandOf_ix hk]
  rw [agrafferef09_Stands, GrandAt_eq (n := n) d g (by omega) (by omega)]
  simp only [Option.bind_some, inB_of h1 h2, decide_eq_true h2, chk_t, withK_eq, ← hi]
  refine loop_fold (st := fun v => placeS (diaD d) (l.take v) g t) (len := l.length) (fun back v hv => ?_) (fun back => ?_) n (by omega) rfl
  · rw [agrafferef09_Stands_L1]
    simp only [hv, decide_true, cond_true, withK_eq, nI_of (by omega : v + 1 ≤ 9223372036854775807), chk_t, take_snoc hv]
    rw [placeS, placeS, List.foldl_append]
    show (bif movesTo g t (ix l v) then _ else _) = _
    simp only [List.foldl_cons, List.foldl_nil]
    cases movesTo g t (ix l v) <;> rfl
  · rw [agrafferef09_Stands_L1]; simp
theorem itemD_known {x : Item} (h : itemD d x = 0) : d.Grands.any (isG x.Grand) = true := by
  have o := itemD_ok h
  have hk := o.kind
  have hf := o.fr
  have ht := o.to
  have hl := o.lt
  have e0 : isBet 0 3 x.Kind = true := by rw [isBet, decide_eq_true hk.1, decide_eq_true hk.2]; rfl
  have e1 : isBet 0 1000000 x.From = true := by rw [isBet, decide_eq_true hf.1, decide_eq_true hf.2]; rfl
  have e2 : isBet 0 1000000 x.To = true := by rw [isBet, decide_eq_true ht.1, decide_eq_true ht.2]; rfl
  have e3 : decide (x.To ≤ x.From) = false := decide_eq_false (by omega)
  cases e : d.Grands.any (isG x.Grand) with
  | true => rfl
  | false => rw [itemD, e0, e1, e2, e3, e] at h; simp at h
section
variable {l : List Item} {v : Nat}
theorem pairOf (ok : OkP d) (hF : okF (diaD d) [] l) {i k : Nat} (hi : i < l.length) (hk : k < i) (hg : (ix l k).Grand = (ix l i).Grand) : (ix l k).To + d.Change ≤ (ix l i).From := by
  have h1 := okF_at hF hi
  rw [ix_getE hi] at h1
  have h3 := changesE_zero.1 (errS_zero.1 h1).2.2.1
  exact h3 _ (ix_take_mem (by omega) hk) hg
theorem okIt_at (hF : okF (diaD d) [] l) {i : Nat} (hi : i < l.length) : OkIt d (ix l i) := itemD_ok (okF_mem hF _ (ix_mem hi))
theorem mem_ixE {y : Item} (hy : y ∈ l) : ∃ q, q < l.length ∧ y = ix l q := by
  obtain ⟨q, hq, e⟩ := List.mem_iff_getElem.1 hy
  exact ⟨q, hq, by rw [ix_eq hq, e]⟩
theorem none_runs (ok : OkP d) (hF : okF (diaD d) [] l) (hv : v < l.length) (hk : (ix l v).Kind ≠ 1) : l.any (runsM (ix l v).Grand (ix l v).From) = false := by
  have hch := ok.ch
  rw [List.any_eq_false]
  intro y hy hr
  obtain ⟨q, hq, rfl⟩ := mem_ixE hy
  simp only [runsM, Bool.and_eq_true, beq_iff_eq, decide_eq_true_eq] at hr
  obtain ⟨⟨⟨h1, h2⟩, h3⟩, h4⟩ := hr
  have hlt := (okIt_at hF hv).lt
  rcases Nat.lt_trichotomy q v with c | c | c
  · have := pairOf ok hF hv c h2; omega
  · subst c; exact hk h1
  · have := pairOf ok hF hq c h2.symm; omega
theorem place_begin (ok : OkP d) (hF : okF (diaD d) [] l) (hv : v < l.length) (hk : (ix l v).Kind ≠ 1) : placeS (diaD d) l (ix l v).Grand (ix l v).From = (ix l v).Place := by
  have hch := ok.ch
  have h1 := okF_at hF hv
  rw [ix_getE hv] at h1
  rw [← standsE_place (errS_zero.1 h1).2.2.2.1 hk]
  have e : l = l.take v ++ l.drop v := (List.take_append_drop v l).symm
  have e2 : placeS (diaD d) l (ix l v).Grand (ix l v).From = placeS (diaD d) (l.take v ++ l.drop v) (ix l v).Grand (ix l v).From := by rw [← e]
  rw [e2]
  refine placeS_none _ _ _ _ fun y hy => ?_
  obtain ⟨q, q1, q2, rfl⟩ := mem_mid (j := v) (i := l.length) (Nat.le_refl _) (by rw [List.take_length]; exact hy)
  have hlt := (okIt_at hF hv).lt
  unfold movesTo
  by_cases c : q = v
  · subst c
    have : ((ix l q).Kind == 1) = false := beq_eq_false_iff_ne.2 hk
    rw [this, Bool.false_and, Bool.false_and]
  · by_cases g : (ix l q).Grand = (ix l v).Grand
    · have := pairOf ok hF q2 (by omega : v < q) g.symm
      have := (okIt_at hF q2).lt
      rw [decide_eq_false (by omega), Bool.and_false]
    · have : ((ix l q).Grand == (ix l v).Grand) = false := beq_eq_false_iff_ne.2 g
      rw [this, Bool.and_false, Bool.false_and]
theorem runs_begin (hF : okF (diaD d) [] l) (hv : v < l.length) (hk : (ix l v).Kind = 1) : l.any (runsM (ix l v).Grand (ix l v).From) = true := by
  rw [List.any_eq_true]
  refine ⟨ix l v, ix_mem hv, ?_⟩
  have hlt := (okIt_at hF hv).lt
  rw [runsM, hk, beq_self_eq_true, beq_self_eq_true, decide_eq_true (Int.le_refl _), decide_eq_true hlt]; rfl
theorem runs_end (ok : OkP d) (hF : okF (diaD d) [] l) (hv : v < l.length) (h : l.any (runsM (ix l v).Grand (ix l v).To) = true) : d.Change ≤ 0 := by
  obtain ⟨y, hy, hr⟩ := List.any_eq_true.1 h
  have hch := ok.ch
  obtain ⟨q, hq, rfl⟩ := mem_ixE hy
  simp only [runsM, Bool.and_eq_true, beq_iff_eq, decide_eq_true_eq] at hr
  obtain ⟨⟨⟨h1, h2⟩, h3⟩, h4⟩ := hr
  have hlt := (okIt_at hF hv).lt
  rcases Nat.lt_trichotomy q v with c | c | c
  · have := pairOf ok hF hv c h2; omega
  · subst c; omega
  · have := pairOf ok hF hq c h2.symm; omega
theorem place_end (ok : OkP d) (hF : okF (diaD d) [] l) (hv : v < l.length) (hk : (ix l v).Kind = 1) : placeS (diaD d) l (ix l v).Grand (ix l v).To = (ix l v).Place := by
  have hch := ok.ch
  have e : l = l.take (v + 1) ++ l.drop (v + 1) := (List.take_append_drop (v + 1) l).symm
  have e2 : placeS (diaD d) l (ix l v).Grand (ix l v).To = placeS (diaD d) (l.take (v + 1) ++ l.drop (v + 1)) (ix l v).Grand (ix l v).To := by rw [← e]
  rw [e2, placeS_none]
  · rw [take_snoc hv, placeS, List.foldl_append, List.foldl_cons, List.foldl_nil]
    have : movesTo (ix l v).Grand (ix l v).To (ix l v) = true := by
      rw [movesTo, hk, beq_self_eq_true, beq_self_eq_true, decide_eq_true (Int.le_refl _)]; rfl
    rw [this, cond_true]
  · intro y hy
    obtain ⟨q, q1, q2, rfl⟩ := mem_mid (j := v + 1) (i := l.length) (Nat.le_refl _) (by rw [List.take_length]; exact hy)
    unfold movesTo
    by_cases g : (ix l q).Grand = (ix l v).Grand
    · have := pairOf ok hF q2 (by omega : v < q) g.symm
      have := (okIt_at hF q2).lt
      rw [decide_eq_false (by omega), Bool.and_false]
    · have : ((ix l q).Grand == (ix l v).Grand) = false := beq_eq_false_iff_ne.2 g
      rw [this, Bool.and_false, Bool.false_and]
end
theorem placeS_mem (ok : OkP d) {g : Str} (hg : d.Grands.any (isG g) = true) (t : Int) {l : List Item} (hl : ∀ y ∈ l, y.Place ∈ d.Places) : placeS (diaD d) l g t ∈ d.Places := by
  have hk := known_findI hg
  have h0 : (diaD d).init g ∈ d.Places := by
    simp only [diaD, grandOf_ix hk]
    exact (ok.g _ (ix_mem (findI_pos hk).2.1)).1
  unfold placeS
  generalize (diaD d).init g = a at h0
  induction l generalizing a with
  | nil => exact h0
  | cons y l ih =>
    rw [List.foldl_cons]
    refine ih (fun z hz => hl z (List.mem_cons_of_mem _ hz)) _ ?_
    cases movesTo g t y with
    | true => exact hl y List.mem_cons_self
    | false => exact h0
theorem one_place_in (hd : OkD d) (h0 : diaryD d = 0) (hn : 1000 < n) {l : List Item} (hl : l.length ≤ 100) (hw : ∀ x ∈ l, x.Who.length ≤ 900) (hA : (accL d l).2 = 0) {v : Nat} (hv : v < l.length) (k : Unit → Option Bool) (back : Nat → Option Bool) :
    agraffetop_TopOnePlace_L1 n d l k back v = back (v + 1) := by
  have ok := okP h0
  have hF := (accL_items hA).2
  have hch := ok.ch
  have hx := okIt_at hF hv
  have hxd := okF_mem hF _ (ix_mem hv)
  have hkn : d.Grands.any (isG (ix l v).Grand) = true := itemD_known hxd
  have hfr := hx.fr
  have hto := hx.to
  have hlt := hx.lt
  have hg := hd.grands
  have b1 : isBet 0 1000000 (ix l v).From = true := by rw [isBet, decide_eq_true hfr.1, decide_eq_true hfr.2]; rfl
  have b2 : isBet 0 1000000 (ix l v).To = true := by rw [isBet, decide_eq_true hto.1, decide_eq_true hto.2]; rfl
  have pl : ∀ t, isBet 0 1000000 t = true → placeOfD d l (Moment.mk (ix l v).Grand t) = bif l.any (runsM (ix l v).Grand t) then (0, []) else (0, placeS (diaD d) l (ix l v).Grand t) := fun t ht => by
    rw [placeOfD, h0, hA]
    simp only [bne_self_eq_false, cond_false, hkn, ht, Bool.not_true]
  have nI1 := nI_of (by omega : v + 1 ≤ 9223372036854775807)
  rw [agraffetop_TopOnePlace_L1]
  simp only [hv, decide_true, cond_true, withK_eq, PlaceOf_eq hd hn l (by omega) hw, Option.bind_some, pl _ b1, pl _ b2, nI1, chk_t]
  have hz : ∀ (b : Bool) (s : Str), (bif b then ((0 : Int), ([] : Str)) else (0, s)).1 = 0 := fun b s => by cases b <;> rfl
  rw [hz, hz]
  simp only [bne_self_eq_false, Bool.or_self, cond_false]
  by_cases hk : (ix l v).Kind = 1
  · have hkb : ((ix l v).Kind != 1) = false := by rw [hk]; rfl
    rw [hkb, runs_begin hF hv hk, cond_false]
    simp only [cond_true, beq_self_eq_true, Bool.not_true, cond_false]
    have hend : ((!((bif l.any (runsM (ix l v).Grand (ix l v).To) then ((0 : Int), ([] : Str)) else (0, placeS (diaD d) l (ix l v).Grand (ix l v).To)).2 == (ix l v).Place)) && ((!((bif l.any (runsM (ix l v).Grand (ix l v).To) then ((0 : Int), ([] : Str)) else (0, placeS (diaD d) l (ix l v).Grand (ix l v).To)).2 == ([] : Str))) || (decide ((0 : Int) < d.Change)))) = false := by
      cases hr : l.any (runsM (ix l v).Grand (ix l v).To) with
      | true =>
        have := runs_end ok hF hv hr
        rw [decide_eq_false (by omega : ¬ 0 < d.Change)]
        simp
      | false =>
        rw [cond_false, place_end ok hF hv hk, beq_self_eq_true]; rfl
    rw [hend, cond_false, GrandAt_eq (n := n) d _ (by omega) (by omega), Stands_ref hd hn (l.take v) (by simp; omega) hkn]
    obtain ⟨g1, g2, _, _⟩ := findI_pos (known_findI hkn)
    have hwid : (diaD d).width (ix l v).Grand = (ix d.Grands (findI (isG (ix l v).Grand) d.Grands).toNat).Width := by
      simp only [diaD, grandOf_ix (known_findI hkn)]
    have h1 := okF_at hF hv
    rw [ix_getE hv] at h1
    have hst := (errS_zero.1 h1).2.2.2.1
    have hmem := placeS_mem ok hkn (ix l v).From (l := l.take v) (fun y hy => (itemD_ok (okF_mem hF y (List.take_subset _ _ hy))).place)
    have hkb1 : ((ix l v).Kind == 1) = true := by rw [hk]; rfl
    rw [standsE, hkb1, cond_true, hwid] at hst
    generalize placeS (diaD d) (l.take v) (ix l v).Grand (ix l v).From = from_ at hst hmem ⊢
    have hgw := ok.g _ (ix_mem g2)
    simp only [Option.bind_some, decide_eq_true (Nat.le_of_lt hv), inB_of g1 g2, decide_eq_true g2, chk_t, inI_of (by omega : -9223372036854775808 ≤ (ix l v).To - (ix l v).From) (by omega), Bool.or_true]
    generalize (ix d.Grands (findI (isG (ix l v).Grand) d.Grands).toNat).Width = w at hst hgw ⊢
    by_cases hne : from_ = (ix l v).Place
    · rw [hne, beq_self_eq_true] at hst; cases hst
    · have hneb : (from_ == (ix l v).Place) = false := beq_eq_false_iff_ne.2 hne
      rw [hneb, cond_false] at hst
      have hdD : (diaD d).dist from_ (ix l v).Place w = distW d.Places d.Roads from_ (ix l v).Place w := rfl
      rw [hdD] at hst
      have hends : endsD d from_ (ix l v).Place w = 0 := by
        rw [endsD, noPlace_mem.2 hmem, noPlace_mem.2 hx.place, isW, decide_eq_true hgw.2.1, decide_eq_true hgw.2.2]; rfl
      obtain ⟨_, _, _, hR⟩ := Route_eq hd h0 hn (Arr2_Str.mk from_ (ix l v).Place) w hends
      rcases hR with ⟨r1, _⟩ | ⟨all, r, r1, r2, r3⟩
      · have r1 : distW d.Places d.Roads from_ (ix l v).Place w = none := r1
        rw [r1] at hst; cases hst
      · have r1 : distW d.Places d.Roads from_ (ix l v).Place w = some all := r1
        rw [r1] at hst
        have hall : ¬ (ix l v).To - (ix l v).From < all := fun c => by
          simp only [decide_eq_true c, cond_true] at hst
          cases hst
        have hlen : ¬ r.length < 2 := fun c => by
          have h1 := r3.ne
          have e1 : r.length = 1 := by omega
          have f1 := r3.first
          have f2 := r3.last
          rw [e1] at f2
          exact hne (f1.symm.trans f2)
        rw [r2]
        simp only [Option.bind_some, bne_self_eq_false, decide_eq_false hall, decide_eq_false hlen, Bool.or_self, cond_false]
  · have hkb : ((ix l v).Kind != 1) = true := by simpa using hk
    rw [hkb, none_runs ok hF hv hk, cond_true, cond_false, place_begin ok hF hv hk]
    simp only [beq_self_eq_true, Bool.not_true, cond_false]
theorem pure_TopOnePlace (a0 : Diary) (a1 : List Item) (hp : a0.Places.length ≤ 9223372036854775807) (ht : a0.Technicians.length ≤ 9223372036854775807) (h1 : a1.length ≤ 9223372036854775807) :
    agraffetop_TopOnePlace (a0.Places.length + a0.Technicians.length + a1.length + 2000) a0 a1 = some true := by
  have hn : 1000 < a0.Places.length + a0.Technicians.length + a1.length + 2000 := by omega
  obtain ⟨b, hb, hok⟩ := Light_eq (n := a0.Places.length + a0.Technicians.length + a1.length + 2000) a0 hn (by omega) (by omega) hp ht
  obtain ⟨f, hf, hfok⟩ := Few_eq (n := a0.Places.length + a0.Technicians.length + a1.length + 2000) a1 (by omega) h1
  rw [agraffetop_TopOnePlace, written_ok, hb, hf]
  generalize a0.Places.length + a0.Technicians.length + a1.length + 2000 = n at hn
  simp only [Option.bind_some, Bool.not_true, cond_false, gcall_some_]
  cases b with
  | false => rfl
  | true =>
    cases f with
    | false => rfl
    | true =>
      have hd := hok rfl
      have hL := hfok rfl
      have hlen := hL.len
      have hw : ∀ x ∈ a1, x.Who.length ≤ 900 := fun x hx => by have := (hL.it x hx).who; omega
      simp only [Bool.not_true, Bool.not_false, Bool.or_self, cond_true, cond_false, Accept_eq hd hn a1 (by omega) hw, Option.bind_some]
      by_cases hacc : (acceptD a0 a1).2 = 0
      · obtain ⟨h0, hA⟩ := acceptD_ok.1 hacc
        have hl100 := (accL_items hA).1
        have hfew := hL.few
        rw [hacc]
        simp only [bne_self_eq_false, cond_false, decide_eq_false (by omega : ¬ 10 < a1.length), withK_eq]
        refine loop_through (st := fun v => v) (len := a1.length) (fun back v hv => ?_) (fun back => ?_) n (by omega)
        · exact one_place_in hd h0 hn hl100 hw hA hv _ back
        · rw [agraffetop_TopOnePlace_L1]; simp
      · simp only [bne_t hacc, cond_true]
end
end Go.Proofs.Ytpmkdgnhllhaeaa.As
