/- What the functions compute, on plain data, and what follows from it, part 1: no condition. -/
import Derived.Test.YtchkkpbkgghcoaaGreatDoorGround3
namespace Go.Proofs.YtchkkpbkgghcoaaGreatDoor.As
open Go
section
set_option maxRecDepth 4000
open Go
structure Road where
  A : Str
  B : Str
  Minutes : Int
  Width : Int
  deriving Inhabited, DecidableEq
def eRoad (x : Road) : V := .agg [vt x.A, vt x.B, vi x.Minutes, vi x.Width]
structure Grand where
  Name : Str
  Place : Str
  Width : Int
  deriving Inhabited, DecidableEq
def eGrand (x : Grand) : V := .agg [vt x.Name, vt x.Place, vi x.Width]
structure Diary where
  Places : List Str
  Technicians : List Str
  Roads : List Road
  Grands : List Grand
  Change : Int
  Lasts : Int
  deriving Inhabited, DecidableEq
structure Item where
  Kind : Int
  From : Int
  To : Int
  Grand : Str
  Place : Str
  Who : Str
  Deposit : Int
  deriving Inhabited, DecidableEq
def eItem (x : Item) : V := .agg [vi x.Kind, vi x.From, vi x.To, vt x.Grand, vt x.Place, vt x.Who, vi x.Deposit]
theorem eItem_frz (x : Item) : (eItem x).frz = true := rfl
theorem eItem_frzE (x : Item) : frzE (eItem x) = true := rfl
structure Arr2_Str where
  a0 : Str
  a1 : Str
  deriving Inhabited, DecidableEq
def eArr2_Str (x : Arr2_Str) : V := .agg [vt x.a0, vt x.a1]
theorem eArr2_Str_frz (x : Arr2_Str) : (eArr2_Str x).frz = true := rfl
theorem eArr2_Str_key : KeyAB eArr2_Str (fun x => x.a0) (fun x => x.a1) := ⟨fun _ => rfl, fun ⟨a, b⟩ ⟨c, d⟩ => keyab_dec ⟨fun h => by cases h; exact ⟨rfl, rfl⟩, fun h => by cases h.1; cases h.2; rfl⟩⟩
def tunStop (x : Item) (lasts : Int) (y : Item) : Bool := (y.Grand == x.Grand) && ((y.Kind == 1) || ((y.Kind == 0) && (decide (y.To ≤ x.From) && decide (IntKind.i64.wrap (x.From - y.To) ≤ lasts))))
def tuneL (x : Item) (lasts : Int) (l : List Item) : Nat → Int
  | 0 => -1
  | k + 1 => bif tunStop x lasts (ix l k) then (bif (ix l k).Kind == 1 then -1 else ((k : Nat) : Int)) else tuneL x lasts l k
def sortIns (x : Int) : List Int → List Int
  | [] => [x]
  | y :: l => bif decide (x ≤ y) then x :: y :: l else y :: sortIns x l
def sortI : List Int → List Int
  | [] => []
  | x :: l => sortIns x (sortI l)
def insL {α : Type} (l : List α) (i : Nat) (x : α) : List α := l.take i ++ x :: l.drop i
structure Window where
  From : Int
  To : Int
  deriving Inhabited, DecidableEq
def eWindow (x : Window) : V := .agg [vi x.From, vi x.To]
def agraffelaw09_Town (n : Nat)  : Option Unit :=
  some ()
def diary_isName_L1 (a0 : Str) (k1 : (Unit → Option Bool)) (back : Nat → Option Bool) : Nat → Option Bool
  | v1 =>
  bif decide (v1 < a0.length) then
    bif (!(((decide ((97 : Int) ≤ (((List.getD a0 v1 0).toNat : Nat) : Int))) && (decide ((((List.getD a0 v1 0).toNat : Nat) : Int) ≤ (122 : Int)))) || ((decide ((65 : Int) ≤ (((List.getD a0 v1 0).toNat : Nat) : Int))) && (decide ((((List.getD a0 v1 0).toNat : Nat) : Int) ≤ (90 : Int)))))) && ((decide (v1 = 0)) || (((((List.getD a0 v1 0).toNat : Nat) : Int) != (45 : Int)) && ((decide ((((List.getD a0 v1 0).toNat : Nat) : Int) < (48 : Int))) || (decide ((57 : Int) < (((List.getD a0 v1 0).toNat : Nat) : Int)))))) then
      some false
    else
      chk (nI (v1 + 1)) <|
      back (v1 + 1)
  else
    k1 ()
def diary_isName (n : Nat) (a0 : Str) : Option Bool :=
  withK (fun (_ : Unit) =>
      some ((!(a0 == ([] : Str))) && (decide (a0.length ≤ 12)))) fun k1 =>
  loopN (diary_isName_L1 a0 k1) n 0
def slices_Index_string_L1 (a0 : List Str) (a1 : Str) (k1 : (Unit → Option Int)) (back : Nat → Option Int) : Nat → Option Int
  | v1 =>
  bif decide (v1 < a0.length) then
    bif (a1 == (ix a0 v1)) then
      some ((v1 : Nat) : Int)
    else
      chk (nI (v1 + 1)) <|
      back (v1 + 1)
  else
    k1 ()
def slices_Index_string (n : Nat) (a0 : List Str) (a1 : Str) : Option Int :=
  withK (fun (_ : Unit) =>
      some (-1)) fun k1 =>
  loopN (slices_Index_string_L1 a0 a1 k1) n 0
def slices_Contains_string (n : Nat) (a0 : List Str) (a1 : Str) : Option Bool :=
  (slices_Index_string n a0 a1).bind fun y1 =>
  some (decide ((0 : Int) ≤ y1))
def diary_checkName (n : Nat) (a0 : Str) (a1 : List Str) : Option Int :=
  (diary_isName n a0).bind fun y1 =>
  bif !y1 then
    some 4
  else
    (slices_Contains_string n a1 a0).bind fun y2 =>
    bif y2 then
      some 5
    else
      some 0
def diary_checkNames_L1 (n : Nat) (a0 : List Str) (k1 : (Unit → Option Int)) (back : Nat → Option Int) : Nat → Option Int
  | v2 =>
  bif decide (v2 < a0.length) then
    chk (decide (v2 ≤ a0.length)) <|
    (diary_checkName n (ix a0 v2) (List.take v2 a0)).bind fun y3 =>
    bif (y3 != (0 : Int)) then
      some y3
    else
      chk (nI (v2 + 1)) <|
      back (v2 + 1)
  else
    k1 ()
def diary_checkNames (n : Nat) (a0 : List Str) (a1 : Int) : Option Int :=
  bif decide (a1 < ((a0.length : Nat) : Int)) then
    some 8
  else
    withK (fun (_ : Unit) =>
        some 0) fun k1 =>
    loopN (diary_checkNames_L1 n a0 k1) n 0
def diary_within (n : Nat) (a0 : Int) (a1 : Int) (a2 : Int) : Option Unit :=
  some ()
def diary_isWidth (n : Nat) (a0 : Int) : Option Unit :=
  (diary_within n a0 1 10000).bind fun y1 =>
  some ()
def diary_checkRoads_L1 (n : Nat) (a0 : Diary) (k1 : (Unit → Option Int)) (back : Nat → Option Int) : Nat → Option Int
  | v5 =>
  bif decide (v5 < a0.Roads.length) then
    (slices_Contains_string n a0.Places ((ix a0.Roads v5).A)).bind fun y6 =>
    (gcall (!(!y6)) (slices_Contains_string n a0.Places ((ix a0.Roads v5).B))).bind fun y7 =>
    bif (!y6) || (!y7) then
      some 6
    else
      bif (((ix a0.Roads v5).A) == ((ix a0.Roads v5).B)) then
        some 3
      else
        (diary_within n ((ix a0.Roads v5).Minutes) 1 10000).bind fun y8 =>
        (gcall (!(!((decide (1 ≤ ((ix a0.Roads v5).Minutes))) && (decide (((ix a0.Roads v5).Minutes) ≤ 10000))))) (diary_isWidth n ((ix a0.Roads v5).Width))).bind fun y9 =>
        bif (!((decide (1 ≤ ((ix a0.Roads v5).Minutes))) && (decide (((ix a0.Roads v5).Minutes) ≤ 10000)))) || (!((decide (1 ≤ ((ix a0.Roads v5).Width))) && (decide (((ix a0.Roads v5).Width) ≤ 10000)))) then
          some 2
        else
          chk (nI (v5 + 1)) <|
          back (v5 + 1)
  else
    k1 ()
def diary_checkRoads (n : Nat) (a0 : Diary) : Option Int :=
  bif decide (60 < a0.Roads.length) then
    some 8
  else
    withK (fun (_ : Unit) =>
        some 0) fun k1 =>
    loopN (diary_checkRoads_L1 n a0 k1) n 0
def slices_Index_string_2_L1 (a0 : List Str) (a1 : Str) (k1 : (Unit → Option Int)) (back : Nat → Option Int) : Nat → Option Int
  | v1 =>
  bif decide (v1 < a0.length) then
    bif (a1 == (ix a0 v1)) then
      some ((v1 : Nat) : Int)
    else
      chk (nI (v1 + 1)) <|
      back (v1 + 1)
  else
    k1 ()
def slices_Index_string_2 (n : Nat) (a0 : List Str) (a1 : Str) : Option Int :=
  withK (fun (_ : Unit) =>
      some (-1)) fun k1 =>
  loopN (slices_Index_string_2_L1 a0 a1 k1) n 0
def slices_Contains_string_2 (n : Nat) (a0 : List Str) (a1 : Str) : Option Bool :=
  (slices_Index_string_2 n a0 a1).bind fun y1 =>
  some (decide ((0 : Int) ≤ y1))
def diary_checkName_2 (n : Nat) (a0 : Str) (a1 : List Str) : Option Int :=
  (diary_isName n a0).bind fun y1 =>
  bif !y1 then
    some 4
  else
    (slices_Contains_string_2 n a1 a0).bind fun y2 =>
    bif y2 then
      some 5
    else
      some 0
def diary_checkGrands_L1 (n : Nat) (a0 : Diary) (k1 : (Unit → Option Int)) (back : (List Str) × Nat → Option Int) : (List Str) × Nat → Option Int
  | (v4, v5) =>
  bif decide (v5 < a0.Grands.length) then
    (diary_checkName_2 n ((ix a0.Grands v5).Name) v4).bind fun y6 =>
    bif (y6 != (0 : Int)) then
      some y6
    else
      (slices_Contains_string n a0.Places ((ix a0.Grands v5).Place)).bind fun y7 =>
      bif !y7 then
        some 6
      else
        (diary_isWidth n ((ix a0.Grands v5).Width)).bind fun y8 =>
        bif !((decide (1 ≤ ((ix a0.Grands v5).Width))) && (decide (((ix a0.Grands v5).Width) ≤ 10000))) then
          some 2
        else
          chk (room 16 (v4 ++ ([(ix a0.Grands v5).Name] : List Str)).length) <|
          chk (nI (v5 + 1)) <|
          back ((v4 ++ ([(ix a0.Grands v5).Name] : List Str)), v5 + 1)
  else
    k1 ()
def diary_checkGrands (n : Nat) (a0 : Diary) : Option Int :=
  bif decide (12 < a0.Grands.length) then
    some 8
  else
    withK (fun (_ : Unit) =>
        some 0) fun k1 =>
    loopN (diary_checkGrands_L1 n a0 k1) n (([] : List Str), 0)
def diary_CheckDiary (n : Nat) (a0 : Diary) : Option Int :=
  (diary_checkNames n a0.Places 20).bind fun y1 =>
  bif (y1 != (0 : Int)) then
    some y1
  else
    (diary_checkRoads n a0).bind fun y2 =>
    bif (y2 != (0 : Int)) then
      some y2
    else
      (diary_checkGrands n a0).bind fun y3 =>
      bif (y3 != (0 : Int)) then
        some y3
      else
        (diary_checkNames n a0.Technicians 12).bind fun y4 =>
        bif (y4 != (0 : Int)) then
          some y4
        else
          (diary_within n a0.Change 0 1000).bind fun y5 =>
          (gcall (!(!((decide (0 ≤ a0.Change)) && (decide (a0.Change ≤ 1000))))) (diary_within n a0.Lasts 0 100000)).bind fun y6 =>
          bif (!((decide (0 ≤ a0.Change)) && (decide (a0.Change ≤ 1000)))) || (!((decide (0 ≤ a0.Lasts)) && (decide (a0.Lasts ≤ 100000)))) then
            some 2
          else
            some 0
def diary_open (n : Nat) (a0 : Diary) : Option (Int ⊕ Unit) :=
  (diary_CheckDiary n a0).bind fun y1 =>
  bif (y1 != (0 : Int)) then
    some (.inl y1)
  else
    some (.inr ())
def diary_plan_isPlace_2 (n : Nat) (a0 : List Str) (a1 : List Str) (a2 : List Road) (a3 : List Grand) (a4 : Int) (a5 : Int) (a6 : List (Int × List (Arr2_Str × Int))) (a7 : Str) : Option Bool :=
  (slices_Contains_string n a0 a7).bind fun y1 =>
  some y1
def diary_plan_joined_L1 (a2 : List Road) (a7 : Str) (a8 : Str) (a9 : Int) (k2 : (Int × Bool → Option (Int × Bool))) (back : Int × Bool × Nat → Option (Int × Bool)) : Int × Bool × Nat → Option (Int × Bool)
  | (v3, v4, v5) =>
  bif decide (v5 < a2.length) then
    withK (fun (v6, v7) =>
        chk (nI (v5 + 1)) <|
        back (v6, v7, v5 + 1)) fun k1 =>
    bif ((((((ix a2 v5).A) == a7) && (((ix a2 v5).B) == a8)) || ((((ix a2 v5).A) == a8) && (((ix a2 v5).B) == a7))) && (decide (a9 ≤ ((ix a2 v5).Width)))) && ((!v4) || (decide (((ix a2 v5).Minutes) < v3))) then
      k1 ((ix a2 v5).Minutes, true)
    else
      k1 (v3, v4)
  else
    k2 (v3, v4)
def diary_plan_joined (n : Nat) (a0 : List Str) (a1 : List Str) (a2 : List Road) (a3 : List Grand) (a4 : Int) (a5 : Int) (a6 : List (Int × List (Arr2_Str × Int))) (a7 : Str) (a8 : Str) (a9 : Int) : Option (Int × Bool) :=
  withK (fun (v8, v9) =>
      some (v8, v9)) fun k2 =>
  loopN (diary_plan_joined_L1 a2 a7 a8 a9 k2) n (0, false, 0)
def diary_plan_distances_L3 (a0 : List Str) (v31 : Nat) (v38 : Nat) (k7 : ((List (Arr2_Str × Int)) → Option ((List (Arr2_Str × Int)) × (List (Int × List (Arr2_Str × Int)))))) (back : Nat × (List (Arr2_Str × Int)) → Option ((List (Arr2_Str × Int)) × (List (Int × List (Arr2_Str × Int))))) : Nat × (List (Arr2_Str × Int)) → Option ((List (Arr2_Str × Int)) × (List (Int × List (Arr2_Str × Int))))
  | (v41, v42) =>
  bif decide (v41 < a0.length) then
    withK (fun (v43 : (List (Arr2_Str × Int))) =>
        chk (nI (v41 + 1)) <|
        back (v41 + 1, v43)) fun k6 =>
    chk (!(((Option.isSome (List.lookup (Arr2_Str.mk (ix a0 v38) (ix a0 v31)) v42)) && (Option.isSome (List.lookup (Arr2_Str.mk (ix a0 v31) (ix a0 v41)) v42))) && !(!(Option.isSome (List.lookup (Arr2_Str.mk (ix a0 v38) (ix a0 v41)) v42)))) || inI ((Option.getD (List.lookup (Arr2_Str.mk (ix a0 v38) (ix a0 v31)) v42) (0 : Int)) + (Option.getD (List.lookup (Arr2_Str.mk (ix a0 v31) (ix a0 v41)) v42) (0 : Int)))) <|
    bif ((Option.isSome (List.lookup (Arr2_Str.mk (ix a0 v38) (ix a0 v31)) v42)) && (Option.isSome (List.lookup (Arr2_Str.mk (ix a0 v31) (ix a0 v41)) v42))) && ((!(Option.isSome (List.lookup (Arr2_Str.mk (ix a0 v38) (ix a0 v41)) v42))) || (decide (((Option.getD (List.lookup (Arr2_Str.mk (ix a0 v38) (ix a0 v31)) v42) (0 : Int)) + (Option.getD (List.lookup (Arr2_Str.mk (ix a0 v31) (ix a0 v41)) v42) (0 : Int))) < (Option.getD (List.lookup (Arr2_Str.mk (ix a0 v38) (ix a0 v41)) v42) (0 : Int))))) then
      chk (inI ((Option.getD (List.lookup (Arr2_Str.mk (ix a0 v38) (ix a0 v31)) v42) (0 : Int)) + (Option.getD (List.lookup (Arr2_Str.mk (ix a0 v31) (ix a0 v41)) v42) (0 : Int)))) <|
      k6 (mPut (Arr2_Str.mk (ix a0 v38) (ix a0 v41)) ((Option.getD (List.lookup (Arr2_Str.mk (ix a0 v38) (ix a0 v31)) v42) (0 : Int)) + (Option.getD (List.lookup (Arr2_Str.mk (ix a0 v31) (ix a0 v41)) v42) (0 : Int))) v42)
    else
      k6 v42
  else
    k7 v42
def diary_plan_distances_L4 (n : Nat) (a0 : List Str) (v31 : Nat) (k8 : ((List (Arr2_Str × Int)) → Option ((List (Arr2_Str × Int)) × (List (Int × List (Arr2_Str × Int)))))) (back : Nat × (List (Arr2_Str × Int)) → Option ((List (Arr2_Str × Int)) × (List (Int × List (Arr2_Str × Int))))) : Nat × (List (Arr2_Str × Int)) → Option ((List (Arr2_Str × Int)) × (List (Int × List (Arr2_Str × Int))))
  | (v38, v39) =>
  bif decide (v38 < a0.length) then
    withK (fun (v44 : (List (Arr2_Str × Int))) =>
        chk (nI (v38 + 1)) <|
        back (v38 + 1, v44)) fun k7 =>
    loopN (diary_plan_distances_L3 a0 v31 v38 k7) n (0, v39)
  else
    k8 v39
def diary_plan_distances_L5 (n : Nat) (a0 : List Str) (k9 : ((List (Arr2_Str × Int)) → Option ((List (Arr2_Str × Int)) × (List (Int × List (Arr2_Str × Int)))))) (back : Nat × (List (Arr2_Str × Int)) → Option ((List (Arr2_Str × Int)) × (List (Int × List (Arr2_Str × Int))))) : Nat × (List (Arr2_Str × Int)) → Option ((List (Arr2_Str × Int)) × (List (Int × List (Arr2_Str × Int))))
  | (v31, v32) =>
  bif decide (v31 < a0.length) then
    withK (fun (v45 : (List (Arr2_Str × Int))) =>
        chk (nI (v31 + 1)) <|
        back (v31 + 1, v45)) fun k8 =>
    loopN (diary_plan_distances_L4 n a0 v31 k8) n (0, v32)
  else
    k9 v32
def diary_plan_distances_L1 (n : Nat) (a0 : List Str) (a1 : List Str) (a2 : List Road) (a3 : List Grand) (a4 : Int) (a5 : Int) (a6 : List (Int × List (Arr2_Str × Int))) (a7 : Int) (v8 : Nat) (k4 : ((List (Arr2_Str × Int)) → Option ((List (Arr2_Str × Int)) × (List (Int × List (Arr2_Str × Int)))))) (back : Nat × (List (Arr2_Str × Int)) → Option ((List (Arr2_Str × Int)) × (List (Int × List (Arr2_Str × Int))))) : Nat × (List (Arr2_Str × Int)) → Option ((List (Arr2_Str × Int)) × (List (Int × List (Arr2_Str × Int))))
  | (v12, v13) =>
  bif decide (v12 < a0.length) then
    withK (fun (v15 : (List (Arr2_Str × Int))) =>
        chk (nI (v12 + 1)) <|
        back (v12 + 1, v15)) fun k3 =>
    (diary_plan_joined n a0 a1 a2 a3 a4 a5 a6 (ix a0 v8) (ix a0 v12) a7).bind fun y14 =>
    bif y14.2 && (!((ix a0 v8) == (ix a0 v12))) then
      k3 (mPut (Arr2_Str.mk (ix a0 v8) (ix a0 v12)) y14.1 v13)
    else
      k3 v13
  else
    k4 v13
def diary_plan_distances_L2 (n : Nat) (a0 : List Str) (a1 : List Str) (a2 : List Road) (a3 : List Grand) (a4 : Int) (a5 : Int) (a6 : List (Int × List (Arr2_Str × Int))) (a7 : Int) (k5 : ((List (Arr2_Str × Int)) → Option ((List (Arr2_Str × Int)) × (List (Int × List (Arr2_Str × Int)))))) (back : Nat × (List (Arr2_Str × Int)) → Option ((List (Arr2_Str × Int)) × (List (Int × List (Arr2_Str × Int))))) : Nat × (List (Arr2_Str × Int)) → Option ((List (Arr2_Str × Int)) × (List (Int × List (Arr2_Str × Int))))
  | (v8, v9) =>
  bif decide (v8 < a0.length) then
    withK (fun (v16 : (List (Arr2_Str × Int))) =>
        chk (nI (v8 + 1)) <|
        back (v8 + 1, v16)) fun k4 =>
    loopN (diary_plan_distances_L1 n a0 a1 a2 a3 a4 a5 a6 a7 v8 k4) n (0, (mPut (Arr2_Str.mk (ix a0 v8) (ix a0 v8)) 0 v9))
  else
    k5 v9
def diary_plan_distances (n : Nat) (a0 : List Str) (a1 : List Str) (a2 : List Road) (a3 : List Grand) (a4 : Int) (a5 : Int) (a6 : List (Int × List (Arr2_Str × Int))) (a7 : Int) : Option ((List (Arr2_Str × Int)) × (List (Int × List (Arr2_Str × Int)))) :=
  withK (fun (_ : Unit) =>
      some ((Option.getD (List.lookup a7 a6) ([] : List (Arr2_Str × Int))), a6)) fun k1 =>
  withK (fun (_ : Unit) =>
      withK (fun (v17 : (List (Arr2_Str × Int))) =>
          withK (fun (v46 : (List (Arr2_Str × Int))) =>
              some (v46, (mPut a7 v46 a6))) fun k9 =>
          loopN (diary_plan_distances_L5 n a0 k9) n (0, v17)) fun k5 =>
      loopN (diary_plan_distances_L2 n a0 a1 a2 a3 a4 a5 a6 a7 k5) n (0, ([] : List (Arr2_Str × Int)))) fun k2 =>
  bif (Option.isSome (List.lookup a7 a6)) then
    k1 ()
  else
    k2 ()
def diary_plan_distance (n : Nat) (a0 : List Str) (a1 : List Str) (a2 : List Road) (a3 : List Grand) (a4 : Int) (a5 : Int) (a6 : List (Int × List (Arr2_Str × Int))) (a7 : Str) (a8 : Str) (a9 : Int) : Option (Int × Bool × (List (Int × List (Arr2_Str × Int)))) :=
  (diary_plan_distances n a0 a1 a2 a3 a4 a5 a6 a9).bind fun y1 =>
  some ((Option.getD (List.lookup (Arr2_Str.mk a7 a8) y1.1) (0 : Int)), (Option.isSome (List.lookup (Arr2_Str.mk a7 a8) y1.1)), y1.2)
def diary_Distances_L1 (n : Nat) (a0 : Diary) (a1 : Str) (a2 : Int) (k4 : ((List Int) → Option (Int × (List Int)))) (back : (List Int) × Nat × (List (Int × List (Arr2_Str × Int))) → Option (Int × (List Int))) : (List Int) × Nat × (List (Int × List (Arr2_Str × Int))) → Option (Int × (List Int))
  | (v9, v10, v11) =>
  bif decide (v10 < a0.Places.length) then
    (diary_plan_distance n a0.Places a0.Technicians a0.Roads a0.Grands a0.Change a0.Lasts v11 a1 (ix a0.Places v10) a2).bind fun y12 =>
    withK (fun (v13 : Int) =>
        chk (room 8 (v9 ++ ([v13] : List Int)).length) <|
        chk (nI (v10 + 1)) <|
        back ((v9 ++ ([v13] : List Int)), v10 + 1, y12.2.2)) fun k3 =>
    bif !y12.2.1 then
      k3 (-1)
    else
      k3 y12.1
  else
    k4 v9
def diary_Distances (n : Nat) (a0 : Diary) (a1 : Str) (a2 : Int) : Option (Int × (List Int)) :=
  withK (fun (v4 : Int) =>
      bif (v4 != (0 : Int)) then
        some (v4, ([] : List Int))
      else
        none) fun k1 =>
  withK (fun (_ : Unit) =>
      (diary_plan_isPlace_2 n a0.Places a0.Technicians a0.Roads a0.Grands a0.Change a0.Lasts ([] : List (Int × List (Arr2_Str × Int))) a1).bind fun y5 =>
      bif !y5 then
        some (6, ([] : List Int))
      else
        (diary_isWidth n a2).bind fun y6 =>
        bif !((decide (1 ≤ a2)) && (decide (a2 ≤ 10000))) then
          some (2, ([] : List Int))
        else
          withK (fun (v14 : (List Int)) =>
              some (0, v14)) fun k4 =>
          loopN (diary_Distances_L1 n a0 a1 a2 k4) n (([] : List Int), 0, ([] : List (Int × List (Arr2_Str × Int))))) fun k2 =>
  (diary_open n a0).bind fun y1 =>
  match y1 with
  | .inl y1 =>
    k1 y1
  | .inr y1 =>
    k2 ()
def agraffelaw09_Evening (n : Nat)  : Option Unit :=
  some ()
def diary_plan_accept_L1 (a0 : List Item) (k1 : (Unit → Option (Int × Int))) (back : Unit → Option (Int × Int)) : Unit → Option (Int × Int)
  | _ =>
  bif decide (0 < a0.length) then
    none
  else
    k1 ()
def diary_plan_accept (n : Nat) (a0 : List Item) : Option (Int × Int) :=
  bif decide (100 < a0.length) then
    some (0, 8)
  else
    withK (fun (_ : Unit) =>
        some ((-1), 0)) fun k1 =>
    loopN (diary_plan_accept_L1 a0 k1) n ()
def diary_grand_f1 (n : Nat) (a0 : Grand) (a1 : Str) : Option Unit :=
  some ()
def slices_IndexFunc_Grand_L1 (n : Nat) (a0 : List Grand) (a1 : Str) (k1 : (Unit → Option Int)) (back : Nat → Option Int) : Nat → Option Int
  | v2 =>
  bif decide (v2 < a0.length) then
    (diary_grand_f1 n (ix a0 v2) a1).bind fun y3 =>
    bif ((ix a0 v2).Name == a1) then
      some ((v2 : Nat) : Int)
    else
      chk (nI (v2 + 1)) <|
      back (v2 + 1)
  else
    k1 ()
def slices_IndexFunc_Grand (n : Nat) (a0 : List Grand) (a1 : Str) : Option Int :=
  withK (fun (_ : Unit) =>
      some (-1)) fun k1 =>
  loopN (slices_IndexFunc_Grand_L1 n a0 a1 k1) n 0
def diary_grand (n : Nat) (a0 : Diary) (a1 : Str) : Option (Str × Str × Int × Bool) :=
  (slices_IndexFunc_Grand n a0.Grands a1).bind fun y1 =>
  bif decide (y1 < (0 : Int)) then
    some (([] : Str), ([] : Str), 0, false)
  else
    chk (inB y1 a0.Grands.length) <|
    chk (decide (y1.toNat < a0.Grands.length)) <|
    some ((ix a0.Grands y1.toNat).Name, (ix a0.Grands y1.toNat).Place, (ix a0.Grands y1.toNat).Width, true)
def diary_isMinute (n : Nat) (a0 : Int) : Option Unit :=
  (diary_within n a0 0 1000000).bind fun y1 =>
  some ()
def diary_checkItem (n : Nat) (a0 : Diary) (a1 : Item) : Option Int :=
  (diary_grand n a0 a1.Grand).bind fun y1 =>
  (diary_within n a1.Kind 0 3).bind fun y2 =>
  bif !((decide (0 ≤ a1.Kind)) && (decide (a1.Kind ≤ 3))) then
    some 15
  else
    (diary_isMinute n a1.From).bind fun y3 =>
    (gcall (!(!((decide (0 ≤ a1.From)) && (decide (a1.From ≤ 1000000))))) (diary_isMinute n a1.To)).bind fun y4 =>
    bif (!((decide (0 ≤ a1.From)) && (decide (a1.From ≤ 1000000)))) || (!((decide (0 ≤ a1.To)) && (decide (a1.To ≤ 1000000)))) then
      some 2
    else
      bif decide (a1.To ≤ a1.From) then
        some 9
      else
        (gcall (!(!y1.2.2.2)) (slices_Contains_string n a0.Places a1.Place)).bind fun y5 =>
        bif (!y1.2.2.2) || (!y5) then
          some 6
        else
          (gcall (a1.Kind == (0 : Int)) (slices_Contains_string n a0.Technicians a1.Who)).bind fun y6 =>
          bif (a1.Kind == (0 : Int)) && (!y6) then
            some 6
          else
            (gcall (a1.Kind == (3 : Int)) (diary_isName n a1.Who)).bind fun y7 =>
            bif (a1.Kind == (3 : Int)) && (!y7) then
              some 4
            else
              (gcall (a1.Kind == (3 : Int)) (diary_within n a1.Deposit 0 1000000000)).bind fun y8 =>
              bif (a1.Kind == (3 : Int)) && (!((decide (0 ≤ a1.Deposit)) && (decide (a1.Deposit ≤ 1000000000)))) then
                some 2
              else
                withK (fun (v9 : Bool) =>
                    bif v9 then
                      some 3
                    else
                      some 0) fun k1 =>
                bif (a1.Kind != (3 : Int)) && (a1.Deposit != (0 : Int)) then
                  k1 ((a1.Kind != (3 : Int)) && (a1.Deposit != (0 : Int)))
                else
                  k1 (((a1.Kind == (1 : Int)) || (a1.Kind == (2 : Int))) && (!(a1.Who == ([] : Str))))
def diary_plan_changes_f1 (n : Nat) (a0 : Item) (a1 : Int) (a2 : Int) (a3 : Int) (a4 : Str) (a5 : Str) (a6 : Str) (a7 : Int) (a8 : List Str) (a9 : List Str) (a10 : List Road) (a11 : List Grand) (a12 : Int) (a13 : Int) (a14 : List (Int × List (Arr2_Str × Int))) : Option Unit :=
  chk (!(a0.Grand == a4) || inI (a0.To + a12)) <|
  some ()
def slices_IndexFunc_Item_L1 (n : Nat) (a0 : List Item) (a1 : Int) (a2 : Int) (a3 : Int) (a4 : Str) (a5 : Str) (a6 : Str) (a7 : Int) (a8 : List Str) (a9 : List Str) (a10 : List Road) (a11 : List Grand) (a12 : Int) (a13 : Int) (a14 : List (Int × List (Arr2_Str × Int))) (k1 : (Unit → Option Int)) (back : Nat → Option Int) : Nat → Option Int
  | v2 =>
  bif decide (v2 < a0.length) then
    (diary_plan_changes_f1 n (ix a0 v2) a1 a2 a3 a4 a5 a6 a7 a8 a9 a10 a11 a12 a13 a14).bind fun y3 =>
    bif ((ix a0 v2).Grand == a4) && (decide (a2 < ((ix a0 v2).To + a12))) then
      some ((v2 : Nat) : Int)
    else
      chk (nI (v2 + 1)) <|
      back (v2 + 1)
  else
    k1 ()
def slices_IndexFunc_Item (n : Nat) (a0 : List Item) (a1 : Int) (a2 : Int) (a3 : Int) (a4 : Str) (a5 : Str) (a6 : Str) (a7 : Int) (a8 : List Str) (a9 : List Str) (a10 : List Road) (a11 : List Grand) (a12 : Int) (a13 : Int) (a14 : List (Int × List (Arr2_Str × Int))) : Option Int :=
  withK (fun (_ : Unit) =>
      some (-1)) fun k1 =>
  loopN (slices_IndexFunc_Item_L1 n a0 a1 a2 a3 a4 a5 a6 a7 a8 a9 a10 a11 a12 a13 a14 k1) n 0
def slices_ContainsFunc_Item (n : Nat) (a0 : List Item) (a1 : Int) (a2 : Int) (a3 : Int) (a4 : Str) (a5 : Str) (a6 : Str) (a7 : Int) (a8 : List Str) (a9 : List Str) (a10 : List Road) (a11 : List Grand) (a12 : Int) (a13 : Int) (a14 : List (Int × List (Arr2_Str × Int))) : Option Bool :=
  (slices_IndexFunc_Item n a0 a1 a2 a3 a4 a5 a6 a7 a8 a9 a10 a11 a12 a13 a14).bind fun y1 =>
  some (decide ((0 : Int) ≤ y1))
def diary_plan_changes (n : Nat) (a0 : List Str) (a1 : List Str) (a2 : List Road) (a3 : List Grand) (a4 : Int) (a5 : Int) (a6 : List (Int × List (Arr2_Str × Int))) (a7 : List Item) (a8 : Item) : Option Int :=
  (slices_ContainsFunc_Item n a7 a8.Kind a8.From a8.To a8.Grand a8.Place a8.Who a8.Deposit a0 a1 a2 a3 a4 a5 a6).bind fun y1 =>
  bif y1 then
    some 17
  else
    some 0
def diary_plan_place_L1 (a7 : List Item) (a8 : Str) (a9 : Int) (k2 : (Str → Option Str)) (back : Str × Nat → Option Str) : Str × Nat → Option Str
  | (v3, v4) =>
  bif decide (v4 < a7.length) then
    withK (fun (v5 : Str) =>
        chk (nI (v4 + 1)) <|
        back (v5, v4 + 1)) fun k1 =>
    bif ((((ix a7 v4).Kind) == (1 : Int)) && (((ix a7 v4).Grand) == a8)) && (decide (((ix a7 v4).To) ≤ a9)) then
      k1 ((ix a7 v4).Place)
    else
      k1 v3
  else
    k2 v3
def diary_plan_place (n : Nat) (a0 : List Str) (a1 : List Str) (a2 : List Road) (a3 : List Grand) (a4 : Int) (a5 : Int) (a6 : List (Int × List (Arr2_Str × Int))) (a7 : List Item) (a8 : Str) (a9 : Int) : Option Str :=
  (diary_grand n (Diary.mk a0 a1 a2 a3 a4 a5) a8).bind fun y1 =>
  withK (fun (v6 : Str) =>
      some v6) fun k2 =>
  loopN (diary_plan_place_L1 a7 a8 a9 k2) n (y1.2.1, 0)
def diary_plan_stands (n : Nat) (a0 : List Str) (a1 : List Str) (a2 : List Road) (a3 : List Grand) (a4 : Int) (a5 : Int) (a6 : List (Int × List (Arr2_Str × Int))) (a7 : List Item) (a8 : Item) : Option (Int × (List (Int × List (Arr2_Str × Int)))) :=
  (diary_plan_place n a0 a1 a2 a3 a4 a5 a6 a7 a8.Grand a8.From).bind fun y1 =>
  bif (a8.Kind != (1 : Int)) then
    bif !(y1 == a8.Place) then
      some (13, a6)
    else
      some (0, a6)
  else
    (diary_grand n (Diary.mk a0 a1 a2 a3 a4 a5) a8.Grand).bind fun y2 =>
    (diary_plan_distance n a0 a1 a2 a3 a4 a5 a6 y1 a8.Place y2.2.2.1).bind fun y3 =>
    bif (y1 == a8.Place) then
      some (24, y3.2.2)
    else
      bif !y3.2.1 then
        some (12, y3.2.2)
      else
        chk (inI (a8.To - a8.From)) <|
        bif decide ((a8.To - a8.From) < y3.1) then
          some (18, y3.2.2)
        else
          some (0, y3.2.2)
def diary_plan_travels_L1 (n : Nat) (a0 : List Str) (a1 : List Str) (a2 : List Road) (a3 : List Grand) (a4 : Int) (a5 : Int) (a7 : List Item) (a8 : Item) (k2 : ((List (Int × List (Arr2_Str × Int))) → Option (Int × (List (Int × List (Arr2_Str × Int)))))) (back : Nat × (List (Int × List (Arr2_Str × Int))) → Option (Int × (List (Int × List (Arr2_Str × Int))))) : Nat × (List (Int × List (Arr2_Str × Int))) → Option (Int × (List (Int × List (Arr2_Str × Int))))
  | (v3, v4) =>
  bif decide (v3 < a7.length) then
    withK (fun (v6 : (List (Int × List (Arr2_Str × Int)))) =>
        chk (nI (v3 + 1)) <|
        back (v3 + 1, v6)) fun k1 =>
    bif (((ix a7 v3).Kind) != (0 : Int)) || (!(((ix a7 v3).Who) == a8.Who)) then
      k1 v4
    else
      (diary_plan_distance n a0 a1 a2 a3 a4 a5 v4 ((ix a7 v3).Place) a8.Place 1).bind fun y5 =>
      chk (!(!(!y5.2.1)) || inI (((ix a7 v3).To) + y5.1)) <|
      bif (!y5.2.1) || (decide (a8.From < (((ix a7 v3).To) + y5.1))) then
        some (16, y5.2.2)
      else
        k1 y5.2.2
  else
    k2 v4
def diary_plan_travels (n : Nat) (a0 : List Str) (a1 : List Str) (a2 : List Road) (a3 : List Grand) (a4 : Int) (a5 : Int) (a6 : List (Int × List (Arr2_Str × Int))) (a7 : List Item) (a8 : Item) : Option (Int × (List (Int × List (Arr2_Str × Int)))) :=
  bif (a8.Kind != (0 : Int)) then
    some (0, a6)
  else
    withK (fun (v7 : (List (Int × List (Arr2_Str × Int)))) =>
        some (0, v7)) fun k2 =>
    loopN (diary_plan_travels_L1 n a0 a1 a2 a3 a4 a5 a7 a8 k2) n (0, a6)
def diary_plan_tuning (n : Nat) (a0 : List Str) (a1 : List Str) (a2 : List Road) (a3 : List Grand) (a4 : Int) (a5 : Int) (a6 : List (Int × List (Arr2_Str × Int))) (a7 : List Item) (a8 : Item) : Option Int :=
  chk (decide (a7.length ≤ 4611686018427387904)) <|
  some (tuneL a8 a5 a7 a7.length)
def diary_plan_isTuned (n : Nat) (a0 : List Str) (a1 : List Str) (a2 : List Road) (a3 : List Grand) (a4 : Int) (a5 : Int) (a6 : List (Int × List (Arr2_Str × Int))) (a7 : List Item) (a8 : Item) : Option Int :=
  (gcall (a8.Kind == (2 : Int)) (diary_plan_tuning n a0 a1 a2 a3 a4 a5 a6 a7 a8)).bind fun y1 =>
  bif (a8.Kind == (2 : Int)) && (decide (y1 < (0 : Int))) then
    some 26
  else
    some 0
def diary_plan_accept_2_L1 (n : Nat) (a0 : List Str) (a1 : List Str) (a2 : List Road) (a3 : List Grand) (a4 : Int) (a5 : Int) (a7 : List Item) (k1 : ((List (Int × List (Arr2_Str × Int))) → Option (Int × Int × (List (Int × List (Arr2_Str × Int)))))) (back : Int × (List (Int × List (Arr2_Str × Int))) → Option (Int × Int × (List (Int × List (Arr2_Str × Int))))) : Int × (List (Int × List (Arr2_Str × Int))) → Option (Int × Int × (List (Int × List (Arr2_Str × Int))))
  | (v6, v7) =>
  bif decide (v6 < ((a7.length : Nat) : Int)) then
    chk (inB v6 a7.length) <|
    chk (decide (v6.toNat < a7.length)) <|
    (diary_checkItem n (Diary.mk a0 a1 a2 a3 a4 a5) (ix a7 v6.toNat)).bind fun y8 =>
    bif (y8 != (0 : Int)) then
      some (v6, y8, v7)
    else
      chk (!(decide ((0 : Int) < v6)) || inI (v6 - 1)) <|
      chk (!(decide ((0 : Int) < v6)) || inB (v6 - 1) a7.length) <|
      chk (!(decide ((0 : Int) < v6)) || decide ((v6 - 1).toNat < a7.length)) <|
      bif (decide ((0 : Int) < v6)) && (decide (((ix a7 v6.toNat).From) < ((ix a7 ((v6 - 1).toNat)).From))) then
        some (v6, 9, v7)
      else
        chk (inC v6 a7.length) <|
        (diary_plan_changes n a0 a1 a2 a3 a4 a5 v7 (List.take v6.toNat a7) (ix a7 v6.toNat)).bind fun y9 =>
        bif (y9 != (0 : Int)) then
          some (v6, y9, v7)
        else
          (diary_plan_stands n a0 a1 a2 a3 a4 a5 v7 (List.take v6.toNat a7) (ix a7 v6.toNat)).bind fun y10 =>
          bif (y10.1 != (0 : Int)) then
            some (v6, y10.1, y10.2)
          else
            (diary_plan_travels n a0 a1 a2 a3 a4 a5 y10.2 (List.take v6.toNat a7) (ix a7 v6.toNat)).bind fun y11 =>
            bif (y11.1 != (0 : Int)) then
              some (v6, y11.1, y11.2)
            else
              (diary_plan_isTuned n a0 a1 a2 a3 a4 a5 y11.2 (List.take v6.toNat a7) (ix a7 v6.toNat)).bind fun y12 =>
              bif (y12 != (0 : Int)) then
                some (v6, y12, y11.2)
              else
                chk (inI (v6 + 1)) <|
                back (v6 + 1, y11.2)
  else
    k1 v7
def diary_plan_accept_2 (n : Nat) (a0 : List Str) (a1 : List Str) (a2 : List Road) (a3 : List Grand) (a4 : Int) (a5 : Int) (a6 : List (Int × List (Arr2_Str × Int))) (a7 : List Item) : Option (Int × Int × (List (Int × List (Arr2_Str × Int)))) :=
  bif decide (100 < a7.length) then
    some (0, 8, a6)
  else
    withK (fun (v13 : (List (Int × List (Arr2_Str × Int)))) =>
        some ((-1), 0, v13)) fun k1 =>
    loopN (diary_plan_accept_2_L1 n a0 a1 a2 a3 a4 a5 a7 k1) n (0, a6)
def diary_Accept (n : Nat) (a0 : Diary) (a1 : List Item) : Option (Int × Int) :=
  withK (fun (v4 : Int) =>
      bif (v4 != (0 : Int)) then
        some (v4, 0)
      else
        (diary_plan_accept n a1).bind fun y5 =>
        some (y5.2, y5.1)) fun k1 =>
  withK (fun (_ : Unit) =>
      (diary_plan_accept_2 n a0.Places a0.Technicians a0.Roads a0.Grands a0.Change a0.Lasts ([] : List (Int × List (Arr2_Str × Int))) a1).bind fun y6 =>
      some (y6.2.1, y6.1)) fun k2 =>
  (diary_open n a0).bind fun y1 =>
  match y1 with
  | .inl y1 =>
    k1 y1
  | .inr y1 =>
    k2 ()
def diary_read (n : Nat) (a0 : Diary) (a1 : List Item) : Option (Int ⊕ (Int × (List (Int × List (Arr2_Str × Int))))) :=
  withK (fun (v4 : Int) =>
      bif (v4 != (0 : Int)) then
        some (.inl v4)
      else
        (diary_plan_accept n a1).bind fun y5 =>
        some (.inl y5.2)) fun k1 =>
  withK (fun (_ : Unit) =>
      (diary_plan_accept_2 n a0.Places a0.Technicians a0.Roads a0.Grands a0.Change a0.Lasts ([] : List (Int × List (Arr2_Str × Int))) a1).bind fun y6 =>
      some (.inr (y6.2.1, y6.2.2))) fun k2 =>
  (diary_open n a0).bind fun y1 =>
  match y1 with
  | .inl y1 =>
    k1 y1
  | .inr y1 =>
    k2 ()
def slices_Sort_int (n : Nat) (a0 : List Int) : Option (List Int) :=
  chk (decide (a0.length < 4611686018427387904)) <|
  some (sortI a0)
def slices_Compact_int_L1 (a1 : Nat) (a2 : Nat) (v10 : Nat) (k2 : (Nat × (List Int) → Option (Nat × (List Int)))) (back : Nat × Nat × (List Int) → Option (Nat × (List Int))) : Nat × Nat × (List Int) → Option (Nat × (List Int))
  | (v13, v14, v15) =>
  bif decide (v14 < (a2 - v10)) then
    withK (fun (v16, v17) =>
        chk (nI (v14 + 1)) <|
        back (v16, v14 + 1, v17)) fun k1 =>
    chk (decide ((a1 + v10) + v14 < v15.length)) <|
    chk (inI (((v14 : Nat) : Int) - 1)) <|
    chk (inB (((v14 : Nat) : Int) - 1) (a2 - v10)) <|
    chk (decide ((a1 + v10) + ((((v14 : Nat) : Int) - 1).toNat) < v15.length)) <|
    bif ((ix v15 ((a1 + v10) + v14)) != (ix v15 ((a1 + v10) + ((((v14 : Nat) : Int) - 1).toNat)))) then
      chk (decide (v13 < a2)) <|
      chk (decide (a1 + v13 < v15.length)) <|
      chk (nI (v13 + 1)) <|
      k1 (v13 + 1, (List.set v15 (a1 + v13) (ix v15 ((a1 + v10) + v14))))
    else
      k1 (v13, v15)
  else
    k2 (v13, v15)
def slices_Compact_int_L2 (n : Nat) (a0 : List Int) (a1 : Nat) (a2 : Nat) (k3 : (Unit → Option (Nat × (List Int)))) (back : Nat → Option (Nat × (List Int))) : Nat → Option (Nat × (List Int))
  | v10 =>
  bif decide (v10 < a2) then
    chk (decide (a1 + v10 < a0.length)) <|
    chk (inI (((v10 : Nat) : Int) - 1)) <|
    chk (inB (((v10 : Nat) : Int) - 1) a2) <|
    chk (decide (a1 + ((((v10 : Nat) : Int) - 1).toNat) < a0.length)) <|
    bif ((ix a0 (a1 + v10)) == (ix a0 (a1 + ((((v10 : Nat) : Int) - 1).toNat)))) then
      withK (fun (v18, v19) =>
          chk (decide (v18 < a2)) <|
          chk (decide (0 < (a2 - v18))) <|
          chk (decide ((a1 + v18) + (a2 - v18) ≤ v19.length)) <|
          chk (decide (a1 + v18 ≤ (clrP v19 (a1 + v18) (a2 - v18) (0 : Int)).length)) <|
          chk (decide (v18 ≤ a2)) <|
          some (v18, (clrP v19 (a1 + v18) (a2 - v18) (0 : Int)))) fun k2 =>
      loopN (slices_Compact_int_L1 a1 a2 v10 k2) n (v10, 1, a0)
    else
      chk (nI (v10 + 1)) <|
      back (v10 + 1)
  else
    k3 ()
def slices_Compact_int (n : Nat) (a0 : List Int) (a1 : Nat) (a2 : Nat) : Option (Nat × (List Int)) :=
  bif decide (a2 < 2) then
    some (a2, a0)
  else
    withK (fun (_ : Unit) =>
        some (a2, a0)) fun k3 =>
    loopN (slices_Compact_int_L2 n a0 a1 a2 k3) n 1
def slices_Clone_Item (n : Nat) (a0 : List Item) : Option (List Item) :=
  nilK (a0.isEmpty) fun b1 =>
  bif b1 then
    some ([] : List Item)
  else
    chk (room 80 a0.length) <|
    some a0
def slices_Insert_Item (n : Nat) (a0 : List Item) (a1 : Int) (a2 : List Item) : Option (List Item) :=
  chk (inC a1 a0.length) <|
  chk (decide (a2.length = 1)) <|
  chk (room 80 (a0.length + 1)) <|
  some (insL a0 a1.toNat (ix a2 0))
def diary_plan_add_L1 (a0 : List Item) (a1 : Item) (k1 : (Nat → Option (Int × (List Item)))) (back : Nat → Option (Int × (List Item))) : Nat → Option (Int × (List Item))
  | v1 =>
  bif (decide (v1 < a0.length)) && (decide (((ix a0 v1).From) ≤ a1.From)) then
    chk (nI (v1 + 1)) <|
    back (v1 + 1)
  else
    k1 v1
def diary_plan_add (n : Nat) (a0 : List Item) (a1 : Item) : Option (Int × (List Item)) :=
  withK (fun (v2 : Nat) =>
      (slices_Clone_Item n a0).bind fun y3 =>
      (slices_Insert_Item n y3 ((v2 : Nat) : Int) ([a1] : List Item)).bind fun y4 =>
      (diary_plan_accept n y4).bind fun y5 =>
      bif (y5.2 != (0 : Int)) then
        some (y5.2, ([] : List Item))
      else
        some (0, y4)) fun k1 =>
  loopN (diary_plan_add_L1 a0 a1 k1) n 0
def diary_plan_add_2_L1 (a7 : List Item) (a8 : Item) (k1 : (Nat → Option (Int × (List (Int × List (Arr2_Str × Int))) × (List Item)))) (back : Nat → Option (Int × (List (Int × List (Arr2_Str × Int))) × (List Item))) : Nat → Option (Int × (List (Int × List (Arr2_Str × Int))) × (List Item))
  | v1 =>
  bif (decide (v1 < a7.length)) && (decide (((ix a7 v1).From) ≤ a8.From)) then
    chk (nI (v1 + 1)) <|
    back (v1 + 1)
  else
    k1 v1
def diary_plan_add_2 (n : Nat) (a0 : List Str) (a1 : List Str) (a2 : List Road) (a3 : List Grand) (a4 : Int) (a5 : Int) (a6 : List (Int × List (Arr2_Str × Int))) (a7 : List Item) (a8 : Item) : Option (Int × (List (Int × List (Arr2_Str × Int))) × (List Item)) :=
  withK (fun (v2 : Nat) =>
      (slices_Clone_Item n a7).bind fun y3 =>
      (slices_Insert_Item n y3 ((v2 : Nat) : Int) ([a8] : List Item)).bind fun y4 =>
      (diary_plan_accept_2 n a0 a1 a2 a3 a4 a5 a6 y4).bind fun y5 =>
      bif (y5.2.1 != (0 : Int)) then
        some (y5.2.1, y5.2.2, ([] : List Item))
      else
        some (0, y5.2.2, y4)) fun k1 =>
  loopN (diary_plan_add_2_L1 a7 a8 k1) n 0
def diary_FreeFrom_L2 (n : Nat) (a1 : List Item) (a2 : Item) (y7 : Nat × (List Int)) (k4 : (Unit → Option (Int × Int))) (back : Nat → Option (Int × Int)) : Nat → Option (Int × Int)
  | v9 =>
  bif decide (v9 < y7.1) then
    withK (fun (_ : Unit) =>
        chk (nI (v9 + 1)) <|
        back (v9 + 1)) fun k3 =>
    chk (decide (v9 < y7.2.length)) <|
    chk (!(!(decide ((ix y7.2 v9) < a2.From))) || inI ((ix y7.2 v9) + (a2.To - a2.From))) <|
    bif (decide ((ix y7.2 v9) < a2.From)) || (decide ((1000000 : Int) < ((ix y7.2 v9) + (a2.To - a2.From)))) then
      k3 ()
    else
      chk (inI ((ix y7.2 v9) + (a2.To - a2.From))) <|
      (diary_plan_add n a1 (Item.mk a2.Kind (ix y7.2 v9) ((ix y7.2 v9) + (a2.To - a2.From)) a2.Grand a2.Place a2.Who a2.Deposit)).bind fun y10 =>
      bif (y10.1 == (0 : Int)) then
        some (0, (ix y7.2 v9))
      else
        k3 ()
  else
    k4 ()
def diary_FreeFrom_L1 (a0 : Diary) (a1 : List Item) (a2 : Item) (k2 : (Unit → Option (Int × Int))) (back : Unit → Option (Int × Int)) : Unit → Option (Int × Int)
  | _ =>
  bif decide (0 < a1.length) then
    chk (inI (((ix a1 0).To) + a0.Change)) <|
    chk (room 8 (([a2.From] : List Int) ++ ([(ix a1 0).From, (ix a1 0).To, ((ix a1 0).To) + a0.Change] : List Int)).length) <|
    none
  else
    k2 ()
def diary_FreeFrom_L4 (n : Nat) (a0 : Diary) (a1 : List Item) (a2 : Item) (y26 : Nat × (List Int)) (k9 : (Unit → Option (Int × Int))) (back : Nat × (List (Int × List (Arr2_Str × Int))) → Option (Int × Int)) : Nat × (List (Int × List (Arr2_Str × Int))) → Option (Int × Int)
  | (v29, v30) =>
  bif decide (v29 < y26.1) then
    withK (fun (v32 : (List (Int × List (Arr2_Str × Int)))) =>
        chk (nI (v29 + 1)) <|
        back (v29 + 1, v32)) fun k8 =>
    chk (decide (v29 < y26.2.length)) <|
    chk (!(!(decide ((ix y26.2 v29) < a2.From))) || inI ((ix y26.2 v29) + (a2.To - a2.From))) <|
    bif (decide ((ix y26.2 v29) < a2.From)) || (decide ((1000000 : Int) < ((ix y26.2 v29) + (a2.To - a2.From)))) then
      k8 v30
    else
      chk (inI ((ix y26.2 v29) + (a2.To - a2.From))) <|
      (diary_plan_add_2 n a0.Places a0.Technicians a0.Roads a0.Grands a0.Change a0.Lasts v30 a1 (Item.mk a2.Kind (ix y26.2 v29) ((ix y26.2 v29) + (a2.To - a2.From)) a2.Grand a2.Place a2.Who a2.Deposit)).bind fun y31 =>
      bif (y31.1 == (0 : Int)) then
        some (0, (ix y26.2 v29))
      else
        k8 y31.2.1
  else
    k9 ()
def diary_FreeFrom_L3 (n : Nat) (a0 : Diary) (a1 : List Item) (a2 : Item) (k7 : ((List Int) × (List (Int × List (Arr2_Str × Int))) → Option (Int × Int))) (back : Nat × (List Int) × (List (Int × List (Arr2_Str × Int))) → Option (Int × Int)) : Nat × (List Int) × (List (Int × List (Arr2_Str × Int))) → Option (Int × Int)
  | (v17, v18, v19) =>
  bif decide (v17 < a1.length) then
    withK (fun (v21, v22) =>
        chk (nI (v17 + 1)) <|
        back (v17 + 1, v21, v22)) fun k6 =>
    chk (inI (((ix a1 v17).To) + a0.Change)) <|
    chk (room 8 (v18 ++ ([(ix a1 v17).From, (ix a1 v17).To, ((ix a1 v17).To) + a0.Change] : List Int)).length) <|
    (diary_plan_distance n a0.Places a0.Technicians a0.Roads a0.Grands a0.Change a0.Lasts v19 ((ix a1 v17).Place) a2.Place 1).bind fun y20 =>
    bif y20.2.1 then
      chk (inI (((ix a1 v17).To) + y20.1)) <|
      chk (room 8 ((v18 ++ ([(ix a1 v17).From, (ix a1 v17).To, ((ix a1 v17).To) + a0.Change] : List Int)) ++ ([((ix a1 v17).To) + y20.1] : List Int)).length) <|
      k6 (((v18 ++ ([(ix a1 v17).From, (ix a1 v17).To, ((ix a1 v17).To) + a0.Change] : List Int)) ++ ([((ix a1 v17).To) + y20.1] : List Int)), y20.2.2)
    else
      k6 ((v18 ++ ([(ix a1 v17).From, (ix a1 v17).To, ((ix a1 v17).To) + a0.Change] : List Int)), y20.2.2)
  else
    k7 (v18, v19)
def diary_FreeFrom (n : Nat) (a0 : Diary) (a1 : List Item) (a2 : Item) : Option (Int × Int) :=
  withK (fun (v4 : Int) =>
      bif (v4 != (0 : Int)) then
        some (v4, 0)
      else
        bif decide (100 ≤ a1.length) then
          some (8, 0)
        else
          (diary_checkItem n a0 a2).bind fun y5 =>
          bif (y5 != (0 : Int)) then
            some (y5, 0)
          else
            withK (fun (_ : Unit) =>
                (slices_Sort_int n ([a2.From] : List Int)).bind fun y6 =>
                chk (inI (a2.To - a2.From)) <|
                withK (fun (_ : Unit) =>
                    some (12, 0)) fun k4 =>
                (slices_Compact_int n y6 0 1).bind fun y7 =>
                loopN (diary_FreeFrom_L2 n a1 a2 y7 k4) n 0) fun k2 =>
            loopN (diary_FreeFrom_L1 a0 a1 a2 k2) n ()) fun k1 =>
  withK (fun (v11, v12) =>
      bif (v11 != (0 : Int)) then
        some (v11, 0)
      else
        bif decide (100 ≤ a1.length) then
          some (8, 0)
        else
          (diary_checkItem n a0 a2).bind fun y13 =>
          bif (y13 != (0 : Int)) then
            some (y13, 0)
          else
            withK (fun (v23, v24) =>
                (slices_Sort_int n v23).bind fun y25 =>
                chk (decide (v23.length = y25.length)) <|
                chk (inI (a2.To - a2.From)) <|
                withK (fun (_ : Unit) =>
                    some (12, 0)) fun k9 =>
                (slices_Compact_int n y25 0 y25.length).bind fun y26 =>
                chk (decide (y25.length = y26.2.length)) <|
                loopN (diary_FreeFrom_L4 n a0 a1 a2 y26 k9) n (0, v24)) fun k7 =>
            loopN (diary_FreeFrom_L3 n a0 a1 a2 k7) n (0, ([a2.From] : List Int), v12)) fun k5 =>
  (diary_read n a0 a1).bind fun y1 =>
  match y1 with
  | .inl y1 =>
    k1 y1
  | .inr y1 =>
    k5 (y1.1, y1.2)
def diary_CheckWindows_L1 (n : Nat) (a0 : List Window) (k1 : (Unit → Option Int)) (back : Nat → Option Int) : Nat → Option Int
  | v3 =>
  bif decide (v3 < a0.length) then
    (diary_within n ((ix a0 v3).From) 0 1000).bind fun y4 =>
    (gcall (!(!((decide (0 ≤ ((ix a0 v3).From))) && (decide (((ix a0 v3).From) ≤ 1000))))) (diary_within n ((ix a0 v3).To) 0 1000)).bind fun y5 =>
    bif (!((decide (0 ≤ ((ix a0 v3).From))) && (decide (((ix a0 v3).From) ≤ 1000)))) || (!((decide (0 ≤ ((ix a0 v3).To))) && (decide (((ix a0 v3).To) ≤ 1000)))) then
      some 2
    else
      bif decide (((ix a0 v3).To) ≤ ((ix a0 v3).From)) then
        some 9
      else
        chk (nI (v3 + 1)) <|
        back (v3 + 1)
  else
    k1 ()
def diary_CheckWindows (n : Nat) (a0 : List Window) : Option Int :=
  bif decide (60 < a0.length) then
    some 8
  else
    withK (fun (_ : Unit) =>
        some 0) fun k1 =>
    loopN (diary_CheckWindows_L1 n a0 k1) n 0
def math_bits_Mul64 (n : Nat) (a0 : Int) (a1 : Int) : Option Unit :=
  some ()
def math_bits_Mul (n : Nat) (a0 : Int) (a1 : Int) : Option Unit :=
  (math_bits_Mul64 n a0 a1).bind fun y1 =>
  some ()
def slices_Repeat_int_L1 (a0 : List Int) (a1 : Int) (k1 : ((List Int) → Option (List Int))) (back : Nat × (List Int) → Option (List Int)) : Nat × (List Int) → Option (List Int)
  | (v2, v3) =>
  bif decide (v2 < ((List.replicate ((IntKind.u64.wrap ((IntKind.u64.wrap ((a0.length : Nat) : Int)) * (IntKind.u64.wrap a1))).toNat) (0 : Int)).length)) then
    chk (decide (v2 ≤ ((List.replicate ((IntKind.u64.wrap ((IntKind.u64.wrap ((a0.length : Nat) : Int)) * (IntKind.u64.wrap a1))).toNat) (0 : Int)).length))) <|
    chk (decide (v2 + (((List.replicate ((IntKind.u64.wrap ((IntKind.u64.wrap ((a0.length : Nat) : Int)) * (IntKind.u64.wrap a1))).toNat) (0 : Int)).length) - v2) ≤ v3.length)) <|
    chk (decide (0 + v2 ≤ v3.length)) <|
    chk (nI (v2 + (Nat.min (List.take v2 (List.drop 0 v3)).length (((List.replicate ((IntKind.u64.wrap ((IntKind.u64.wrap ((a0.length : Nat) : Int)) * (IntKind.u64.wrap a1))).toNat) (0 : Int)).length) - v2)))) <|
    back (v2 + (Nat.min (List.take v2 (List.drop 0 v3)).length (((List.replicate ((IntKind.u64.wrap ((IntKind.u64.wrap ((a0.length : Nat) : Int)) * (IntKind.u64.wrap a1))).toNat) (0 : Int)).length) - v2)), (cpyP v3 v2 (List.take (Nat.min (List.take v2 (List.drop 0 v3)).length (((List.replicate ((IntKind.u64.wrap ((IntKind.u64.wrap ((a0.length : Nat) : Int)) * (IntKind.u64.wrap a1))).toNat) (0 : Int)).length) - v2)) (List.take v2 (List.drop 0 v3)))))
  else
    k1 v3
def slices_Repeat_int (n : Nat) (a0 : List Int) (a1 : Int) : Option (List Int) :=
  bif decide (a1 < (0 : Int)) then
    none
  else
    (math_bits_Mul n (IntKind.u64.wrap ((a0.length : Nat) : Int)) (IntKind.u64.wrap a1)).bind fun y1 =>
    bif (decide ((0 : Int) < (IntKind.u64.wrap ((IntKind.u64.wrap ((IntKind.u64.wrap ((Int.fdiv (IntKind.u64.wrap ((a0.length : Nat) : Int)) (2 ^ (min 32 64))) * (Int.fdiv (IntKind.u64.wrap a1) (2 ^ (min 32 64))))) + (Int.fdiv (IntKind.u64.wrap ((IntKind.u64.wrap ((Int.fdiv (IntKind.u64.wrap ((a0.length : Nat) : Int)) (2 ^ (min 32 64))) * (iAnd .u64 (IntKind.u64.wrap a1) 4294967295))) + (Int.fdiv (IntKind.u64.wrap ((iAnd .u64 (IntKind.u64.wrap ((a0.length : Nat) : Int)) 4294967295) * (iAnd .u64 (IntKind.u64.wrap a1) 4294967295))) (2 ^ (min 32 64))))) (2 ^ (min 32 64))))) + (Int.fdiv (IntKind.u64.wrap ((iAnd .u64 (IntKind.u64.wrap ((IntKind.u64.wrap ((Int.fdiv (IntKind.u64.wrap ((a0.length : Nat) : Int)) (2 ^ (min 32 64))) * (iAnd .u64 (IntKind.u64.wrap a1) 4294967295))) + (Int.fdiv (IntKind.u64.wrap ((iAnd .u64 (IntKind.u64.wrap ((a0.length : Nat) : Int)) 4294967295) * (iAnd .u64 (IntKind.u64.wrap a1) 4294967295))) (2 ^ (min 32 64))))) 4294967295) + (IntKind.u64.wrap ((iAnd .u64 (IntKind.u64.wrap ((a0.length : Nat) : Int)) 4294967295) * (Int.fdiv (IntKind.u64.wrap a1) (2 ^ (min 32 64))))))) (2 ^ (min 32 64))))))) || (decide ((9223372036854775807 : Int) < (IntKind.u64.wrap ((IntKind.u64.wrap ((a0.length : Nat) : Int)) * (IntKind.u64.wrap a1))))) then
      none
    else
      chk (inI (IntKind.u64.wrap ((IntKind.u64.wrap ((a0.length : Nat) : Int)) * (IntKind.u64.wrap a1)))) <|
      chk (decide (0 ≤ (IntKind.u64.wrap ((IntKind.u64.wrap ((a0.length : Nat) : Int)) * (IntKind.u64.wrap a1))))) <|
      chk (mkroom 8 ((IntKind.u64.wrap ((IntKind.u64.wrap ((a0.length : Nat) : Int)) * (IntKind.u64.wrap a1))).toNat)) <|
      chk (decide (0 + ((List.replicate ((IntKind.u64.wrap ((IntKind.u64.wrap ((a0.length : Nat) : Int)) * (IntKind.u64.wrap a1))).toNat) (0 : Int)).length) ≤ (List.replicate ((IntKind.u64.wrap ((IntKind.u64.wrap ((a0.length : Nat) : Int)) * (IntKind.u64.wrap a1))).toNat) (0 : Int)).length)) <|
      chk (decide (0 + a0.length ≤ a0.length)) <|
      withK (fun (v4 : (List Int)) =>
          some v4) fun k1 =>
      loopN (slices_Repeat_int_L1 a0 a1 k1) n (Nat.min (List.take a0.length (List.drop 0 a0)).length ((List.replicate ((IntKind.u64.wrap ((IntKind.u64.wrap ((a0.length : Nat) : Int)) * (IntKind.u64.wrap a1))).toNat) (0 : Int)).length), (cpyP (List.replicate ((IntKind.u64.wrap ((IntKind.u64.wrap ((a0.length : Nat) : Int)) * (IntKind.u64.wrap a1))).toNat) (0 : Int)) 0 (List.take (Nat.min (List.take a0.length (List.drop 0 a0)).length ((List.replicate ((IntKind.u64.wrap ((IntKind.u64.wrap ((a0.length : Nat) : Int)) * (IntKind.u64.wrap a1))).toNat) (0 : Int)).length)) (List.take a0.length (List.drop 0 a0)))))
def diary_schedule_L1 (a0 : List Window) (v8 : Nat) (v9 : List Int) (k2 : (Int → Option (List Int))) (back : Int × Nat → Option (List Int)) : Int × Nat → Option (List Int)
  | (v11, v12) =>
  bif decide (v12 < a0.length) then
    withK (fun (v13 : Int) =>
        chk (nI (v12 + 1)) <|
        back (v13, v12 + 1)) fun k1 =>
    chk (decide (v12 < ((List.replicate ((IntKind.u64.wrap ((IntKind.u64.wrap ((([(-1)] : List Int).length : Nat) : Int)) * (IntKind.u64.wrap ((a0.length : Nat) : Int)))).toNat) (0 : Int)).length))) <|
    chk (decide (v12 < v9.length)) <|
    chk (!((((decide ((ix v9 v12) < (0 : Int))) && (decide (((ix a0 v12).From) ≤ ((v8 : Nat) : Int)))) && (decide (((v8 : Nat) : Int) < ((ix a0 v12).To)))) && !(decide (v11 < (0 : Int)))) || inB v11 a0.length) <|
    chk (!((((decide ((ix v9 v12) < (0 : Int))) && (decide (((ix a0 v12).From) ≤ ((v8 : Nat) : Int)))) && (decide (((v8 : Nat) : Int) < ((ix a0 v12).To)))) && !(decide (v11 < (0 : Int)))) || decide (v11.toNat < a0.length)) <|
    bif (((decide ((ix v9 v12) < (0 : Int))) && (decide (((ix a0 v12).From) ≤ ((v8 : Nat) : Int)))) && (decide (((v8 : Nat) : Int) < ((ix a0 v12).To)))) && ((decide (v11 < (0 : Int))) || (decide (((ix a0 v12).To) < ((ix a0 v11.toNat).To)))) then
      k1 ((v12 : Nat) : Int)
    else
      k1 v11
  else
    k2 v11
def diary_schedule_L2 (n : Nat) (a0 : List Window) (k4 : ((List Int) → Option (List Int))) (back : Nat × (List Int) → Option (List Int)) : Nat × (List Int) → Option (List Int)
  | (v8, v9) =>
  bif decide (v8 < 1000) then
    withK (fun (v15 : (List Int)) =>
        chk (nI (v8 + 1)) <|
        back (v8 + 1, v15)) fun k3 =>
    withK (fun (v14 : Int) =>
        bif decide ((0 : Int) ≤ v14) then
          chk (inB v14 ((List.replicate ((IntKind.u64.wrap ((IntKind.u64.wrap ((([(-1)] : List Int).length : Nat) : Int)) * (IntKind.u64.wrap ((a0.length : Nat) : Int)))).toNat) (0 : Int)).length)) <|
          chk (decide (v14.toNat < v9.length)) <|
          k3 (List.set v9 v14.toNat ((v8 : Nat) : Int))
        else
          k3 v9) fun k2 =>
    loopN (diary_schedule_L1 a0 v8 v9 k2) n ((-1), 0)
  else
    k4 v9
def diary_schedule (n : Nat) (a0 : List Window) : Option (List Int) :=
  (slices_Repeat_int n ([(-1)] : List Int) ((a0.length : Nat) : Int)).bind fun y1 =>
  withK (fun (v16 : (List Int)) =>
      some v16) fun k4 =>
  loopN (diary_schedule_L2 n a0 k4) n (0, y1)
def diary_Most (n : Nat) (a0 : List Window) : Option (Int ⊕ (List Int)) :=
  (diary_CheckWindows n a0).bind fun y1 =>
  bif (y1 != (0 : Int)) then
    some (.inl y1)
  else
    (diary_schedule n a0).bind fun y2 =>
    some (.inr y2)
def agraffebase_Ints_L1 (a0 : List Int) (a1 : List Int) (k1 : (Unit → Option Bool)) (back : Nat → Option Bool) : Nat → Option Bool
  | v1 =>
  bif decide (v1 < a0.length) then
    chk (decide (v1 < a1.length)) <|
    bif ((ix a0 v1) != (ix a1 v1)) then
      some false
    else
      chk (nI (v1 + 1)) <|
      back (v1 + 1)
  else
    k1 ()
def agraffebase_Ints (n : Nat) (a0 : List Int) (a1 : List Int) : Option Bool :=
  bif !decide (a0.length = a1.length) then
    some false
  else
    withK (fun (_ : Unit) =>
        some true) fun k1 =>
    loopN (agraffebase_Ints_L1 a0 a1 k1) n 0
def agraffebase_Ints_2_L1 (a0 : List Int) (a1 : Nat) (a2 : Nat) (a3 : List Int) (k1 : (Unit → Option Bool)) (back : Nat → Option Bool) : Nat → Option Bool
  | v1 =>
  bif decide (v1 < a2) then
    chk (decide (a1 + v1 < a0.length)) <|
    chk (decide (v1 < a3.length)) <|
    bif ((ix a0 (a1 + v1)) != (ix a3 v1)) then
      some false
    else
      chk (nI (v1 + 1)) <|
      back (v1 + 1)
  else
    k1 ()
def agraffebase_Ints_2 (n : Nat) (a0 : List Int) (a1 : Nat) (a2 : Nat) (a3 : List Int) : Option Bool :=
  bif !decide (a2 = a3.length) then
    some false
  else
    withK (fun (_ : Unit) =>
        some true) fun k1 =>
    loopN (agraffebase_Ints_2_L1 a0 a1 a2 a3 k1) n 0
def agraffelaw09_awake (n : Nat)  : Option Bool :=
  (agraffelaw09_Town n).bind fun y1 =>
  (diary_Distances n (Diary.mk ([([115, 104, 111, 112] : Str), ([104, 97, 108, 108] : Str), ([104, 111, 109, 101] : Str)] : List Str) ([([97, 110, 110] : Str), ([98, 111, 98] : Str)] : List Str) ([(Road.mk ([115, 104, 111, 112] : Str) ([104, 97, 108, 108] : Str) 30 200), (Road.mk ([104, 97, 108, 108] : Str) ([104, 111, 109, 101] : Str) 20 100), (Road.mk ([115, 104, 111, 112] : Str) ([104, 111, 109, 101] : Str) 60 150)] : List Road) ([(Grand.mk ([103] : Str) ([115, 104, 111, 112] : Str) 150), (Grand.mk ([117] : Str) ([104, 111, 109, 101] : Str) 100)] : List Grand) 10 300) ([115, 104, 111, 112] : Str) 100).bind fun y2 =>
  (agraffelaw09_Town n).bind fun y3 =>
  (agraffelaw09_Evening n).bind fun y4 =>
  (diary_Accept n (Diary.mk ([([115, 104, 111, 112] : Str), ([104, 97, 108, 108] : Str), ([104, 111, 109, 101] : Str)] : List Str) ([([97, 110, 110] : Str), ([98, 111, 98] : Str)] : List Str) ([(Road.mk ([115, 104, 111, 112] : Str) ([104, 97, 108, 108] : Str) 30 200), (Road.mk ([104, 97, 108, 108] : Str) ([104, 111, 109, 101] : Str) 20 100), (Road.mk ([115, 104, 111, 112] : Str) ([104, 111, 109, 101] : Str) 60 150)] : List Road) ([(Grand.mk ([103] : Str) ([115, 104, 111, 112] : Str) 150), (Grand.mk ([117] : Str) ([104, 111, 109, 101] : Str) 100)] : List Grand) 10 300) ([(Item.mk 1 0 40 ([103] : Str) ([104, 97, 108, 108] : Str) ([] : Str) 0), (Item.mk 0 50 110 ([103] : Str) ([104, 97, 108, 108] : Str) ([97, 110, 110] : Str) 0), (Item.mk 2 200 300 ([103] : Str) ([104, 97, 108, 108] : Str) ([] : Str) 0)] : List Item)).bind fun y5 =>
  (agraffelaw09_Town n).bind fun y6 =>
  (agraffelaw09_Evening n).bind fun y7 =>
  (diary_FreeFrom n (Diary.mk ([([115, 104, 111, 112] : Str), ([104, 97, 108, 108] : Str), ([104, 111, 109, 101] : Str)] : List Str) ([([97, 110, 110] : Str), ([98, 111, 98] : Str)] : List Str) ([(Road.mk ([115, 104, 111, 112] : Str) ([104, 97, 108, 108] : Str) 30 200), (Road.mk ([104, 97, 108, 108] : Str) ([104, 111, 109, 101] : Str) 20 100), (Road.mk ([115, 104, 111, 112] : Str) ([104, 111, 109, 101] : Str) 60 150)] : List Road) ([(Grand.mk ([103] : Str) ([115, 104, 111, 112] : Str) 150), (Grand.mk ([117] : Str) ([104, 111, 109, 101] : Str) 100)] : List Grand) 10 300) ([(Item.mk 1 0 40 ([103] : Str) ([104, 97, 108, 108] : Str) ([] : Str) 0), (Item.mk 0 50 110 ([103] : Str) ([104, 97, 108, 108] : Str) ([97, 110, 110] : Str) 0), (Item.mk 2 200 300 ([103] : Str) ([104, 97, 108, 108] : Str) ([] : Str) 0)] : List Item) (Item.mk 0 120 180 ([117] : Str) ([104, 111, 109, 101] : Str) ([97, 110, 110] : Str) 0)).bind fun y8 =>
  withK (fun (v12 : Int) =>
      withK (fun (v16 : Bool) =>
          some v16) fun k2 =>
      bif (y2.1 == (0 : Int)) then
        (agraffebase_Ints n y2.2 ([0, 30, 50] : List Int)).bind fun y13 =>
        bif ((((((y2.1 == (0 : Int)) && y13) && (y5.1 == (0 : Int))) && (y5.2 == ((-1) : Int))) && (y8.1 == (0 : Int))) && (y8.2 == (130 : Int))) && (v12 == (0 : Int)) then
          (agraffebase_Ints n ([] : List Int) ([0, 1, 2, (-1)] : List Int)).bind fun y14 =>
          k2 ((((((((y2.1 == (0 : Int)) && y13) && (y5.1 == (0 : Int))) && (y5.2 == ((-1) : Int))) && (y8.1 == (0 : Int))) && (y8.2 == (130 : Int))) && (v12 == (0 : Int))) && y14)
        else
          k2 ((((((((y2.1 == (0 : Int)) && y13) && (y5.1 == (0 : Int))) && (y5.2 == ((-1) : Int))) && (y8.1 == (0 : Int))) && (y8.2 == (130 : Int))) && (v12 == (0 : Int))) && false)
      else
        bif ((((((y2.1 == (0 : Int)) && false) && (y5.1 == (0 : Int))) && (y5.2 == ((-1) : Int))) && (y8.1 == (0 : Int))) && (y8.2 == (130 : Int))) && (v12 == (0 : Int)) then
          (agraffebase_Ints n ([] : List Int) ([0, 1, 2, (-1)] : List Int)).bind fun y15 =>
          k2 ((((((((y2.1 == (0 : Int)) && false) && (y5.1 == (0 : Int))) && (y5.2 == ((-1) : Int))) && (y8.1 == (0 : Int))) && (y8.2 == (130 : Int))) && (v12 == (0 : Int))) && y15)
        else
          k2 ((((((((y2.1 == (0 : Int)) && false) && (y5.1 == (0 : Int))) && (y5.2 == ((-1) : Int))) && (y8.1 == (0 : Int))) && (y8.2 == (130 : Int))) && (v12 == (0 : Int))) && false)) fun k1 =>
  withK (fun (v17 : (List Int)) =>
      withK (fun (v21 : Bool) =>
          some v21) fun k4 =>
      bif (y2.1 == (0 : Int)) then
        (agraffebase_Ints n y2.2 ([0, 30, 50] : List Int)).bind fun y18 =>
        bif ((((((y2.1 == (0 : Int)) && y18) && (y5.1 == (0 : Int))) && (y5.2 == ((-1) : Int))) && (y8.1 == (0 : Int))) && (y8.2 == (130 : Int))) && true then
          (agraffebase_Ints_2 n v17 0 ((List.replicate ((IntKind.u64.wrap ((IntKind.u64.wrap ((([(-1)] : List Int).length : Nat) : Int)) * (IntKind.u64.wrap ((([(Window.mk 0 2), (Window.mk 0 2), (Window.mk 1 3), (Window.mk 2 3)] : List Window).length : Nat) : Int)))).toNat) (0 : Int)).length) ([0, 1, 2, (-1)] : List Int)).bind fun y19 =>
          k4 ((((((((y2.1 == (0 : Int)) && y18) && (y5.1 == (0 : Int))) && (y5.2 == ((-1) : Int))) && (y8.1 == (0 : Int))) && (y8.2 == (130 : Int))) && true) && y19)
        else
          k4 ((((((((y2.1 == (0 : Int)) && y18) && (y5.1 == (0 : Int))) && (y5.2 == ((-1) : Int))) && (y8.1 == (0 : Int))) && (y8.2 == (130 : Int))) && true) && false)
      else
        bif ((((((y2.1 == (0 : Int)) && false) && (y5.1 == (0 : Int))) && (y5.2 == ((-1) : Int))) && (y8.1 == (0 : Int))) && (y8.2 == (130 : Int))) && true then
          (agraffebase_Ints_2 n v17 0 ((List.replicate ((IntKind.u64.wrap ((IntKind.u64.wrap ((([(-1)] : List Int).length : Nat) : Int)) * (IntKind.u64.wrap ((([(Window.mk 0 2), (Window.mk 0 2), (Window.mk 1 3), (Window.mk 2 3)] : List Window).length : Nat) : Int)))).toNat) (0 : Int)).length) ([0, 1, 2, (-1)] : List Int)).bind fun y20 =>
          k4 ((((((((y2.1 == (0 : Int)) && false) && (y5.1 == (0 : Int))) && (y5.2 == ((-1) : Int))) && (y8.1 == (0 : Int))) && (y8.2 == (130 : Int))) && true) && y20)
        else
          k4 ((((((((y2.1 == (0 : Int)) && false) && (y5.1 == (0 : Int))) && (y5.2 == ((-1) : Int))) && (y8.1 == (0 : Int))) && (y8.2 == (130 : Int))) && true) && false)) fun k3 =>
  (diary_Most n ([(Window.mk 0 2), (Window.mk 0 2), (Window.mk 1 3), (Window.mk 2 3)] : List Window)).bind fun y9 =>
  match y9 with
  | .inl y9 =>
    k1 y9
  | .inr y9 =>
    k3 y9
def agraffelaw09_slim (n : Nat) (a0 : Item) : Option Unit :=
  some ()
def agraffebase_isLetter (n : Nat) (a0 : Int) : Option Unit :=
  some ()
def agraffebase_isDigit (n : Nat) (a0 : Int) : Option Unit :=
  some ()
def agraffebase_IsName_L1 (n : Nat) (a0 : Str) (k1 : (Unit → Option Bool)) (back : Nat → Option Bool) : Nat → Option Bool
  | v4 =>
  bif decide (v4 < a0.length) then
    (agraffebase_isLetter n (((List.getD a0 v4 0).toNat : Nat) : Int)).bind fun y5 =>
    (gcall (!(((decide ((97 : Int) ≤ (((List.getD a0 v4 0).toNat : Nat) : Int))) && (decide ((((List.getD a0 v4 0).toNat : Nat) : Int) ≤ (122 : Int)))) || ((decide ((65 : Int) ≤ (((List.getD a0 v4 0).toNat : Nat) : Int))) && (decide ((((List.getD a0 v4 0).toNat : Nat) : Int) ≤ (90 : Int)))))) (agraffebase_isDigit n (((List.getD a0 v4 0).toNat : Nat) : Int))).bind fun y6 =>
    bif ((!(((decide ((97 : Int) ≤ (((List.getD a0 v4 0).toNat : Nat) : Int))) && (decide ((((List.getD a0 v4 0).toNat : Nat) : Int) ≤ (122 : Int)))) || ((decide ((65 : Int) ≤ (((List.getD a0 v4 0).toNat : Nat) : Int))) && (decide ((((List.getD a0 v4 0).toNat : Nat) : Int) ≤ (90 : Int)))))) && (!((decide ((48 : Int) ≤ (((List.getD a0 v4 0).toNat : Nat) : Int))) && (decide ((((List.getD a0 v4 0).toNat : Nat) : Int) ≤ (57 : Int)))))) && ((((List.getD a0 v4 0).toNat : Nat) : Int) != (45 : Int)) then
      some false
    else
      chk (nI (v4 + 1)) <|
      back (v4 + 1)
  else
    k1 ()
def agraffebase_IsName (n : Nat) (a0 : Str) : Option Bool :=
  chk (!(!((decide (a0.length = 0)) || (decide (12 < a0.length)))) || decide (0 < a0.length)) <|
  (gcall (!((decide (a0.length = 0)) || (decide (12 < a0.length)))) (agraffebase_isLetter n (((List.getD a0 0 0).toNat : Nat) : Int))).bind fun y1 =>
  bif ((decide (a0.length = 0)) || (decide (12 < a0.length))) || (!(((decide ((97 : Int) ≤ (((List.getD a0 0 0).toNat : Nat) : Int))) && (decide ((((List.getD a0 0 0).toNat : Nat) : Int) ≤ (122 : Int)))) || ((decide ((65 : Int) ≤ (((List.getD a0 0 0).toNat : Nat) : Int))) && (decide ((((List.getD a0 0 0).toNat : Nat) : Int) ≤ (90 : Int)))))) then
    some false
  else
    withK (fun (_ : Unit) =>
        some true) fun k1 =>
    loopN (agraffebase_IsName_L1 n a0 k1) n 0
def agraffebase_Within (n : Nat) (a0 : Int) (a1 : Int) (a2 : Int) : Option Unit :=
  some ()
def agrafferef09_IsMinute (n : Nat) (a0 : Int) : Option Unit :=
  (agraffebase_Within n a0 0 1000000).bind fun y1 =>
  some ()
def strconv_Itoa (n : Nat) (a0 : Int) : Option Str :=
  chk (inI a0) <|
  some (itoaL a0)
def strings_Join (n : Nat) (a0 : List Str) (a1 : Str) : Option Str :=
  chk (Nat.ble a0.length 140737488355328) <|
  chk (Nat.ble (joinL a0 a1).length 140737488355328) <|
  some (joinL a0 a1)
def diary_FormatItem (n : Nat) (a0 : Item) : Option Str :=
  (strconv_Itoa n a0.Kind).bind fun y1 =>
  (diary_within n a0.Kind 0 3).bind fun y2 =>
  withK (fun (v3 : Str) =>
      (strconv_Itoa n a0.From).bind fun y4 =>
      (strconv_Itoa n a0.To).bind fun y5 =>
      withK (fun (v6 : (List Str)) =>
          withK (fun (v8 : (List Str)) =>
              (strings_Join n v8 ([32] : Str)).bind fun y9 =>
              some y9) fun k3 =>
          bif (!((decide (0 ≤ a0.Kind)) && (decide (a0.Kind ≤ 3)))) || (a0.Kind == (3 : Int)) then
            (strconv_Itoa n a0.Deposit).bind fun y7 =>
            chk (room 16 (v6 ++ ([y7] : List Str)).length) <|
            k3 (v6 ++ ([y7] : List Str))
          else
            k3 v6) fun k2 =>
      bif ((!((decide (0 ≤ a0.Kind)) && (decide (a0.Kind ≤ 3)))) || (a0.Kind == (0 : Int))) || (a0.Kind == (3 : Int)) then
        chk (room 16 (([v3, y4, y5, a0.Grand, a0.Place] : List Str) ++ ([a0.Who] : List Str)).length) <|
        k2 (([v3, y4, y5, a0.Grand, a0.Place] : List Str) ++ ([a0.Who] : List Str))
      else
        k2 ([v3, y4, y5, a0.Grand, a0.Place] : List Str)) fun k1 =>
  bif (decide (0 ≤ a0.Kind)) && (decide (a0.Kind ≤ 3)) then
    chk (inB a0.Kind 4) <|
    chk (decide (a0.Kind.toNat < 4)) <|
    k1 (ix gKinds a0.Kind.toNat)
  else
    k1 y1
def strings_Split (n : Nat) (a0 : Str) (a1 : Str) : Option (List Str) :=
  chk (Nat.blt a0.length 4294967281) <|
  splitC a0 a1
def strconv_Atoi (n : Nat) (a0 : Str) : Option (Int × Bool) :=
  chk (Nat.ble a0.length 281474976710656) <|
  some (atoiL a0)
def internal_stringslite_HasPrefix (n : Nat) (a0 : Str) (a1 : Str) : Option Unit :=
  some ()
def internal_stringslite_TrimPrefix (n : Nat) (a0 : Str) (a1 : Str) : Option Str :=
  (internal_stringslite_HasPrefix n a0 a1).bind fun y1 =>
  bif (decide (a1.length ≤ a0.length)) && ((List.take a1.length a0) == a1) then
    chk (decide (a1.length ≤ a0.length)) <|
    some (List.drop a1.length a0)
  else
    some a0
def strings_TrimPrefix (n : Nat) (a0 : Str) (a1 : Str) : Option Str :=
  (internal_stringslite_TrimPrefix n a0 a1).bind fun y1 =>
  some y1
def diary_number (n : Nat) (a0 : Str) : Option (Int × Bool) :=
  (strconv_Atoi n a0).bind fun y1 =>
  (gcall y1.2 (strconv_Itoa n y1.1)).bind fun y2 =>
  (gcall (y1.2 && (y2 == a0)) (strings_TrimPrefix n a0 ([45] : Str))).bind fun y3 =>
  some (y1.1, (y1.2 && (y2 == a0)) && (decide (y3.length ≤ 10)))
def diary_ParseItem (n : Nat) (a0 : Str) : Option (Int × Int × Int × Str × Str × Str × Int × Int) :=
  (strings_Split n a0 ([32] : Str)).bind fun y1 =>
  chk (decide (0 < y1.length)) <|
  (slices_Index_string n gKinds (ix y1 0)).bind fun y2 =>
  bif (decide (y2 < (0 : Int))) || (decide (y1.length < 5)) then
    some (0, 0, 0, ([] : Str), ([] : Str), ([] : Str), 0, 7)
  else
    chk (decide (1 < y1.length)) <|
    (diary_number n (ix y1 1)).bind fun y3 =>
    chk (decide (2 < y1.length)) <|
    (diary_number n (ix y1 2)).bind fun y4 =>
    chk (decide (3 < y1.length)) <|
    chk (decide (4 < y1.length)) <|
    chk (decide (5 ≤ y1.length)) <|
    withK (fun (v5, v6) =>
        withK (fun (v8, v9, v10) =>
            (gcall (!((((!y3.2) || (!y4.2)) || (!v8)) || (decide (0 < v10.length)))) (diary_FormatItem n (Item.mk y2 y3.1 y4.1 (ix y1 3) (ix y1 4) v6 v9))).bind fun y11 =>
            bif ((((!y3.2) || (!y4.2)) || (!v8)) || (decide (0 < v10.length))) || (!(y11 == a0)) then
              some (0, 0, 0, ([] : Str), ([] : Str), ([] : Str), 0, 7)
            else
              some (y2, y3.1, y4.1, (ix y1 3), (ix y1 4), v6, v9, 0)) fun k2 =>
        bif (decide (0 < v5.length)) && (y2 == (3 : Int)) then
          chk (decide (0 < v5.length)) <|
          (diary_number n (ix v5 0)).bind fun y7 =>
          chk (decide (1 ≤ v5.length)) <|
          k2 (y7.2, y7.1, (List.drop 1 v5))
        else
          k2 (true, 0, v5)) fun k1 =>
    bif (decide (0 < ((List.drop 5 y1).length))) && ((y2 == (0 : Int)) || (y2 == (3 : Int))) then
      chk (decide (0 < (List.drop 5 y1).length)) <|
      chk (decide (1 ≤ (List.drop 5 y1).length)) <|
      k1 ((List.drop 1 (List.drop 5 y1)), (ix (List.drop 5 y1) 0))
    else
      k1 ((List.drop 5 y1), ([] : Str))
def agraffebase_Cut_L1 (a0 : Str) (a1 : Int) (k2 : ((List Str) → Option (List Str))) (back : (List Str) × Nat × Nat → Option (List Str)) : (List Str) × Nat × Nat → Option (List Str)
  | (v3, v4, v5) =>
  bif decide (v5 ≤ a0.length) then
    withK (fun (v6, v7) =>
        chk (nI (v5 + 1)) <|
        back (v7, v6, v5 + 1)) fun k1 =>
    chk (!(!(decide (v5 = a0.length))) || decide (v5 < a0.length)) <|
    bif (decide (v5 = a0.length)) || ((((List.getD a0 v5 0).toNat : Nat) : Int) == a1) then
      chk (decide (v4 ≤ v5)) <|
      chk (room 16 (v3 ++ ([(List.take (v5 - v4) (List.drop v4 a0))] : List Str)).length) <|
      chk (nI (v5 + 1)) <|
      k1 (v5 + 1, (v3 ++ ([(List.take (v5 - v4) (List.drop v4 a0))] : List Str)))
    else
      k1 (v4, v3)
  else
    k2 v3
def agraffebase_Cut (n : Nat) (a0 : Str) (a1 : Int) : Option (List Str) :=
  withK (fun (v8 : (List Str)) =>
      some v8) fun k2 =>
  loopN (agraffebase_Cut_L1 a0 a1 k2) n (([] : List Str), 0, 0)
def agraffebase_Abs (n : Nat) (a0 : Int) : Option Int :=
  bif decide (a0 < (0 : Int)) then
    chk (inI (-a0)) <|
    some (-a0)
  else
    some a0
def agraffebase_Decimal_L1 (n : Nat) (k1 : (Str → Option Str)) (back : Str × Int → Option Str) : Str × Int → Option Str
  | (v2, v3) =>
  bif (v3 != (0 : Int)) then
    chk ((10 != 0)) <|
    (agraffebase_Abs n (Int.tmod v3 10)).bind fun y4 =>
    chk (inI (48 + y4)) <|
    chk (nI (([UInt8.ofNat (Int.toNat (IntKind.u8.wrap (48 + y4)))] : Str) ++ v2).length) <|
    chk ((10 != 0 && inI (Int.tdiv v3 10))) <|
    back ((([UInt8.ofNat (Int.toNat (IntKind.u8.wrap (48 + y4)))] : Str) ++ v2), Int.tdiv v3 10)
  else
    k1 v2
def agraffebase_Decimal (n : Nat) (a0 : Int) : Option Str :=
  bif (a0 == (0 : Int)) then
    some ([48] : Str)
  else
    withK (fun (v5 : Str) =>
        bif decide (a0 < (0 : Int)) then
          chk (nI (([45] : Str) ++ v5).length) <|
          some (([45] : Str) ++ v5)
        else
          some v5) fun k1 =>
    loopN (agraffebase_Decimal_L1 n k1) n (([] : Str), a0)
def agraffebase_Number_L1 (n : Nat) (a0 : Str) (k2 : (Int → Option (Int × Bool))) (back : Int × Int → Option (Int × Bool)) : Int × Int → Option (Int × Bool)
  | (v3, v4) =>
  bif decide (v4 < ((a0.length : Nat) : Int)) then
    chk (inB v4 a0.length) <|
    (agraffebase_isDigit n (((List.getD a0 v4.toNat 0).toNat : Nat) : Int)).bind fun y5 =>
    bif !((decide ((48 : Int) ≤ (((List.getD a0 v4.toNat 0).toNat : Nat) : Int))) && (decide ((((List.getD a0 v4.toNat 0).toNat : Nat) : Int) ≤ (57 : Int)))) then
      some (0, false)
    else
      chk (inI (10 * v3)) <|
      chk (inI (IntKind.u8.wrap ((((List.getD a0 v4.toNat 0).toNat : Nat) : Int) - 48))) <|
      chk (inI ((10 * v3) + (IntKind.u8.wrap ((((List.getD a0 v4.toNat 0).toNat : Nat) : Int) - 48)))) <|
      chk (inI (v4 + 1)) <|
      back ((10 * v3) + (IntKind.u8.wrap ((((List.getD a0 v4.toNat 0).toNat : Nat) : Int) - 48)), v4 + 1)
  else
    k2 v3
def agraffebase_Number (n : Nat) (a0 : Str) (a1 : Int) : Option (Int × Bool) :=
  withK (fun (v1 : Int) =>
      chk (!(!(((a0.length : Nat) : Int) == v1)) || inI (v1 + a1)) <|
      bif ((((a0.length : Nat) : Int) == v1) || (decide ((v1 + a1) < ((a0.length : Nat) : Int)))) || (decide ((18 : Int) < a1)) then
        some (0, false)
      else
        withK (fun (v6 : Int) =>
            withK (fun (v7 : Int) =>
                (agraffebase_Decimal n v7).bind fun y8 =>
                some (v7, (y8 == a0))) fun k3 =>
            bif (v1 == (1 : Int)) then
              chk (inI (-v6)) <|
              k3 (-v6)
            else
              k3 v6) fun k2 =>
        loopN (agraffebase_Number_L1 n a0 k2) n (0, v1)) fun k1 =>
  bif (decide (0 < a0.length)) && ((((List.getD a0 0 0).toNat : Nat) : Int) == (45 : Int)) then
    k1 1
  else
    k1 0
def agrafferef09_ParseItem (n : Nat) (a0 : Str) : Option (Int × Int × Int × Str × Str × Str × Int × Int) :=
  (agraffebase_Cut n a0 32).bind fun y1 =>
  withK (fun (v2, v3) =>
      bif (((y1.length : Nat) : Int) != v3) then
        some (0, 0, 0, ([] : Str), ([] : Str), ([] : Str), 0, 7)
      else
        chk (decide (1 < y1.length)) <|
        (agraffebase_Number n (ix y1 1) 10).bind fun y4 =>
        chk (decide (2 < y1.length)) <|
        (agraffebase_Number n (ix y1 2) 10).bind fun y5 =>
        chk (decide (3 < y1.length)) <|
        chk (decide (4 < y1.length)) <|
        withK (fun (v6 : Str) =>
            withK (fun (v8, v9) =>
                bif ((!y4.2) || (!y5.2)) || (!v8) then
                  some (0, 0, 0, ([] : Str), ([] : Str), ([] : Str), 0, 7)
                else
                  some (v2, y4.1, y5.1, (ix y1 3), (ix y1 4), v6, v9, 0)) fun k3 =>
            bif (v3 == (7 : Int)) then
              chk (decide (6 < y1.length)) <|
              (agraffebase_Number n (ix y1 6) 10).bind fun y7 =>
              k3 (y7.2, y7.1)
            else
              k3 (true, 0)) fun k2 =>
        bif decide ((6 : Int) ≤ v3) then
          chk (decide (5 < y1.length)) <|
          k2 (ix y1 5)
        else
          k2 ([] : Str)) fun k1 =>
  chk (decide (0 < y1.length)) <|
  bif ((ix y1 0) == ([116, 117, 110, 105, 110, 103] : Str)) then
    k1 (0, 6)
  else
    bif ((ix y1 0) == ([109, 111, 118, 101] : Str)) then
      k1 (1, 5)
    else
      bif ((ix y1 0) == ([99, 111, 110, 99, 101, 114, 116] : Str)) then
        k1 (2, 5)
      else
        bif ((ix y1 0) == ([114, 101, 110, 116, 97, 108] : Str)) then
          k1 (3, 7)
        else
          k1 ((-1), 0)
def agrafferef09_FormatItem (n : Nat) (a0 : Item) : Option Str :=
  (agraffebase_Within n a0.Kind 0 3).bind fun y1 =>
  (agraffebase_Decimal n a0.Kind).bind fun y2 =>
  withK (fun (v3 : Str) =>
      chk (nI (v3 ++ ([32] : Str)).length) <|
      (agraffebase_Decimal n a0.From).bind fun y4 =>
      chk (nI ((v3 ++ ([32] : Str)) ++ y4).length) <|
      chk (nI (((v3 ++ ([32] : Str)) ++ y4) ++ ([32] : Str)).length) <|
      (agraffebase_Decimal n a0.To).bind fun y5 =>
      chk (nI ((((v3 ++ ([32] : Str)) ++ y4) ++ ([32] : Str)) ++ y5).length) <|
      chk (nI (((((v3 ++ ([32] : Str)) ++ y4) ++ ([32] : Str)) ++ y5) ++ ([32] : Str)).length) <|
      chk (nI ((((((v3 ++ ([32] : Str)) ++ y4) ++ ([32] : Str)) ++ y5) ++ ([32] : Str)) ++ a0.Grand).length) <|
      chk (nI (((((((v3 ++ ([32] : Str)) ++ y4) ++ ([32] : Str)) ++ y5) ++ ([32] : Str)) ++ a0.Grand) ++ ([32] : Str)).length) <|
      chk (nI ((((((((v3 ++ ([32] : Str)) ++ y4) ++ ([32] : Str)) ++ y5) ++ ([32] : Str)) ++ a0.Grand) ++ ([32] : Str)) ++ a0.Place).length) <|
      withK (fun (v6 : Str) =>
          withK (fun (v8 : Str) =>
              some v8) fun k3 =>
          bif (!((decide (0 ≤ a0.Kind)) && (decide (a0.Kind ≤ 3)))) || (a0.Kind == (3 : Int)) then
            chk (nI (v6 ++ ([32] : Str)).length) <|
            (agraffebase_Decimal n a0.Deposit).bind fun y7 =>
            chk (nI ((v6 ++ ([32] : Str)) ++ y7).length) <|
            k3 ((v6 ++ ([32] : Str)) ++ y7)
          else
            k3 v6) fun k2 =>
      bif ((!((decide (0 ≤ a0.Kind)) && (decide (a0.Kind ≤ 3)))) || (a0.Kind == (0 : Int))) || (a0.Kind == (3 : Int)) then
        chk (nI (((((((((v3 ++ ([32] : Str)) ++ y4) ++ ([32] : Str)) ++ y5) ++ ([32] : Str)) ++ a0.Grand) ++ ([32] : Str)) ++ a0.Place) ++ ([32] : Str)).length) <|
        chk (nI ((((((((((v3 ++ ([32] : Str)) ++ y4) ++ ([32] : Str)) ++ y5) ++ ([32] : Str)) ++ a0.Grand) ++ ([32] : Str)) ++ a0.Place) ++ ([32] : Str)) ++ a0.Who).length) <|
        k2 ((((((((((v3 ++ ([32] : Str)) ++ y4) ++ ([32] : Str)) ++ y5) ++ ([32] : Str)) ++ a0.Grand) ++ ([32] : Str)) ++ a0.Place) ++ ([32] : Str)) ++ a0.Who)
      else
        k2 ((((((((v3 ++ ([32] : Str)) ++ y4) ++ ([32] : Str)) ++ y5) ++ ([32] : Str)) ++ a0.Grand) ++ ([32] : Str)) ++ a0.Place)) fun k1 =>
  bif (decide (0 ≤ a0.Kind)) && (decide (a0.Kind ≤ 3)) then
    chk (inB a0.Kind 4) <|
    chk (decide (a0.Kind.toNat < ([([116, 117, 110, 105, 110, 103] : Str), ([109, 111, 118, 101] : Str), ([99, 111, 110, 99, 101, 114, 116] : Str), ([114, 101, 110, 116, 97, 108] : Str)] : List Str).length)) <|
    k1 (ix ([([116, 117, 110, 105, 110, 103] : Str), ([109, 111, 118, 101] : Str), ([99, 111, 110, 99, 101, 114, 116] : Str), ([114, 101, 110, 116, 97, 108] : Str)] : List Str) a0.Kind.toNat)
  else
    k1 y2
def agraffelaw09_DiaryTexts (n : Nat) (a0 : Item) (a1 : Str) : Option Bool :=
  (agraffelaw09_awake n).bind fun y1 =>
  bif !y1 then
    some false
  else
    (agraffelaw09_slim n a0).bind fun y2 =>
    bif (!(((decide (a0.Grand.length ≤ 30)) && (decide (a0.Place.length ≤ 30))) && (decide (a0.Who.length ≤ 30)))) || (decide (200 < a1.length)) then
      some true
    else
      (diary_FormatItem n a0).bind fun y3 =>
      (diary_ParseItem n a1).bind fun y4 =>
      (agrafferef09_ParseItem n a1).bind fun y5 =>
      (agrafferef09_FormatItem n a0).bind fun y6 =>
      bif ((!(y3 == y6)) || (y4.2.2.2.2.2.2.2 != y5.2.2.2.2.2.2.2)) || (!((y4.1 == y5.1) && ((y4.2.1 == y5.2.1) && ((y4.2.2.1 == y5.2.2.1) && ((y4.2.2.2.1 == y5.2.2.2.1) && ((y4.2.2.2.2.1 == y5.2.2.2.2.1) && ((y4.2.2.2.2.2.1 == y5.2.2.2.2.2.1) && ((y4.2.2.2.2.2.2.1 == y5.2.2.2.2.2.2.1) && true)))))))) then
        some false
      else
        (agraffebase_Within n a0.Kind 0 3).bind fun y7 =>
        (gcall (!(!((decide (0 ≤ a0.Kind)) && (decide (a0.Kind ≤ 3))))) (agrafferef09_IsMinute n a0.From)).bind fun y8 =>
        (gcall (!((!((decide (0 ≤ a0.Kind)) && (decide (a0.Kind ≤ 3)))) || (!((decide (0 ≤ a0.From)) && (decide (a0.From ≤ 1000000)))))) (agrafferef09_IsMinute n a0.To)).bind fun y9 =>
        (gcall (!(((!((decide (0 ≤ a0.Kind)) && (decide (a0.Kind ≤ 3)))) || (!((decide (0 ≤ a0.From)) && (decide (a0.From ≤ 1000000))))) || (!((decide (0 ≤ a0.To)) && (decide (a0.To ≤ 1000000)))))) (agraffebase_IsName n a0.Grand)).bind fun y10 =>
        (gcall (!((((!((decide (0 ≤ a0.Kind)) && (decide (a0.Kind ≤ 3)))) || (!((decide (0 ≤ a0.From)) && (decide (a0.From ≤ 1000000))))) || (!((decide (0 ≤ a0.To)) && (decide (a0.To ≤ 1000000))))) || (!y10))) (agraffebase_IsName n a0.Place)).bind fun y11 =>
        (gcall ((!(((((!((decide (0 ≤ a0.Kind)) && (decide (a0.Kind ≤ 3)))) || (!((decide (0 ≤ a0.From)) && (decide (a0.From ≤ 1000000))))) || (!((decide (0 ≤ a0.To)) && (decide (a0.To ≤ 1000000))))) || (!y10)) || (!y11))) && (!(a0.Who == ([] : Str)))) (agraffebase_IsName n a0.Who)).bind fun y12 =>
        (gcall (!((((((!((decide (0 ≤ a0.Kind)) && (decide (a0.Kind ≤ 3)))) || (!((decide (0 ≤ a0.From)) && (decide (a0.From ≤ 1000000))))) || (!((decide (0 ≤ a0.To)) && (decide (a0.To ≤ 1000000))))) || (!y10)) || (!y11)) || ((!(a0.Who == ([] : Str))) && (!y12)))) (agraffebase_Within n a0.Deposit 0 1000000000)).bind fun y13 =>
        bif ((((((!((decide (0 ≤ a0.Kind)) && (decide (a0.Kind ≤ 3)))) || (!((decide (0 ≤ a0.From)) && (decide (a0.From ≤ 1000000))))) || (!((decide (0 ≤ a0.To)) && (decide (a0.To ≤ 1000000))))) || (!y10)) || (!y11)) || ((!(a0.Who == ([] : Str))) && (!y12))) || (!((decide (0 ≤ a0.Deposit)) && (decide (a0.Deposit ≤ 1000000000)))) then
          some true
        else
          withK (fun (v14 : Str) =>
              withK (fun (v15 : Int) =>
                  (diary_ParseItem n y3).bind fun y16 =>
                  some ((y16.2.2.2.2.2.2.2 == (0 : Int)) && ((y16.1 == a0.Kind) && ((y16.2.1 == a0.From) && ((y16.2.2.1 == a0.To) && ((y16.2.2.2.1 == a0.Grand) && ((y16.2.2.2.2.1 == a0.Place) && ((y16.2.2.2.2.2.1 == v14) && ((y16.2.2.2.2.2.2.1 == v15) && true))))))))) fun k2 =>
              bif (a0.Kind != (3 : Int)) then
                k2 0
              else
                k2 a0.Deposit) fun k1 =>
          bif (a0.Kind == (1 : Int)) || (a0.Kind == (2 : Int)) then
            k1 ([] : Str)
          else
            k1 a0.Who
end
section
set_option maxRecDepth 4000
open Go
theorem loopN_s {α β : Type} (F : (α → Option β) → α → Option β) (n : Nat) (t : α) : loopN F (n + 1) t = F (loopN F n) t := rfl
@[simp] theorem chk_t {α : Type} (k : Option α) : chk true k = k := rfl
@[simp] theorem withK_eq {α β : Type} (j : α → Option β) (f : (α → Option β) → Option β) : withK j f = f j := rfl
@[simp] theorem gcall_some_ {α : Type} [Inhabited α] (g : Bool) (x : α) : (gcall g (some x)) = some (bif g then x else default) := by cases g <;> rfl
theorem nI_of {n : Nat} (h : n ≤ 9223372036854775807) : nI n = true := by simp [nI, h]
theorem inI_of {n : Int} (h : -9223372036854775808 ≤ n) (h2 : n ≤ 9223372036854775807) : inI n = true := by simp [inI, h, h2]
theorem room_of {b n : Nat} (h : n * b ≤ 140737488355328) (h2 : n ≤ 9223372036854775807) : room b n = true := by simp [room, h, h2]
theorem inB_of {q : Int} {n : Nat} (h : 0 ≤ q) (h2 : q.toNat < n) : inB q n = true := by simp [inB, h, h2]
theorem drop_ix {α : Type} [Inhabited α] {l : List α} {v : Nat} (h : v < l.length) : l.drop v = ix l v :: l.drop (v + 1) := by
  rw [ix_eq h]; exact List.drop_eq_getElem_cons h
theorem drop_nil {α : Type} {l : List α} {v : Nat} (h : ¬ v < l.length) : l.drop v = [] := List.drop_eq_nil_of_le (by omega)
def isL (c : UInt8) : Bool := (decide ((97 : Int) ≤ ((c.toNat : Nat) : Int)) && decide (((c.toNat : Nat) : Int) ≤ (122 : Int))) || (decide ((65 : Int) ≤ ((c.toNat : Nat) : Int)) && decide (((c.toNat : Nat) : Int) ≤ (90 : Int)))
def isD (c : UInt8) : Bool := decide ((48 : Int) ≤ ((c.toNat : Nat) : Int)) && decide (((c.toNat : Nat) : Int) ≤ (57 : Int))
def okC (c : UInt8) : Bool := isL c || isD c || (((c.toNat : Nat) : Int) == (45 : Int))
def nameB (s : Str) : Bool := match s with
  | [] => false
  | c :: r => isL c && r.all okC && decide (r.length < 12)
end
section
set_option maxRecDepth 4000
open Go
theorem bne_t {x : Int} (h : ¬ x = 0) : (x != 0) = true := by simp [bne, h]
def findI {α : Type} (p : α → Bool) (l : List α) : Int := match l.findIdx? p with
  | some i => ((i : Nat) : Int)
  | none => -1
end
section
set_option maxRecDepth 4000
open Go
theorem loop_find' {α R : Type} [Inhabited α] {l : List α} {p : α → Bool} {F : (Nat → Option R) → Nat → Option R} {yes : Nat → Option R} {no : Option R}
    (h1 : ∀ back v, v < l.length → F back v = bif p (ix l v) then yes v else back (v + 1)) (h2 : ∀ back, F back l.length = no) :
    ∀ n v, v ≤ l.length → l.length - v < n → loopN F n v = match (l.drop v).findIdx? p with | some i => yes (v + i) | none => no := by
  intro n
  induction n with
  | zero => intro v _ h; omega
  | succ n ih =>
    intro v hv hn
    rw [loopN_s]
    by_cases h : v < l.length
    · rw [h1 _ v h, drop_ix h, List.findIdx?_cons]
      cases hp : p (ix l v) with
      | true => simp
      | false =>
        simp only [cond_false, Bool.false_eq_true, if_false]
        rw [ih (v + 1) (by omega) (by omega)]
        cases hh : (l.drop (v + 1)).findIdx? p with
        | none => simp
        | some i => simp [Nat.add_assoc, Nat.add_comm 1 i]
    · have : v = l.length := by omega
      subst this
      rw [h2, drop_nil h]
      simp
theorem loop_findI {α : Type} [Inhabited α] {l : List α} {p : α → Bool} {F : (Nat → Option Int) → Nat → Option Int}
    (h1 : ∀ back v, v < l.length → F back v = bif p (ix l v) then some ((v : Nat) : Int) else back (v + 1)) (h2 : ∀ back, F back l.length = some (-1)) (n : Nat) (hn : l.length < n) : loopN F n 0 = some (findI p l) := by
  rw [loop_find' h1 h2 n 0 (by omega) (by omega), List.drop_zero, findI]
  cases l.findIdx? p <;> simp
end
section
set_option maxRecDepth 4000
open Go
theorem getD_ix (s : Str) (v : Nat) : List.getD s v 0 = ix s v := by
  simp only [ix, List.getD]; rfl
theorem IsName_loop (s : Str) (n0 : Nat) (k : Unit → Option Bool) : ∀ (n v : Nat), s.length - v < n → s.length < 9223372036854775807 → loopN (agraffebase_IsName_L1 n0 s k) n v = bif (s.drop v).all okC then k () else some false := by
  intro n
  induction n with
  | zero => intro v h; omega
  | succ n ih =>
    intro v hn hl
    rw [loopN_s, agraffebase_IsName_L1]
    by_cases h : v < s.length
    · rw [drop_ix h]
      simp only [h, decide_true, cond_true, agraffebase_isLetter, agraffebase_isDigit, gcall_some_, Option.bind_some, getD_ix, List.all_cons, nI_of (by omega : v + 1 ≤ 9223372036854775807), chk_t]
      rw [ih (v + 1) (by omega) hl]
      show (bif ((!isL (ix s v)) && (!isD (ix s v))) && ((((ix s v).toNat : Nat) : Int) != (45 : Int)) then _ else _) = _
      simp only [okC]
      cases isL (ix s v) <;> cases isD (ix s v) <;> cases hh : (((((ix s v).toNat : Nat) : Int)) == (45 : Int)) <;> simp [bne, hh]
    · rw [drop_nil h]
      simp [h]
theorem IsName_eq (s : Str) (n : Nat) (hn : s.length + 1 < n) (hl : s.length < 9223372036854775807) : agraffebase_IsName n s = some (nameB s) := by
  rw [agraffebase_IsName]
  simp only [agraffebase_isLetter, gcall_some_, Option.bind_some, getD_ix, withK_eq]
  rw [IsName_loop _ _ _ _ _ (by omega) hl]
  cases s with
  | nil => simp [nameB]
  | cons c r =>
    have h0 : ¬ (c :: r).length = 0 := by simp
    have h1 : 0 < (c :: r).length := by simp
    have hix : ix (c :: r) 0 = c := rfl
    simp only [h0, h1, decide_true, decide_false, Bool.false_or, Bool.or_true, chk_t, hix, List.drop_zero]
    show (bif (decide (12 < (c :: r).length)) || (!isL c) then _ else _) = _
    simp only [nameB, List.all_cons, okC, List.length_cons]
    by_cases hlen : r.length < 12
    · have : ¬ 12 < r.length + 1 := by omega
      cases hL : isL c <;> cases hA : r.all okC <;> simp [this, hlen, hA]
    · have : 12 < r.length + 1 := by omega
      simp [this, hlen]
variable {n : Nat}
def isS (s : Str) (x : Str) : Bool := x == s
end
section
set_option maxRecDepth 4000
open Go
variable {n : Nat}
end
section
set_option maxRecDepth 4000
open Go
set_option maxRecDepth 100000 in
theorem awake_ok (m : Nat) : agraffelaw09_awake (m + 2000) = some true := by kernel_rfl
end
section
set_option maxRecDepth 4000
open Go
theorem splitL_ne (c : UInt8) : ∀ s, splitL c s ≠ []
  | [] => by simp [splitL]
  | b :: l => by
    rw [splitL]
    cases b == c with
    | true => simp
    | false =>
      rw [cond_false]
      split <;> simp
theorem joinL_one (x : List UInt8) (sep : List UInt8) : joinL [x] sep = x := Lib.join_one x sep
theorem joinL_cons (x y : List UInt8) (r : List (List UInt8)) (sep : List UInt8) : joinL (x :: y :: r) sep = x ++ sep ++ joinL (y :: r) sep := by
  rw [joinL, joinL, Lib.join_cons, Lib.join_cons]
  simp [Lib.joinTail]
theorem join_split (c : UInt8) : ∀ s, joinL (splitL c s) [c] = s
  | [] => joinL_one [] [c]
  | b :: l => by
    have ih := join_split c l
    have hne := splitL_ne c l
    rw [splitL]
    cases hb : b == c with
    | true =>
      rw [cond_true]
      have := beq_iff_eq.1 hb
      subst this
      cases hs : splitL b l with
      | nil => exact absurd hs hne
      | cons x r => rw [joinL_cons, ← hs, ih]; rfl
    | false =>
      rw [cond_false]
      cases hs : splitL c l with
      | nil => exact absurd hs hne
      | cons x r =>
        rw [hs] at ih
        simp only
        cases r with
        | nil => rw [joinL_one] at ih ⊢; rw [ih]
        | cons y r => rw [joinL_cons] at ih ⊢; rw [← ih]; simp
theorem split_app (c : UInt8) (l : List UInt8) : ∀ x : List UInt8, c ∉ x → splitL c (x ++ c :: l) = x :: splitL c l
  | [], _ => by simp [splitL]
  | b :: x, h => by
    have hb : (b == c) = false := by simp; rintro rfl; simp at h
    have h2 : c ∉ x := fun e => h (by simp [e])
    rw [List.cons_append, splitL, hb, cond_false, split_app c l x h2]
theorem split_one (c : UInt8) : ∀ x : List UInt8, c ∉ x → splitL c x = [x]
  | [], _ => rfl
  | b :: x, h => by
    have hb : (b == c) = false := by simp; rintro rfl; simp at h
    have h2 : c ∉ x := fun e => h (by simp [e])
    rw [splitL, hb, cond_false, split_one c x h2]
theorem split_join (c : UInt8) : ∀ l : List (List UInt8), l ≠ [] → (∀ x ∈ l, c ∉ x) → splitL c (joinL l [c]) = l
  | [], h, _ => absurd rfl h
  | [x], _, h => by rw [joinL_one, split_one c x (h x (by simp))]
  | x :: y :: r, _, h => by
    rw [joinL_cons, List.append_assoc, List.singleton_append, split_app c _ x (h x (by simp)), split_join c (y :: r) (by simp) (fun z hz => h z (by simp [hz]))]
theorem dig_val (d : Nat) (h : d < 10) : (UInt8.ofNat (48 + d)).toNat = 48 + d := by
  rw [UInt8.toNat_ofNat_of_lt']
  show 48 + d < 256
  omega
theorem decFrom_snoc : ∀ (l : List UInt8) (acc m d : Nat), d < 10 → Lib.decFrom acc l = some m → Lib.decFrom acc (l ++ [UInt8.ofNat (48 + d)]) = some (m * 10 + d)
  | [], acc, m, d, hd, h => by
    simp only [Lib.decFrom, Option.some.injEq] at h
    subst h
    have := dig_val d hd
    simp only [List.nil_append, Lib.decFrom, Lib.digitVal]
    rw [this, if_pos (by omega)]
    simp
  | c :: l, acc, m, d, hd, h => by
    rw [List.cons_append]
    rw [Lib.decFrom] at h ⊢
    cases hc : Lib.digitVal c with
    | none => rw [hc] at h; cases h
    | some q => rw [hc] at h; exact decFrom_snoc l _ m d hd h
theorem decFrom_digits : ∀ u, Lib.decFrom 0 (Lib.decDigits u) = some u := fun u => by
  induction u using Nat.strongRecOn with
  | _ u ih =>
    rw [Lib.decDigits]
    split
    · rename_i h
      have := decFrom_snoc [] 0 0 u h rfl
      simpa using this
    · rename_i h
      have := decFrom_snoc _ 0 _ (u % 10) (Nat.mod_lt _ (by decide)) (ih (u / 10) (by omega))
      rw [this]; congr 1; omega
theorem decDigits_ne (u : Nat) : Lib.decDigits u ≠ [] := by
  intro h
  have := Lib.decDigits_length u
  rw [h] at this
  have := Lib.nDigits_pos u
  simp at *
  omega
theorem decDigits_dig (u : Nat) : ∀ b ∈ Lib.decDigits u, 48 ≤ b.toNat ∧ b.toNat ≤ 57 := by
  induction u using Nat.strongRecOn with
  | _ u ih =>
    intro b hb
    rw [Lib.decDigits] at hb
    split at hb
    · rename_i h
      rw [List.mem_singleton] at hb
      rw [hb, dig_val u h]; omega
    · rcases List.mem_append.1 hb with hb | hb
      · exact ih (u / 10) (by omega) b hb
      · rw [List.mem_singleton] at hb
        have h := Nat.mod_lt u (show 0 < 10 by decide)
        rw [hb, dig_val _ h]; omega
end
section
set_option maxRecDepth 4000
open Go
def magL (s : List UInt8) : List UInt8 := match s with
  | [] => []
  | b :: r => bif b == 45 then r else b :: r
def negL (s : List UInt8) : Bool := match s with
  | [] => false
  | b :: _ => b == 45
def numR (s : List UInt8) : Int × Bool :=
  bif (magL s).isEmpty || decide (10 < (magL s).length) then (0, false) else match Lib.decFrom 0 (magL s) with
    | none => (0, false)
    | some m => (bif negL s then -(m : Int) else (m : Int), itoaL (bif negL s then -(m : Int) else (m : Int)) == s)
def numP (s : List UInt8) : Int × Bool := ((atoiL s).1, ((atoiL s).2 && (itoaL (atoiL s).1 == s)) && decide ((magL s).length ≤ 10))
theorem atoiL_short {s : List UInt8} (h : s.length ≤ 18) : atoiL s = match Lib.atoi s with | some v => (v, true) | none => (0, false) := by
  rw [atoiL, Lib.atoiAll_short s h]
  cases Lib.atoi s <;> rfl
theorem magL_len (s : List UInt8) : s.length ≤ (magL s).length + 1 := by
  cases s with
  | nil => simp
  | cons b r =>
    simp only [magL]
    cases b == 45 <;> simp
theorem itoaL_head (v : Int) : ∃ b r, itoaL v = b :: r ∧ b ≠ 43 := by
  unfold itoaL Lib.itoa
  split
  · exact ⟨45, _, rfl, by decide⟩
  · cases h : Lib.decDigits v.toNat with
    | nil => exact absurd h (decDigits_ne _)
    | cons b r =>
      refine ⟨b, r, rfl, fun e => ?_⟩
      have := decDigits_dig v.toNat b (by simp [h])
      rw [e] at this
      simp at this
theorem num_eq (s : List UInt8) : (numP s).2 = (numR s).2 ∧ ((numR s).2 = true → (numP s).1 = (numR s).1) := by
  by_cases hl : (magL s).length ≤ 10
  · have hs : s.length ≤ 18 := by have := magL_len s; omega
    unfold numP numR
    rw [atoiL_short hs, decide_eq_true hl, Bool.and_true, decide_eq_false (by omega : ¬ 10 < (magL s).length), Bool.or_false]
    cases s with
    | nil => simp [Lib.atoi, magL]
    | cons b r =>
      by_cases hb : b = 45
      · subst hb
        simp only [Lib.atoi, magL, negL, beq_self_eq_true, cond_true, if_true]
        cases r with
        | nil => simp [Lib.decNat]
        | cons c r =>
          simp only [Lib.decNat, List.isEmpty_cons, Bool.false_eq_true, if_false, cond_false]
          cases Lib.decFrom 0 (c :: r) <;> simp
      · have h1 : (b == 45) = false := by simp [hb]
        simp only [Lib.atoi, magL, negL, h1, cond_false, List.isEmpty_cons]
        by_cases hc : b = 43
        · subst hc
          have hd : Lib.decFrom 0 (43 :: r) = none := by
            rw [Lib.decFrom]; rfl
          rw [hd]
          simp only [Bool.false_eq_true, if_false]
          refine ⟨?_, fun h => by cases h⟩
          cases hq : Lib.decNat r with
          | none => simp
          | some m =>
            simp only [beq_self_eq_true, if_true, Option.map_some, Bool.true_and]
            obtain ⟨b, r', e, hne⟩ := itoaL_head (m : Int)
            rw [e]
            simp [hne]
        · have h2 : (b == 43) = false := by simp [hc]
          simp only [h2, Bool.false_eq_true, if_false, Lib.decNat, List.isEmpty_cons]
          cases Lib.decFrom 0 (b :: r) <;> simp
  · unfold numP numR
    rw [decide_eq_false hl, Bool.and_false, decide_eq_true (by omega : 10 < (magL s).length), Bool.or_true, cond_true]
    exact ⟨rfl, fun h => by cases h⟩
theorem itoaL_mag (v : Int) : magL (itoaL v) = Lib.decDigits v.natAbs ∧ negL (itoaL v) = decide (v < 0) := by
  unfold itoaL Lib.itoa
  split
  · rename_i h
    exact ⟨rfl, by simp [negL, h]⟩
  · rename_i h
    have e : v.toNat = v.natAbs := by omega
    rw [e]
    cases hd : Lib.decDigits v.natAbs with
    | nil => exact absurd hd (decDigits_ne _)
    | cons b r =>
      have := decDigits_dig v.natAbs b (by simp [hd])
      have hb : (b == 45) = false := by
        simp
        rintro rfl
        simp at this
      simp [magL, negL, hb, h]
theorem nDigits_le10 {u : Nat} (h : u < 10000000000) : Lib.nDigits u ≤ 10 := by
  rcases Nat.lt_or_ge u 1 with h0 | h0
  · have : u = 0 := by omega
    subst this
    rw [Lib.nDigits_small (by decide)]; omega
  · have h1 := Lib.nDigits_pos u
    have h2 := Lib.lt_pow_nDigits u
    rcases Nat.lt_or_ge (Lib.nDigits u) 11 with h3 | h3
    · omega
    ·
      have key : ∀ k u, 1 ≤ u → Lib.nDigits u = k + 1 → 10 ^ k ≤ u := by
        intro k
        induction k with
        | zero => intro u hu _; simpa using hu
        | succ k ih =>
          intro u hu hk
          rcases Nat.lt_or_ge u 10 with h | h
          · rw [Lib.nDigits_small h] at hk; omega
          · rw [Lib.nDigits_big (by omega)] at hk
            have := ih (u / 10) (by omega) (by omega)
            rw [Nat.pow_succ]
            omega
      have := key (Lib.nDigits u - 1) u h0 (by omega)
      have hp : 10 ^ 10 ≤ 10 ^ (Lib.nDigits u - 1) := Nat.pow_le_pow_right (by decide) (by omega)
      omega
theorem num_itoa {v : Int} (h : v.natAbs < 10000000000) : numR (itoaL v) = (v, true) := by
  obtain ⟨h1, h2⟩ := itoaL_mag v
  unfold numR
  rw [h1, h2]
  have h3 := decDigits_ne v.natAbs
  have h4 : (Lib.decDigits v.natAbs).length ≤ 10 := by rw [Lib.decDigits_length]; exact nDigits_le10 h
  have h5 : (Lib.decDigits v.natAbs).isEmpty = false := by
    cases hd : Lib.decDigits v.natAbs with
    | nil => exact absurd hd h3
    | cons _ _ => rfl
  rw [h5, decide_eq_false (by omega), Bool.or_false, cond_false, decFrom_digits]
  have e : (bif decide (v < 0) then -((v.natAbs : Nat) : Int) else ((v.natAbs : Nat) : Int)) = v := by
    by_cases hv : v < 0
    · rw [decide_eq_true hv, cond_true]; omega
    · rw [decide_eq_false hv, cond_false]; omega
  simp only [e]
  simp
theorem num_true {s : List UInt8} (h : (numR s).2 = true) : s = itoaL (numR s).1 ∧ (numR s).1.natAbs < 10000000000 := by
  unfold numR at h ⊢
  cases hc : (magL s).isEmpty || decide (10 < (magL s).length) with
  | true => rw [hc] at h; cases h
  | false =>
    rw [hc] at h
    rw [Bool.or_eq_false_iff, decide_eq_false_iff_not] at hc
    simp only [cond_false] at h ⊢
    cases hd : Lib.decFrom 0 (magL s) with
    | none => rw [hd] at h; cases h
    | some m =>
      rw [hd] at h
      simp only at h ⊢
      refine ⟨(beq_iff_eq.1 h).symm, ?_⟩
      have h1 := Lib.decFrom_lt _ _ _ hd
      have h2 : 10 ^ (magL s).length ≤ 10 ^ 10 := Nat.pow_le_pow_right (by decide) (by omega)
      have h3 : m < 10000000000 := by
        have : (0 + 1) * 10 ^ (magL s).length ≤ 10000000000 := by omega
        omega
      cases negL s <;> simp <;> omega
end
section
set_option maxRecDepth 4000
open Go
variable {n : Nat}
theorem Abs_eq {x : Int} (h : inI (-x) = true) : agraffebase_Abs n x = some ((x.natAbs : Nat) : Int) := by
  rw [agraffebase_Abs]
  by_cases hx : x < 0
  · rw [decide_eq_true hx, cond_true, h, chk_t]; congr 1; omega
  · rw [decide_eq_false hx, cond_false]; congr 1; omega
theorem dec_step {v : Int} (h : v ≠ 0) (acc : Str) : ([UInt8.ofNat (Int.toNat (IntKind.u8.wrap (48 + ((Int.tmod v 10).natAbs : Int))))] : Str) ++ acc = UInt8.ofNat (48 + v.natAbs % 10) :: acc := by
  have e : (Int.tmod v 10).natAbs = v.natAbs % 10 := by rw [Int.natAbs_tmod]; rfl
  have hlt : v.natAbs % 10 < 10 := Nat.mod_lt _ (by decide)
  have w : IntKind.u8.wrap (48 + ((v.natAbs % 10 : Nat) : Int)) = ((48 + v.natAbs % 10 : Nat) : Int) := by
    have e2 : (48 + ((v.natAbs % 10 : Nat) : Int)) = ((48 + v.natAbs % 10 : Nat) : Int) := by omega
    rw [e2]
    unfold IntKind.wrap
    simp [IntKind.bits, IntKind.signed]
    omega
  rw [e, w, Int.toNat_natCast]
  rfl
theorem Decimal_loop (k : Str → Option Str) : ∀ (f : Nat) (acc : Str) (v : Int), v.natAbs < 10 ^ f → acc.length + f ≤ 100000 → inI v = true →
    loopN (agraffebase_Decimal_L1 n k) (f + 1) (acc, v) = k (if v = 0 then acc else Lib.decDigits v.natAbs ++ acc)
  | f, acc, v, h1, h2, h3 => by
    have hr : -9223372036854775808 ≤ v ∧ v ≤ 9223372036854775807 := by simpa [inI] using h3
    rw [loopN_s, agraffebase_Decimal_L1]
    by_cases hv : v = 0
    · subst hv
      simp
    · have e : (v.tmod 10).natAbs = v.natAbs % 10 := by rw [Int.natAbs_tmod]; rfl
      have hlt : v.natAbs % 10 < 10 := Nat.mod_lt _ (by decide)
      have hd : (v.tdiv 10).natAbs = v.natAbs / 10 := by rw [Int.natAbs_tdiv]; rfl
      have i1 : inI (-(v.tmod 10)) = true := inI_of (by omega) (by omega)
      have i2 : inI (v.tdiv 10) = true := inI_of (by omega) (by omega)
      rw [bne_t hv, cond_true]
      simp only [Abs_eq i1, Option.bind_some]
      rw [dec_step hv acc, if_neg hv]
      have i3 : inI (48 + ((v.tmod 10).natAbs : Int)) = true := inI_of (by omega) (by omega)
      have hf : 1 ≤ f := by
        rcases Nat.eq_zero_or_pos f with rfl | h
        · simp at h1; omega
        · exact h
      obtain ⟨g, rfl⟩ : ∃ g, f = g + 1 := ⟨f - 1, by omega⟩
      simp only [i3, i2, nI_of (by simp; omega : (UInt8.ofNat (48 + v.natAbs % 10) :: acc).length ≤ 9223372036854775807), chk_t, bne_self_eq_false, Bool.and_true]
      have hp : (v.tdiv 10).natAbs < 10 ^ g := by
        rw [hd, Nat.div_lt_iff_lt_mul (by decide)]
        rwa [Nat.pow_succ] at h1
      have ih := Decimal_loop k g (UInt8.ofNat (48 + v.natAbs % 10) :: acc) (v.tdiv 10) hp (by simp; omega) i2
      have h10n : ((10 : Nat) != 0) = true := rfl
      rw [h10n, chk_t, chk_t]
      rw [ih, hd]
      congr 1
      by_cases hz : v.tdiv 10 = 0
      · rw [if_pos hz]
        have : v.natAbs / 10 = 0 := by rw [← hd, hz]; rfl
        have h10 : v.natAbs < 10 := by omega
        rw [Lib.decDigits_one h10, Nat.mod_eq_of_lt h10]; rfl
      · rw [if_neg hz]
        have h10 : ¬ v.natAbs < 10 := fun h => hz (by
          have : (v.tdiv 10).natAbs = 0 := by rw [hd]; omega
          omega)
        conv => rhs; rw [Lib.decDigits, dif_neg h10]
        simp
theorem Decimal_eq {v : Int} (h : inI v = true) (hn : 100 ≤ n) (hn2 : n ≤ 90000) : agraffebase_Decimal n v = some (itoaL v) := by
  have hr : -9223372036854775808 ≤ v ∧ v ≤ 9223372036854775807 := by simpa [inI] using h
  rw [agraffebase_Decimal]
  by_cases hv : v = 0
  · subst hv
    have : itoaL 0 = [48] := by
      unfold itoaL Lib.itoa
      rw [if_neg (by decide)]
      exact Lib.decDigits_one (by decide)
    rw [this]; rfl
  · have hb : (v == 0) = false := by simp [hv]
    rw [hb, cond_false, withK_eq]
    obtain ⟨f, rfl⟩ : ∃ f, n = f + 1 := ⟨n - 1, by omega⟩
    have hp : v.natAbs < 10 ^ f := by
      have h1 : 10 ^ 20 ≤ 10 ^ f := Nat.pow_le_pow_right (by decide) (by omega)
      omega
    rw [Decimal_loop _ f [] v hp (by simp; omega) h, if_neg hv, List.append_nil]
    have hl := Lib.itoa_length_le v hr.1 hr.2
    unfold itoaL
    unfold Lib.itoa at hl ⊢
    by_cases hneg : v < 0
    · rw [if_pos hneg] at hl ⊢
      rw [decide_eq_true hneg, cond_true, nI_of (by simpa using (by simp at hl; omega : (Lib.decDigits v.natAbs).length + 1 ≤ 9223372036854775807)), chk_t]
      rfl
    · rw [if_neg hneg, decide_eq_false hneg, cond_false]
      have : v.toNat = v.natAbs := by omega
      rw [this]
end
section
set_option maxRecDepth 4000
open Go
variable {n : Nat}
theorem u8_sub {b : Nat} (h1 : 48 ≤ b) (h2 : b ≤ 57) : IntKind.u8.wrap (((b : Nat) : Int) - 48) = ((b - 48 : Nat) : Int) := by
  unfold IntKind.wrap
  simp [IntKind.bits, IntKind.signed]
  omega
theorem Number_loop (s : Str) (hs : s.length ≤ 100) (k : Int → Option (Int × Bool)) : ∀ (m j f acc e : Nat), j + m = s.length → m < f → acc < 10 ^ e → e + m ≤ 12 →
    loopN (agraffebase_Number_L1 n s k) f ((acc : Int), (j : Int)) = match Lib.decFrom acc (s.drop j) with | none => some (0, false) | some q => k (q : Int)
  | 0, j, f, acc, e, hj, hf, ha, he => by
    obtain ⟨f, rfl⟩ : ∃ q, f = q + 1 := ⟨f - 1, by omega⟩
    rw [loopN_s, agraffebase_Number_L1, decide_eq_false (by omega : ¬ ((j : Nat) : Int) < ((s.length : Nat) : Int)), List.drop_eq_nil_of_le (by omega)]
    rfl
  | m + 1, j, f, acc, e, hj, hf, ha, he => by
    obtain ⟨f, rfl⟩ : ∃ q, f = q + 1 := ⟨f - 1, by omega⟩
    have hlt : j < s.length := by omega
    have hd : s.drop j = s[j] :: s.drop (j + 1) := List.drop_eq_getElem_cons hlt
    have hg : List.getD s ((j : Nat) : Int).toNat 0 = s[j] := by simp [List.getD, hlt]
    have hib : inB ((j : Nat) : Int) s.length = true := inB_of (by omega) (by omega)
    have hp : (10 : Nat) ^ e ≤ 10 ^ 11 := Nat.pow_le_pow_right (by decide) (by omega)
    rw [loopN_s, agraffebase_Number_L1, decide_eq_true (by omega : ((j : Nat) : Int) < ((s.length : Nat) : Int)), hg, hd, Lib.decFrom]
    simp only [cond_true, hib, chk_t, agraffebase_isDigit, Option.bind_some]
    by_cases hb : 48 ≤ s[j].toNat ∧ s[j].toNat ≤ 57
    · have hv : Lib.digitVal s[j] = some (s[j].toNat - 48) := by rw [Lib.digitVal, if_pos hb]
      rw [hv, u8_sub hb.1 hb.2]
      have c1 : decide ((48 : Int) ≤ ((s[j].toNat : Nat) : Int)) = true := decide_eq_true (by omega)
      have c2 : decide (((s[j].toNat : Nat) : Int) ≤ (57 : Int)) = true := decide_eq_true (by omega)
      have i1 : inI (10 * ((acc : Nat) : Int)) = true := inI_of (by omega) (by omega)
      have i2 : inI ((s[j].toNat - 48 : Nat) : Int) = true := inI_of (by omega) (by omega)
      have i3 : inI (10 * ((acc : Nat) : Int) + ((s[j].toNat - 48 : Nat) : Int)) = true := inI_of (by omega) (by omega)
      have i4 : inI (((j : Nat) : Int) + 1) = true := inI_of (by omega) (by omega)
      simp only [c1, c2, Bool.and_self, Bool.not_true, cond_false, i1, i2, i3, i4, chk_t]
      have e1 : 10 * ((acc : Nat) : Int) + ((s[j].toNat - 48 : Nat) : Int) = ((acc * 10 + (s[j].toNat - 48) : Nat) : Int) := by omega
      have e2 : ((j : Nat) : Int) + 1 = ((j + 1 : Nat) : Int) := by omega
      rw [e1, e2]
      exact Number_loop s hs k m (j + 1) f (acc * 10 + (s[j].toNat - 48)) (e + 1) (by omega) (by omega) (by rw [Nat.pow_succ]; omega) (by omega)
    · have hv : Lib.digitVal s[j] = none := by rw [Lib.digitVal, if_neg hb]
      rw [hv]
      have : ((decide ((48 : Int) ≤ ((s[j].toNat : Nat) : Int))) && (decide (((s[j].toNat : Nat) : Int) ≤ (57 : Int)))) = false := by
        rw [Bool.and_eq_false_iff]
        by_cases h : 48 ≤ s[j].toNat
        · exact .inr (decide_eq_false (by omega))
        · exact .inl (decide_eq_false (by omega))
      rw [this]
      rfl
theorem Number_eq (s : Str) (hn : 200 ≤ n) (hn2 : n ≤ 90000) (hl : s.length ≤ 9223372036854775000) : agraffebase_Number n s 10 = some (numR s) := by
  have key : ∀ (b : Bool) (j : Nat), (bif b then 1 else 0) = j → negL s = b → s.drop j = magL s → j ≤ s.length →
      (chk (!(!(((s.length : Nat) : Int) == (j : Int))) || inI ((j : Int) + 10)) <|
      bif ((((s.length : Nat) : Int) == (j : Int)) || (decide (((j : Int) + 10) < ((s.length : Nat) : Int)))) || (decide ((18 : Int) < 10)) then
        some (0, false)
      else
        loopN (agraffebase_Number_L1 n s fun v6 => bif ((j : Int) == (1 : Int)) then chk (inI (-v6)) <| (agraffebase_Decimal n (-v6)).bind fun y8 => some (-v6, (y8 == s)) else (agraffebase_Decimal n v6).bind fun y8 => some (v6, (y8 == s))) n (0, (j : Int))) = some (numR s) := by
    intro b j hj hneg hm hle
    have hj1 : j ≤ 1 := by cases b <;> simp at hj <;> omega
    have hlen : (magL s).length = s.length - j := by rw [← hm]; simp
    have i1 : inI ((j : Int) + 10) = true := inI_of (by omega) (by omega)
    rw [i1, Bool.or_true, chk_t, numR]
    have e0 : (magL s).isEmpty = (((s.length : Nat) : Int) == (j : Int)) := by
      by_cases h : s.length = j
      · have : magL s = [] := List.eq_nil_of_length_eq_zero (by omega)
        rw [this, h]; simp
      · have h1 : magL s ≠ [] := fun e => by rw [e] at hlen; simp at hlen; omega
        have h2 : (((s.length : Nat) : Int) == (j : Int)) = false := by simp; omega
        rw [h2]
        cases hm2 : magL s with
        | nil => exact absurd hm2 h1
        | cons _ _ => rfl
    have e1 : decide (10 < (magL s).length) = decide (((j : Int) + 10) < ((s.length : Nat) : Int)) := by
      rw [hlen]
      by_cases h : 10 < s.length - j
      · rw [decide_eq_true h, decide_eq_true (by omega)]
      · rw [decide_eq_false h, decide_eq_false (by omega)]
    rw [e0, e1, decide_eq_false (by decide : ¬ (18 : Int) < 10), Bool.or_false]
    cases hc : ((((s.length : Nat) : Int) == (j : Int)) || (decide (((j : Int) + 10) < ((s.length : Nat) : Int)))) with
    | true => rfl
    | false =>
      rw [Bool.or_eq_false_iff, decide_eq_false_iff_not] at hc
      simp only [cond_false]
      have hlp := Number_loop (n := n) s (by omega) (fun v6 => bif ((j : Int) == (1 : Int)) then chk (inI (-v6)) <| (agraffebase_Decimal n (-v6)).bind fun y8 => some (-v6, (y8 == s)) else (agraffebase_Decimal n v6).bind fun y8 => some (v6, (y8 == s)))
        (s.length - j) j n 0 0 (by omega) (by omega) (by decide) (by omega)
      rw [hm] at hlp
      refine hlp.trans ?_
      cases hd : Lib.decFrom 0 (magL s) with
      | none => rfl
      | some m =>
        simp only
        have h1 := Lib.decFrom_lt _ _ _ hd
        have h2 : 10 ^ (magL s).length ≤ 10 ^ 10 := Nat.pow_le_pow_right (by decide) (by omega)
        have h3 : m < 10000000000 := by
          have : (0 + 1) * 10 ^ (magL s).length ≤ 10000000000 := by omega
          omega
        rw [hneg]
        cases b with
        | true =>
          have : j = 1 := hj.symm
          subst this
          have i2 : inI (-((m : Nat) : Int)) = true := inI_of (by omega) (by omega)
          have e3 : (((1 : Nat) : Int) == (1 : Int)) = true := by decide
          simp only [e3, cond_true, i2, chk_t, Decimal_eq i2 (by omega : 100 ≤ n) hn2, Option.bind_some]
        | false =>
          have : j = 0 := hj.symm
          subst this
          have i2 : inI ((m : Nat) : Int) = true := inI_of (by omega) (by omega)
          have e3 : (((0 : Nat) : Int) == (1 : Int)) = false := by decide
          simp only [e3, cond_false, Decimal_eq i2 (by omega : 100 ≤ n) hn2, Option.bind_some]
  rw [agraffebase_Number]
  simp only [withK_eq]
  cases s with
  | nil => exact key false 0 rfl rfl rfl (by simp)
  | cons b r =>
    by_cases hb : b = 45
    · subst hb
      exact key true 1 rfl (by simp [negL]) (by simp [magL]) (by simp)
    · have h1 : (b == 45) = false := by simp [hb]
      have h2 : ((((List.getD (b :: r) 0 0).toNat : Nat) : Int) == (45 : Int)) = false := by
        simp only [List.getD_cons_zero, beq_eq_false_iff_ne, ne_eq]
        intro e
        have : b.toNat = 45 := by omega
        exact hb (UInt8.toNat.inj this)
      rw [h2, Bool.and_false, cond_false]
      exact key false 0 rfl (by simp [negL, h1]) (by simp [magL, h1]) (by simp)
theorem number_eq (s : Str) (hl : s.length ≤ 281474976710656) : diary_number n s = some (numP s) := by
  have hat : strconv_Atoi n s = some (atoiL s) := by
    rw [strconv_Atoi, Nat.ble_eq_true_of_le hl, chk_t]
  have hin : (atoiL s).2 = true → inI (atoiL s).1 = true := by
    intro h
    unfold atoiL at h ⊢
    cases hs : Lib.atoiAll s with
    | ok v => have := Lib.atoiAll_bounds hs; exact inI_of this.1 this.2
    | range => rw [hs] at h; cases h
    | _ => rw [hs] at h; cases h
  have htr : strings_TrimPrefix n s ([45] : Str) = some (magL s) := by
    rw [strings_TrimPrefix, internal_stringslite_TrimPrefix, internal_stringslite_HasPrefix]
    cases s with
    | nil => rfl
    | cons b r =>
      show ((bif (decide (1 ≤ r.length + 1) && (([b] : Str) == [45])) then chk (decide (1 ≤ r.length + 1)) (some r) else some (b :: r)).bind fun y1 => some y1) = some (bif b == 45 then r else b :: r)
      rw [decide_eq_true (by omega : 1 ≤ r.length + 1)]
      by_cases hb : b = 45
      · subst hb; rfl
      · have h1 : (b == 45) = false := by simp [hb]
        have h2 : (([b] : Str) == [45]) = false := by simp [hb]
        rw [h1, h2]; rfl
  rw [diary_number, hat, numP]
  simp only [Option.bind_some]
  cases h : (atoiL s).2 with
  | false => rfl
  | true =>
    simp only [gcall, cond_true, strconv_Itoa, hin h, chk_t, Option.bind_some, Bool.true_and]
    cases h2 : itoaL (atoiL s).1 == s with
    | false => rfl
    | true => simp only [cond_true, htr, Option.bind_some]
theorem Cut_loop (s : Str) (hs : s.length ≤ 100000) (c : UInt8) (k : List Str → Option (List Str)) : ∀ (m i f : Nat) (out : List Str) (frm : Nat), i + m = s.length → m + 2 ≤ f → frm ≤ i → out.length ≤ i → c ∉ (s.drop frm).take (i - frm) →
    loopN (agraffebase_Cut_L1 s (c.toNat : Int) k) f (out, frm, i) = k (out ++ splitL c (s.drop frm))
  | m, i, f, out, frm, hi, hf, hfr, ho, hc => by
    obtain ⟨f, rfl⟩ : ∃ q, f = q + 1 := ⟨f - 1, by omega⟩
    have hnI : nI (i + 1) = true := nI_of (by omega)
    have hroom : ∀ x : Str, room 16 (out ++ ([x] : List Str)).length = true := fun x => room_of (by simp; omega) (by simp; omega)
    rw [loopN_s, agraffebase_Cut_L1, decide_eq_true (by omega : i ≤ s.length), cond_true, withK_eq]
    by_cases he : i = s.length
    · have hend : loopN (agraffebase_Cut_L1 s (c.toNat : Int) k) f (out ++ [(s.drop frm).take (i - frm)], i + 1, i + 1) = k (out ++ [(s.drop frm).take (i - frm)]) := by
        obtain ⟨f, rfl⟩ : ∃ q, f = q + 1 := ⟨f - 1, by omega⟩
        rw [loopN_s, agraffebase_Cut_L1, decide_eq_false (by omega : ¬ i + 1 ≤ s.length)]; rfl
      rw [decide_eq_true he]
      simp only [Bool.not_true, Bool.not_false, Bool.true_or, Bool.or_true, chk_t, cond_true, hroom, hnI, decide_eq_true hfr, hend]
      have ht : (s.drop frm).take (i - frm) = s.drop frm := List.take_of_length_le (by simp; omega)
      rw [ht] at hc ⊢
      rw [split_one c _ hc]
    · have hlt : i < s.length := by omega
      obtain ⟨m, rfl⟩ : ∃ q, m = q + 1 := ⟨m - 1, by omega⟩
      have hg : List.getD s i 0 = s[i] := by simp [List.getD, hlt]
      have hcut : s.drop frm = (s.drop frm).take (i - frm) ++ s[i] :: s.drop (i + 1) := by
        have h1 := (List.take_append_drop (i - frm) (s.drop frm)).symm
        rw [List.drop_drop, Nat.add_sub_cancel' hfr] at h1
        rw [← List.drop_eq_getElem_cons hlt]; exact h1
      rw [decide_eq_false he, decide_eq_true hlt, hg]
      simp only [Bool.not_true, Bool.not_false, Bool.false_or, Bool.or_true, chk_t]
      by_cases hb : s[i] = c
      · have h1 : ((((s[i]).toNat : Nat) : Int) == (c.toNat : Int)) = true := by rw [hb]; simp
        rw [h1]
        simp only [cond_true, hroom, hnI, chk_t, decide_eq_true hfr]
        rw [Cut_loop s hs c k m (i + 1) f _ (i + 1) (by omega) (by omega) (Nat.le_refl _) (by simp; omega) (by simp)]
        congr 1
        conv => rhs; rw [hcut, hb, split_app c _ _ hc]
        simp
      · have h1 : ((((s[i]).toNat : Nat) : Int) == (c.toNat : Int)) = false := by
          simp only [beq_eq_false_iff_ne, ne_eq]
          intro e
          exact hb (UInt8.toNat.inj (by omega))
        rw [h1]
        simp only [cond_false, hnI, chk_t]
        refine Cut_loop s hs c k m (i + 1) f out frm (by omega) (by omega) (by omega) (by omega) ?_
        have e : (s.drop frm).take (i + 1 - frm) = (s.drop frm).take (i - frm) ++ [s[i]] := by
          have h2 : i + 1 - frm = (i - frm) + 1 := by omega
          rw [h2, List.take_succ_eq_append_getElem (by simp; omega)]
          congr 2
          simp only [List.getElem_drop]
          congr 1; omega
        rw [e]
        intro hm
        rcases List.mem_append.1 hm with h | h
        · exact hc h
        · rw [List.mem_singleton] at h; exact hb h.symm
theorem Cut_eq (s : Str) (hs : s.length ≤ 1000) (hn : 1100 ≤ n) : agraffebase_Cut n s 32 = some (splitL 32 s) := by
  rw [agraffebase_Cut, withK_eq]
  have := Cut_loop s (by omega) 32 (fun v8 => some v8) s.length 0 n [] 0 (by omega) (by omega) (Nat.le_refl _) (by simp) (by simp)
  simpa using this
end
section
set_option maxRecDepth 4000
open Go
variable {n : Nat}
def known (k : Int) : Bool := (decide (0 ≤ k)) && (decide (k ≤ 3))
def kindW (k : Int) : Str := bif known k then ix gKinds k.toNat else itoaL k
def whoW (x : Item) : List Str := bif (!known x.Kind || (x.Kind == (0 : Int))) || (x.Kind == (3 : Int)) then [x.Who] else []
def depW (x : Item) : List Str := bif !known x.Kind || (x.Kind == (3 : Int)) then [itoaL x.Deposit] else []
def wordsI (x : Item) : List Str := [kindW x.Kind, itoaL x.From, itoaL x.To, x.Grand, x.Place] ++ whoW x ++ depW x
def fmtL (x : Item) : Str := joinL (wordsI x) [32]
structure OkT (x : Item) : Prop where
  k : inI x.Kind = true
  f : inI x.From = true
  t : inI x.To = true
  d : inI x.Deposit = true
  g : x.Grand.length ≤ 1000
  p : x.Place.length ≤ 1000
  w : x.Who.length ≤ 1000
theorem itoa_len {v : Int} (h : inI v = true) : (itoaL v).length ≤ 21 := by
  have hr : -9223372036854775808 ≤ v ∧ v ≤ 9223372036854775807 := by simpa [inI] using h
  exact Lib.itoa_length_le v hr.1 hr.2
theorem joinL_len (c : UInt8) (B : Nat) : ∀ l : List Str, (∀ x ∈ l, x.length ≤ B) → (joinL l [c]).length ≤ l.length * (B + 1)
  | [], _ => by rw [joinL, Lib.join_nil]; simp
  | [x], h => by rw [joinL_one]; have := h x (by simp); simp; omega
  | x :: y :: r, h => by
    have ih := joinL_len c B (y :: r) (fun z hz => h z (by simp [hz]))
    have h1 := h x (by simp)
    rw [joinL_cons]
    simp only [List.length_append, List.length_cons, List.length_nil] at ih ⊢
    rw [Nat.add_mul] at ih ⊢
    rw [Nat.add_mul]
    omega
theorem kindW_len {k : Int} (h : inI k = true) : (kindW k).length ≤ 21 := by
  unfold kindW known
  cases hk : (decide (0 ≤ k)) && (decide (k ≤ 3)) with
  | false => exact itoa_len h
  | true =>
    simp only [Bool.and_eq_true, decide_eq_true_eq] at hk
    have : k = 0 ∨ k = 1 ∨ k = 2 ∨ k = 3 := by omega
    rcases this with rfl | rfl | rfl | rfl <;> decide
theorem itoa_ok {v : Int} (h : inI v = true) : strconv_Itoa n v = some (itoaL v) := by rw [strconv_Itoa, h, chk_t]
theorem join_ok (l : List Str) (h : l.length ≤ 10) (hx : ∀ x ∈ l, x.length ≤ 1000) : strings_Join n l [32] = some (joinL l [32]) := by
  have h1 := joinL_len 32 1000 l hx
  have h2 : l.length * (1000 + 1) ≤ 10 * (1000 + 1) := Nat.mul_le_mul_right _ h
  rw [strings_Join, Nat.ble_eq_true_of_le (by omega), Nat.ble_eq_true_of_le (by omega), chk_t, chk_t]
theorem Format_prog (x : Item) (h : OkT x) : diary_FormatItem n x = some (fmtL x) := by
  have hk : (bif known x.Kind then chk (inB x.Kind 4) <| chk (decide (x.Kind.toNat < 4)) <| some (ix gKinds x.Kind.toNat) else some (itoaL x.Kind)) = some (kindW x.Kind) := by
    unfold kindW
    cases hc : known x.Kind with
    | false => rfl
    | true =>
      simp only [known, Bool.and_eq_true, decide_eq_true_eq] at hc
      rw [cond_true, cond_true, inB_of hc.1 (by omega), decide_eq_true (by omega : x.Kind.toNat < 4), chk_t, chk_t]
  have key : diary_FormatItem n x = (bif known x.Kind then chk (inB x.Kind 4) <| chk (decide (x.Kind.toNat < 4)) <| some (ix gKinds x.Kind.toNat) else some (itoaL x.Kind)).bind fun v3 =>
      strings_Join n ([v3, itoaL x.From, itoaL x.To, x.Grand, x.Place] ++ whoW x ++ depW x) [32] := by
    rw [diary_FormatItem]
    simp only [itoa_ok h.k, itoa_ok h.f, itoa_ok h.t, itoa_ok h.d, Option.bind_some, withK_eq, diary_within]
    have tail : ∀ v3 : Str, (bif ((!((decide (0 ≤ x.Kind)) && (decide (x.Kind ≤ 3)))) || (x.Kind == (0 : Int))) || (x.Kind == (3 : Int)) then
        chk (room 16 (([v3, itoaL x.From, itoaL x.To, x.Grand, x.Place] : List Str) ++ ([x.Who] : List Str)).length) <|
        (bif (!((decide (0 ≤ x.Kind)) && (decide (x.Kind ≤ 3)))) || (x.Kind == (3 : Int)) then
            chk (room 16 ((([v3, itoaL x.From, itoaL x.To, x.Grand, x.Place] : List Str) ++ ([x.Who] : List Str)) ++ ([itoaL x.Deposit] : List Str)).length) <|
            (strings_Join n ((([v3, itoaL x.From, itoaL x.To, x.Grand, x.Place] : List Str) ++ ([x.Who] : List Str)) ++ ([itoaL x.Deposit] : List Str)) ([32] : Str)).bind fun y9 => some y9
          else (strings_Join n (([v3, itoaL x.From, itoaL x.To, x.Grand, x.Place] : List Str) ++ ([x.Who] : List Str)) ([32] : Str)).bind fun y9 => some y9)
      else
        (bif (!((decide (0 ≤ x.Kind)) && (decide (x.Kind ≤ 3)))) || (x.Kind == (3 : Int)) then
            chk (room 16 (([v3, itoaL x.From, itoaL x.To, x.Grand, x.Place] : List Str) ++ ([itoaL x.Deposit] : List Str)).length) <|
            (strings_Join n (([v3, itoaL x.From, itoaL x.To, x.Grand, x.Place] : List Str) ++ ([itoaL x.Deposit] : List Str)) ([32] : Str)).bind fun y9 => some y9
          else (strings_Join n ([v3, itoaL x.From, itoaL x.To, x.Grand, x.Place] : List Str) ([32] : Str)).bind fun y9 => some y9))
        = strings_Join n ([v3, itoaL x.From, itoaL x.To, x.Grand, x.Place] ++ whoW x ++ depW x) [32] := by
      intro v3
      have r : ∀ q, q ≤ 10 → room 16 q = true := fun q hq => room_of (by omega) (by omega)
      have eb : ∀ o : Option Str, (o.bind fun y9 => some y9) = o := fun o => by cases o <;> rfl
      unfold whoW depW known
      cases ((decide (0 ≤ x.Kind)) && (decide (x.Kind ≤ 3))) <;> cases (x.Kind == (0 : Int)) <;> cases (x.Kind == (3 : Int)) <;> simp [eb, r, chk_t]
    cases hc : known x.Kind with
    | false =>
      have hc' : ((decide (0 ≤ x.Kind)) && (decide (x.Kind ≤ 3))) = false := hc
      rw [hc', cond_false, cond_false, Option.bind_some, ← hc']
      exact tail _
    | true =>
      have hc' : ((decide (0 ≤ x.Kind)) && (decide (x.Kind ≤ 3))) = true := hc
      rw [hc', cond_true, cond_true]
      cases inB x.Kind 4 with
      | false => rfl
      | true =>
        cases decide (x.Kind.toNat < 4) with
        | false => rfl
        | true =>
          rw [chk_t, chk_t, chk_t, chk_t, Option.bind_some, ← hc']
          exact tail _
  rw [key, hk, Option.bind_some]
  show strings_Join n (wordsI x) [32] = _
  refine join_ok _ ?_ fun y hy => ?_
  · unfold wordsI whoW depW
    cases known x.Kind <;> cases (x.Kind == (0 : Int)) <;> cases (x.Kind == (3 : Int)) <;> simp
  · have h1 := kindW_len h.k
    have h2 := itoa_len h.f
    have h3 := itoa_len h.t
    have h4 := itoa_len h.d
    have h5 := h.g
    have h6 := h.p
    have h7 := h.w
    have hw : ∀ y ∈ whoW x, y = x.Who := by
      unfold whoW
      cases (!known x.Kind || (x.Kind == (0 : Int))) || (x.Kind == (3 : Int)) <;> simp
    have hd : ∀ y ∈ depW x, y = itoaL x.Deposit := by
      unfold depW
      cases !known x.Kind || (x.Kind == (3 : Int)) <;> simp
    unfold wordsI at hy
    rcases List.mem_append.1 hy with hy | hy
    · rcases List.mem_append.1 hy with hy | hy
      · simp only [List.mem_cons, List.not_mem_nil, or_false] at hy
        rcases hy with rfl | rfl | rfl | rfl | rfl <;> omega
      · rw [hw y hy]; omega
    · rw [hd y hy]; omega
end
section
set_option maxRecDepth 4000
open Go
variable {n : Nat}
theorem fmt_tail (a : Str) (b : Str) (c : UInt8) (l : List Str) (h : l ≠ []) : joinL (l ++ [b]) [c] = joinL l [c] ++ [c] ++ b := by
  induction l with
  | nil => exact absurd rfl h
  | cons x r ih =>
    cases r with
    | nil => rw [List.cons_append, List.nil_append, joinL_cons, joinL_one, joinL_one]
    | cons y r =>
      have := ih (by simp)
      rw [List.cons_append, List.cons_append, joinL_cons, joinL_cons]
      rw [List.cons_append] at this
      rw [this]; simp
theorem Format_ref (x : Item) (h : OkT x) (hn : 100 ≤ n) (hn2 : n ≤ 90000) : agrafferef09_FormatItem n x = some (fmtL x) := by
  have h1 := kindW_len h.k
  have h2 := itoa_len h.f
  have h3 := itoa_len h.t
  have h4 := itoa_len h.d
  have h5 := h.g
  have h6 := h.p
  have h7 := h.w
  have hI : ∀ q, q ≤ 10000 → nI q = true := fun q hq => nI_of (by omega)
  have base : ∀ v3 : Str, (((((((v3 ++ ([32] : Str)) ++ itoaL x.From) ++ ([32] : Str)) ++ itoaL x.To) ++ ([32] : Str)) ++ x.Grand) ++ ([32] : Str)) ++ x.Place = joinL [v3, itoaL x.From, itoaL x.To, x.Grand, x.Place] [32] := by
    intro v3
    rw [joinL_cons, joinL_cons, joinL_cons, joinL_cons, joinL_one]
    simp
  have tail : ∀ v3 : Str, v3.length ≤ 21 → (
      chk (nI (v3 ++ ([32] : Str)).length) <|
      chk (nI ((v3 ++ ([32] : Str)) ++ itoaL x.From).length) <|
      chk (nI (((v3 ++ ([32] : Str)) ++ itoaL x.From) ++ ([32] : Str)).length) <|
      chk (nI ((((v3 ++ ([32] : Str)) ++ itoaL x.From) ++ ([32] : Str)) ++ itoaL x.To).length) <|
      chk (nI (((((v3 ++ ([32] : Str)) ++ itoaL x.From) ++ ([32] : Str)) ++ itoaL x.To) ++ ([32] : Str)).length) <|
      chk (nI ((((((v3 ++ ([32] : Str)) ++ itoaL x.From) ++ ([32] : Str)) ++ itoaL x.To) ++ ([32] : Str)) ++ x.Grand).length) <|
      chk (nI (((((((v3 ++ ([32] : Str)) ++ itoaL x.From) ++ ([32] : Str)) ++ itoaL x.To) ++ ([32] : Str)) ++ x.Grand) ++ ([32] : Str)).length) <|
      chk (nI ((((((((v3 ++ ([32] : Str)) ++ itoaL x.From) ++ ([32] : Str)) ++ itoaL x.To) ++ ([32] : Str)) ++ x.Grand) ++ ([32] : Str)) ++ x.Place).length) <|
      (bif ((!((decide (0 ≤ x.Kind)) && (decide (x.Kind ≤ 3)))) || (x.Kind == (0 : Int))) || (x.Kind == (3 : Int)) then
        chk (nI (((((((((v3 ++ ([32] : Str)) ++ itoaL x.From) ++ ([32] : Str)) ++ itoaL x.To) ++ ([32] : Str)) ++ x.Grand) ++ ([32] : Str)) ++ x.Place) ++ ([32] : Str)).length) <|
        chk (nI ((((((((((v3 ++ ([32] : Str)) ++ itoaL x.From) ++ ([32] : Str)) ++ itoaL x.To) ++ ([32] : Str)) ++ x.Grand) ++ ([32] : Str)) ++ x.Place) ++ ([32] : Str)) ++ x.Who).length) <|
        (bif (!((decide (0 ≤ x.Kind)) && (decide (x.Kind ≤ 3)))) || (x.Kind == (3 : Int)) then
            chk (nI (((((((((((v3 ++ ([32] : Str)) ++ itoaL x.From) ++ ([32] : Str)) ++ itoaL x.To) ++ ([32] : Str)) ++ x.Grand) ++ ([32] : Str)) ++ x.Place) ++ ([32] : Str)) ++ x.Who) ++ ([32] : Str)).length) <|
            chk (nI ((((((((((((v3 ++ ([32] : Str)) ++ itoaL x.From) ++ ([32] : Str)) ++ itoaL x.To) ++ ([32] : Str)) ++ x.Grand) ++ ([32] : Str)) ++ x.Place) ++ ([32] : Str)) ++ x.Who) ++ ([32] : Str)) ++ itoaL x.Deposit).length) <|
            some ((((((((((((v3 ++ ([32] : Str)) ++ itoaL x.From) ++ ([32] : Str)) ++ itoaL x.To) ++ ([32] : Str)) ++ x.Grand) ++ ([32] : Str)) ++ x.Place) ++ ([32] : Str)) ++ x.Who) ++ ([32] : Str)) ++ itoaL x.Deposit)
          else some ((((((((((v3 ++ ([32] : Str)) ++ itoaL x.From) ++ ([32] : Str)) ++ itoaL x.To) ++ ([32] : Str)) ++ x.Grand) ++ ([32] : Str)) ++ x.Place) ++ ([32] : Str)) ++ x.Who))
      else
        (bif (!((decide (0 ≤ x.Kind)) && (decide (x.Kind ≤ 3)))) || (x.Kind == (3 : Int)) then
            chk (nI (((((((((v3 ++ ([32] : Str)) ++ itoaL x.From) ++ ([32] : Str)) ++ itoaL x.To) ++ ([32] : Str)) ++ x.Grand) ++ ([32] : Str)) ++ x.Place) ++ ([32] : Str)).length) <|
            chk (nI ((((((((((v3 ++ ([32] : Str)) ++ itoaL x.From) ++ ([32] : Str)) ++ itoaL x.To) ++ ([32] : Str)) ++ x.Grand) ++ ([32] : Str)) ++ x.Place) ++ ([32] : Str)) ++ itoaL x.Deposit).length) <|
            some ((((((((((v3 ++ ([32] : Str)) ++ itoaL x.From) ++ ([32] : Str)) ++ itoaL x.To) ++ ([32] : Str)) ++ x.Grand) ++ ([32] : Str)) ++ x.Place) ++ ([32] : Str)) ++ itoaL x.Deposit)
          else some ((((((((v3 ++ ([32] : Str)) ++ itoaL x.From) ++ ([32] : Str)) ++ itoaL x.To) ++ ([32] : Str)) ++ x.Grand) ++ ([32] : Str)) ++ x.Place))))
      = some (joinL ([v3, itoaL x.From, itoaL x.To, x.Grand, x.Place] ++ whoW x ++ depW x) [32]) := by
    intro v3 hv
    have hb : ∀ (s : Str), s.length ≤ 10000 → nI s.length = true := fun s hs => hI _ hs
    have l2 : ∀ a b : Str, (a ++ b).length = a.length + b.length := fun a b => List.length_append
    have l1 : ([32] : Str).length = 1 := rfl
    rw [hb _ (by rw [l2, l1]; omega), hb _ (by simp only [l2, l1]; omega), hb _ (by simp only [l2, l1]; omega), hb _ (by simp only [l2, l1]; omega), hb _ (by simp only [l2, l1]; omega), hb _ (by simp only [l2, l1]; omega), hb _ (by simp only [l2, l1]; omega), hb _ (by simp only [l2, l1]; omega)]
    simp only [chk_t]
    rw [base v3]
    have hl : (joinL [v3, itoaL x.From, itoaL x.To, x.Grand, x.Place] [32]).length ≤ 3000 := by
      rw [← base v3]; simp only [l2, l1]; omega
    generalize hJ : joinL [v3, itoaL x.From, itoaL x.To, x.Grand, x.Place] [32] = J at hl
    have e1 : ∀ b, joinL ([v3, itoaL x.From, itoaL x.To, x.Grand, x.Place] ++ [b]) [32] = J ++ [32] ++ b := fun b => by rw [fmt_tail [] b 32 _ (by simp), hJ]
    have e2 : ∀ a b, joinL ([v3, itoaL x.From, itoaL x.To, x.Grand, x.Place] ++ [a] ++ [b]) [32] = J ++ [32] ++ a ++ [32] ++ b := fun a b => by rw [fmt_tail [] b 32 _ (by simp), e1]
    have q1 : nI (J ++ ([32] : Str)).length = true := hb _ (by simp only [l2, l1]; omega)
    have q2 : nI (J ++ ([32] : Str) ++ x.Who).length = true := hb _ (by simp only [l2, l1]; omega)
    have q3 : nI (J ++ ([32] : Str) ++ x.Who ++ ([32] : Str)).length = true := hb _ (by simp only [l2, l1]; omega)
    have q4 : nI (J ++ ([32] : Str) ++ x.Who ++ ([32] : Str) ++ itoaL x.Deposit).length = true := hb _ (by simp only [l2, l1]; omega)
    have q5 : nI (J ++ ([32] : Str) ++ itoaL x.Deposit).length = true := hb _ (by simp only [l2, l1]; omega)
    simp only [q1, q2, q3, q4, q5, chk_t]
    unfold whoW depW known
    cases ((decide (0 ≤ x.Kind)) && (decide (x.Kind ≤ 3))) <;> cases (x.Kind == (0 : Int)) <;> cases (x.Kind == (3 : Int)) <;>
      simp only [Bool.not_true, Bool.not_false, Bool.or_self, Bool.or_true, Bool.true_or, Bool.false_or, Bool.or_false, cond_true, cond_false, List.append_nil, e1, e2, hJ]
  rw [agrafferef09_FormatItem]
  simp only [agraffebase_Within, Option.bind_some, Decimal_eq h.k hn hn2, Decimal_eq h.f hn hn2, Decimal_eq h.t hn hn2, Decimal_eq h.d hn hn2, withK_eq]
  have key : ∀ v3, kindW x.Kind = v3 → some (joinL ([v3, itoaL x.From, itoaL x.To, x.Grand, x.Place] ++ whoW x ++ depW x) [32]) = some (fmtL x) := fun v3 e => by rw [← e]; rfl
  cases hc : ((decide (0 ≤ x.Kind)) && (decide (x.Kind ≤ 3))) with
  | false =>
    have e : kindW x.Kind = itoaL x.Kind := by
      have : known x.Kind = false := hc
      unfold kindW; rw [this]; rfl
    rw [cond_false, ← key _ e, ← hc]
    exact tail _ (by rw [← e]; exact h1)
  | true =>
    have hk : known x.Kind = true := hc
    have e : kindW x.Kind = ix gKinds x.Kind.toNat := by unfold kindW; rw [hk]; rfl
    simp only [Bool.and_eq_true, decide_eq_true_eq] at hc
    have h10 : inB x.Kind 4 = true := inB_of hc.1 (by omega)
    rw [cond_true, h10, chk_t]
    have h11 : decide (x.Kind.toNat < ([([116, 117, 110, 105, 110, 103] : Str), ([109, 111, 118, 101] : Str), ([99, 111, 110, 99, 101, 114, 116] : Str), ([114, 101, 110, 116, 97, 108] : Str)] : List Str).length) = true := decide_eq_true (by show x.Kind.toNat < 4; omega)
    rw [h11, chk_t, ← key _ e]
    have hk' : ((decide (0 ≤ x.Kind)) && (decide (x.Kind ≤ 3))) = true := hk
    rw [← hk']
    exact tail _ (by show (ix gKinds x.Kind.toNat).length ≤ 21; rw [← e]; exact h1)
end
section
set_option maxRecDepth 4000
open Go
variable {n : Nat}
theorem split_len (c : UInt8) : ∀ s, ∀ x ∈ splitL c s, x.length ≤ s.length
  | [], x, h => by simp [splitL] at h; subst h; simp
  | b :: l, x, h => by
    have ih := split_len c l
    rw [splitL] at h
    cases hb : b == c with
    | true =>
      rw [hb, cond_true] at h
      rcases List.mem_cons.1 h with rfl | h
      · simp
      · have := ih x h; simp; omega
    | false =>
      rw [hb, cond_false] at h
      cases hs : splitL c l with
      | nil => rw [hs] at h; simp at h; subst h; simp
      | cons y r =>
        rw [hs] at h ih
        simp only at h
        rcases List.mem_cons.1 h with rfl | h
        · have := ih y (by simp); simp; omega
        · have := ih x (by simp [h]); simp; omega
abbrev PI := Int × Int × Int × Str × Str × Str × Int × Int
def errI : PI := (0, 0, 0, ([] : Str), ([] : Str), ([] : Str), 0, 7)
def kindOfW (w : Str) : Int := bif w == [116, 117, 110, 105, 110, 103] then 0 else bif w == [109, 111, 118, 101] then 1 else bif w == [99, 111, 110, 99, 101, 114, 116] then 2 else bif w == [114, 101, 110, 116, 97, 108] then 3 else -1
def itemW (w : List Str) : PI :=
  match w with
  | w0 :: w1 :: w2 :: w3 :: w4 :: rest =>
    bif !(numR w1).2 || !(numR w2).2 then errI else
    match rest with
    | [] => bif (kindOfW w0 == 1) || (kindOfW w0 == 2) then (kindOfW w0, (numR w1).1, (numR w2).1, w3, w4, [], 0, 0) else errI
    | [a] => bif kindOfW w0 == 0 then (0, (numR w1).1, (numR w2).1, w3, w4, a, 0, 0) else errI
    | [a, b] => bif kindOfW w0 == 3 && (numR b).2 then (3, (numR w1).1, (numR w2).1, w3, w4, a, (numR b).1, 0) else errI
    | _ => errI
  | _ => errI
theorem kindOfW_cases (w : Str) : (kindOfW w = -1 ∧ ∀ k : Int, 0 ≤ k → k ≤ 3 → kindW k ≠ w) ∨ (0 ≤ kindOfW w ∧ kindOfW w ≤ 3 ∧ kindW (kindOfW w) = w) := by
  unfold kindOfW
  cases h0 : w == [116, 117, 110, 105, 110, 103] with
  | true => have := beq_iff_eq.1 h0; subst this; exact .inr ⟨by decide, by decide, rfl⟩
  | false =>
  cases h1 : w == [109, 111, 118, 101] with
  | true => have := beq_iff_eq.1 h1; subst this; exact .inr ⟨by decide, by decide, rfl⟩
  | false =>
  cases h2 : w == [99, 111, 110, 99, 101, 114, 116] with
  | true => have := beq_iff_eq.1 h2; subst this; exact .inr ⟨by decide, by decide, rfl⟩
  | false =>
  cases h3 : w == [114, 101, 110, 116, 97, 108] with
  | true => have := beq_iff_eq.1 h3; subst this; exact .inr ⟨by decide, by decide, rfl⟩
  | false =>
    refine .inl ⟨rfl, fun k g1 g2 e => ?_⟩
    have : k = 0 ∨ k = 1 ∨ k = 2 ∨ k = 3 := by omega
    rcases this with rfl | rfl | rfl | rfl
    · rw [← e] at h0; exact absurd h0 (by decide)
    · rw [← e] at h1; exact absurd h1 (by decide)
    · rw [← e] at h2; exact absurd h2 (by decide)
    · rw [← e] at h3; exact absurd h3 (by decide)
theorem Parse_ref (s : Str) (hs : s.length ≤ 1000) (hn : 1100 ≤ n) (hn2 : n ≤ 90000) : agrafferef09_ParseItem n s = some (itemW (splitL 32 s)) := by
  rw [agrafferef09_ParseItem, Cut_eq s hs hn]
  simp only [Option.bind_some, withK_eq]
  have hne := splitL_ne 32 s
  have hlen := split_len 32 s
  cases hw : splitL 32 s with
  | nil => exact absurd hw hne
  | cons w0 r0 =>
    rw [hw] at hlen
    have num : ∀ x ∈ w0 :: r0, agraffebase_Number n x 10 = some (numR x) := fun x hx => Number_eq x (by omega) hn2 (by have := hlen x hx; omega)
    have i0 : ix (w0 :: r0) 0 = w0 := rfl
    simp only [List.length_cons, (by omega : 0 < r0.length + 1), decide_true, chk_t, i0]
    have main : ∀ k m : Int, ((k = 0 ∧ m = 6) ∨ (k = 1 ∧ m = 5) ∨ (k = 2 ∧ m = 5) ∨ (k = 3 ∧ m = 7) ∨ (k = -1 ∧ m = 0)) → kindOfW w0 = k →
        (bif (((r0.length + 1 : Nat) : Int) != m) then
          some ((0, 0, 0, ([] : Str), ([] : Str), ([] : Str), 0, 7) : PI)
        else
          chk (decide (1 < r0.length + 1)) <|
          (agraffebase_Number n (ix (w0 :: r0) 1) 10).bind fun y4 =>
          chk (decide (2 < r0.length + 1)) <|
          (agraffebase_Number n (ix (w0 :: r0) 2) 10).bind fun y5 =>
          chk (decide (3 < r0.length + 1)) <|
          chk (decide (4 < r0.length + 1)) <|
          bif decide ((6 : Int) ≤ m) then
            chk (decide (5 < r0.length + 1)) <|
            (bif (m == (7 : Int)) then
              chk (decide (6 < r0.length + 1)) <|
              (agraffebase_Number n (ix (w0 :: r0) 6) 10).bind fun y7 =>
              bif ((!y4.2) || (!y5.2)) || (!y7.2) then some (0, 0, 0, ([] : Str), ([] : Str), ([] : Str), 0, 7) else some (k, y4.1, y5.1, (ix (w0 :: r0) 3), (ix (w0 :: r0) 4), ix (w0 :: r0) 5, y7.1, 0)
            else
              bif ((!y4.2) || (!y5.2)) || (!true) then some (0, 0, 0, ([] : Str), ([] : Str), ([] : Str), 0, 7) else some (k, y4.1, y5.1, (ix (w0 :: r0) 3), (ix (w0 :: r0) 4), ix (w0 :: r0) 5, 0, 0))
          else
            (bif (m == (7 : Int)) then
              chk (decide (6 < r0.length + 1)) <|
              (agraffebase_Number n (ix (w0 :: r0) 6) 10).bind fun y7 =>
              bif ((!y4.2) || (!y5.2)) || (!y7.2) then some (0, 0, 0, ([] : Str), ([] : Str), ([] : Str), 0, 7) else some (k, y4.1, y5.1, (ix (w0 :: r0) 3), (ix (w0 :: r0) 4), ([] : Str), y7.1, 0)
            else
              bif ((!y4.2) || (!y5.2)) || (!true) then some (0, 0, 0, ([] : Str), ([] : Str), ([] : Str), 0, 7) else some (k, y4.1, y5.1, (ix (w0 :: r0) 3), (ix (w0 :: r0) 4), ([] : Str), 0, 0))) = some (itemW (w0 :: r0)) := by
      intro k m hkm hk
      by_cases hm : ((r0.length + 1 : Nat) : Int) = m
      · have hm' : (((r0.length + 1 : Nat) : Int) != m) = false := by simp [hm]
        rw [hm', cond_false]
        rcases hkm with ⟨rfl, rfl⟩ | ⟨rfl, rfl⟩ | ⟨rfl, rfl⟩ | ⟨rfl, rfl⟩ | ⟨rfl, rfl⟩
        · match r0, hm, num, hk with
          | [w1, w2, w3, w4, a], _, num, hk =>
            have e1 : ix [w0, w1, w2, w3, w4, a] 1 = w1 := rfl
            have e2 : ix [w0, w1, w2, w3, w4, a] 2 = w2 := rfl
            rw [e1, e2, num w1 (by simp), num w2 (by simp)]
            simp only [itemW, hk]
            rcases numR w1 with ⟨v1, b1⟩
            rcases numR w2 with ⟨v2, b2⟩
            cases b1 <;> cases b2 <;> rfl
        · match r0, hm, num, hk with
          | [w1, w2, w3, w4], _, num, hk =>
            have e1 : ix [w0, w1, w2, w3, w4] 1 = w1 := rfl
            have e2 : ix [w0, w1, w2, w3, w4] 2 = w2 := rfl
            rw [e1, e2, num w1 (by simp), num w2 (by simp)]
            simp only [itemW, hk]
            rcases numR w1 with ⟨v1, b1⟩
            rcases numR w2 with ⟨v2, b2⟩
            cases b1 <;> cases b2 <;> rfl
        · match r0, hm, num, hk with
          | [w1, w2, w3, w4], _, num, hk =>
            have e1 : ix [w0, w1, w2, w3, w4] 1 = w1 := rfl
            have e2 : ix [w0, w1, w2, w3, w4] 2 = w2 := rfl
            rw [e1, e2, num w1 (by simp), num w2 (by simp)]
            simp only [itemW, hk]
            rcases numR w1 with ⟨v1, b1⟩
            rcases numR w2 with ⟨v2, b2⟩
            cases b1 <;> cases b2 <;> rfl
        · match r0, hm, num, hk with
          | [w1, w2, w3, w4, a, b], _, num, hk =>
            have e1 : ix [w0, w1, w2, w3, w4, a, b] 1 = w1 := rfl
            have e2 : ix [w0, w1, w2, w3, w4, a, b] 2 = w2 := rfl
            have e3 : ix [w0, w1, w2, w3, w4, a, b] 6 = b := rfl
            rw [e1, e2, e3, num w1 (by simp), num w2 (by simp), num b (by simp)]
            simp only [itemW, hk]
            rcases numR w1 with ⟨v1, b1⟩
            rcases numR w2 with ⟨v2, b2⟩
            rcases numR b with ⟨v3, b3⟩
            cases b1 <;> cases b2 <;> cases b3 <;> rfl
        · exact absurd hm (by omega)
      · have hm' : (((r0.length + 1 : Nat) : Int) != m) = true := by rw [bne_iff_ne]; exact hm
        rw [hm', cond_true]
        congr 1
        match r0, hm, hk with
        | [], _, _ => rfl
        | [_], _, _ => rfl
        | [_, _], _, _ => rfl
        | [_, _, _], _, _ => rfl
        | [w1, w2, w3, w4], hm, hk =>
          simp only [itemW, hk]
          have : ((k == 1) || (k == 2)) = false := by
            rcases hkm with ⟨rfl, rfl⟩ | ⟨rfl, rfl⟩ | ⟨rfl, rfl⟩ | ⟨rfl, rfl⟩ | ⟨rfl, rfl⟩ <;> first | rfl | exact absurd rfl hm
          rw [this]
          cases !(numR w1).2 || !(numR w2).2 <;> rfl
        | [w1, w2, w3, w4, a], hm, hk =>
          simp only [itemW, hk]
          have : (k == 0) = false := by
            rcases hkm with ⟨rfl, rfl⟩ | ⟨rfl, rfl⟩ | ⟨rfl, rfl⟩ | ⟨rfl, rfl⟩ | ⟨rfl, rfl⟩ <;> first | rfl | exact absurd rfl hm
          rw [this]
          cases !(numR w1).2 || !(numR w2).2 <;> rfl
        | [w1, w2, w3, w4, a, b], hm, hk =>
          simp only [itemW, hk]
          have : (k == 3) = false := by
            rcases hkm with ⟨rfl, rfl⟩ | ⟨rfl, rfl⟩ | ⟨rfl, rfl⟩ | ⟨rfl, rfl⟩ | ⟨rfl, rfl⟩ <;> first | rfl | exact absurd rfl hm
          rw [this]
          cases !(numR w1).2 || !(numR w2).2 <;> rfl
        | w1 :: w2 :: w3 :: w4 :: a :: b :: c :: r, hm, hk =>
          simp only [itemW]
          cases !(numR w1).2 || !(numR w2).2 <;> rfl
    cases h0 : w0 == [116, 117, 110, 105, 110, 103] with
    | true => exact main 0 6 (by omega) (by unfold kindOfW; rw [h0]; rfl)
    | false =>
    cases h1 : w0 == [109, 111, 118, 101] with
    | true => exact main 1 5 (by omega) (by unfold kindOfW; rw [h0, h1]; rfl)
    | false =>
    cases h2 : w0 == [99, 111, 110, 99, 101, 114, 116] with
    | true => exact main 2 5 (by omega) (by unfold kindOfW; rw [h0, h1, h2]; rfl)
    | false =>
    cases h3 : w0 == [114, 101, 110, 116, 97, 108] with
    | true => exact main 3 7 (by omega) (by unfold kindOfW; rw [h0, h1, h2, h3]; rfl)
    | false => exact main (-1) 0 (by omega) (by unfold kindOfW; rw [h0, h1, h2, h3]; rfl)
end
section
set_option maxRecDepth 4000
open Go
variable {n : Nat}
theorem Index_eq (w : Str) (hn : 10 < n) : slices_Index_string n gKinds w = some (kindOfW w) := by
  rw [slices_Index_string, withK_eq, loop_findI (l := gKinds) (p := fun y => w == y) (fun back v hv => ?_) (fun back => ?_) n (by have : gKinds.length = 4 := rfl; omega)]
  · congr 1
    unfold kindOfW findI gKinds
    simp only [List.findIdx?_cons, List.findIdx?_nil]
    cases w == [116, 117, 110, 105, 110, 103] <;> cases w == [109, 111, 118, 101] <;> cases w == [99, 111, 110, 99, 101, 114, 116] <;> cases w == [114, 101, 110, 116, 97, 108] <;> rfl
  · have : nI (v + 1) = true := nI_of (by have : gKinds.length = 4 := rfl; omega)
    rw [slices_Index_string_L1, decide_eq_true hv, cond_true, this, chk_t]
  · rw [slices_Index_string_L1]; simp
theorem join_more (s : Str) (l : List Str) (hl : splitL 32 s = l) (m : List Str) (hm : m ≠ []) : joinL (l ++ m) [32] ≠ s := by
  have hne : l ≠ [] := by rw [← hl]; exact splitL_ne 32 s
  have hs := join_split 32 s
  rw [hl] at hs
  have key : ∀ m : List Str, ∀ l : List Str, l ≠ [] → m ≠ [] → (joinL l [32]).length < (joinL (l ++ m) [32]).length := by
    intro m
    induction m with
    | nil => intro l _ h; exact absurd rfl h
    | cons b r ih =>
      intro l h1 _
      have h2 : (joinL l [32]).length < (joinL (l ++ [b]) [32]).length := by
        rw [fmt_tail [] b 32 l h1]; simp
      cases r with
      | nil => exact h2
      | cons c r =>
        have := ih (l ++ [b]) (by simp) (by simp)
        rw [List.append_assoc, List.singleton_append] at this
        omega
  intro e
  have := key m l hne hm
  rw [hs, e] at this
  omega
theorem num_ok {x : Str} (h : x.length ≤ 281474976710656) : ∃ v b, diary_number n x = some (v, b) ∧ b = (numR x).2 ∧ (b = true → v = (numR x).1 ∧ itoaL v = x ∧ inI v = true) := by
  obtain ⟨h1, h2⟩ := num_eq x
  refine ⟨(numP x).1, (numP x).2, number_eq x h, h1, fun hb => ?_⟩
  have hr : (numR x).2 = true := by rw [← h1]; exact hb
  have e := h2 hr
  obtain ⟨g1, g2⟩ := num_true hr
  rw [e]
  exact ⟨rfl, g1.symm, inI_of (by omega) (by omega)⟩
theorem fmt_item (k : Int) (hk : 0 ≤ k ∧ k ≤ 3) (a b : Int) (w3 w4 who : Str) (d : Int) : fmtL (Item.mk k a b w3 w4 who d) =
    joinL ([kindW k, itoaL a, itoaL b, w3, w4] ++ (bif (k == 0) || (k == 3) then [who] else []) ++ (bif k == 3 then [itoaL d] else [])) [32] := by
  have : known k = true := by simp [known, hk.1, hk.2]
  unfold fmtL wordsI whoW depW
  simp only [this, Bool.not_true, Bool.false_or]
theorem parse_fin (s : Str) (k v1 v2 : Int) (w3 w4 who : Str) (d : Int) (b1 b2 b3 : Bool) (l : List Str) (hk : 0 ≤ k ∧ k ≤ 3) (h1 : b1 = true → inI v1 = true) (h2 : b2 = true → inI v2 = true) (h3 : b3 = true → inI d = true) (g3 : w3.length ≤ 1000) (g4 : w4.length ≤ 1000) (gw : who.length ≤ 1000) :
    ((gcall (!((((!b1) || (!b2)) || (!b3)) || (decide (0 < l.length)))) (diary_FormatItem n (Item.mk k v1 v2 w3 w4 who d))).bind fun y11 =>
      bif ((((!b1) || (!b2)) || (!b3)) || (decide (0 < l.length))) || (!(y11 == s)) then
        some ((0, 0, 0, ([] : Str), ([] : Str), ([] : Str), 0, 7) : PI)
      else
        some (k, v1, v2, w3, w4, who, d, 0)) =
    some (bif ((b1 && b2) && b3) && (l.isEmpty && (fmtL (Item.mk k v1 v2 w3 w4 who d) == s)) then (k, v1, v2, w3, w4, who, d, 0) else errI) := by
  cases hb1 : b1 with
  | false => rfl
  | true =>
  cases hb2 : b2 with
  | false => rfl
  | true =>
  cases hb3 : b3 with
  | false => rfl
  | true =>
  cases l with
  | cons x l => rfl
  | nil =>
    have ok : OkT (Item.mk k v1 v2 w3 w4 who d) := ⟨inI_of (by show _ ≤ k; omega) (by show k ≤ _; omega), h1 hb1, h2 hb2, h3 hb3, g3, g4, gw⟩
    simp only [Bool.not_true, Bool.or_self, List.length_nil, Nat.lt_irrefl, decide_false, Bool.not_false, gcall, cond_true, Format_prog _ ok, Option.bind_some, Bool.false_or, Bool.and_self, List.isEmpty_nil, Bool.true_and]
    cases fmtL (Item.mk k v1 v2 w3 w4 who d) == s <;> rfl
end
section
set_option maxRecDepth 4000
open Go
variable {n : Nat}
def restW (k : Int) (w1 w2 w3 w4 : Str) : List Str → PI
  | [] => bif (k == 1) || (k == 2) then (k, (numR w1).1, (numR w2).1, w3, w4, [], 0, 0) else errI
  | [a] => bif k == 0 then (0, (numR w1).1, (numR w2).1, w3, w4, a, 0, 0) else errI
  | [a, b] => bif k == 3 && (numR b).2 then (3, (numR w1).1, (numR w2).1, w3, w4, a, (numR b).1, 0) else errI
  | _ => errI
theorem itemW_eq (w0 w1 w2 w3 w4 : Str) (rest : List Str) : itemW (w0 :: w1 :: w2 :: w3 :: w4 :: rest) = bif !(numR w1).2 || !(numR w2).2 then errI else restW (kindOfW w0) w1 w2 w3 w4 rest := by
  match rest with
  | [] => rfl
  | [_] => rfl
  | [_, _] => rfl
  | _ :: _ :: _ :: _ => rfl
theorem Parse_prog (s : Str) (hs : s.length ≤ 1000) (hn : 1100 ≤ n) : diary_ParseItem n s = some (itemW (splitL 32 s)) := by
  have hsp : strings_Split n s ([32] : Str) = some (splitL 32 s) := by
    rw [strings_Split, show Nat.blt s.length 4294967281 = true from Nat.ble_eq_true_of_le (by omega), chk_t]; rfl
  rw [diary_ParseItem, hsp]
  simp only [Option.bind_some, withK_eq]
  have hne := splitL_ne 32 s
  have hlen := split_len 32 s
  cases hw : splitL 32 s with
  | nil => exact absurd hw hne
  | cons w0 r0 =>
    rw [hw] at hlen
    have i0 : ix (w0 :: r0) 0 = w0 := rfl
    simp only [List.length_cons, (by omega : 0 < r0.length + 1), decide_true, chk_t, i0, Index_eq w0 (by omega : 10 < n), Option.bind_some]
    rcases kindOfW_cases w0 with ⟨hk, _⟩ | ⟨hk0, hk3, hkw⟩
    · rw [hk]
      have : (decide ((-1 : Int) < 0) || decide (r0.length + 1 < 5)) = true := by simp
      rw [this, cond_true]
      congr 1
      match r0 with
      | [] => rfl
      | [_] => rfl
      | [_, _] => rfl
      | [_, _, _] => rfl
      | [w1, w2, w3, w4] => simp only [itemW, hk]; cases !(numR w1).2 || !(numR w2).2 <;> rfl
      | [w1, w2, w3, w4, a] => simp only [itemW, hk]; cases !(numR w1).2 || !(numR w2).2 <;> rfl
      | [w1, w2, w3, w4, a, b] => simp only [itemW, hk]; cases !(numR w1).2 || !(numR w2).2 <;> rfl
      | w1 :: w2 :: w3 :: w4 :: a :: b :: c :: r => simp only [itemW]; cases !(numR w1).2 || !(numR w2).2 <;> rfl
    · have hkn : decide (kindOfW w0 < (0 : Int)) = false := decide_eq_false (by omega)
      rw [hkn, Bool.false_or]
      match r0, hw, hlen with
      | [], _, _ => rfl
      | [_], _, _ => rfl
      | [_, _], _, _ => rfl
      | [_, _, _], _, _ => rfl
      | w1 :: w2 :: w3 :: w4 :: rest, hw, hlen =>
        generalize hkk : kindOfW w0 = k at hk0 hk3 hkw
        have h5 : decide ((w1 :: w2 :: w3 :: w4 :: rest).length + 1 < 5) = false := decide_eq_false (by simp)
        rw [h5, cond_false]
        have e1 : ix (w0 :: w1 :: w2 :: w3 :: w4 :: rest) 1 = w1 := rfl
        have e2 : ix (w0 :: w1 :: w2 :: w3 :: w4 :: rest) 2 = w2 := rfl
        have e3 : ix (w0 :: w1 :: w2 :: w3 :: w4 :: rest) 3 = w3 := rfl
        have e4 : ix (w0 :: w1 :: w2 :: w3 :: w4 :: rest) 4 = w4 := rfl
        have e5 : List.drop 5 (w0 :: w1 :: w2 :: w3 :: w4 :: rest) = rest := rfl
        have l1 := hlen w1 (by simp)
        have l2 := hlen w2 (by simp)
        have l3 := hlen w3 (by simp)
        have l4 := hlen w4 (by simp)
        obtain ⟨v1, b1, n1, c1, p1⟩ := num_ok (n := n) (x := w1) (by omega)
        obtain ⟨v2, b2, n2, c2, p2⟩ := num_ok (n := n) (x := w2) (by omega)
        have hz : ∀ q, q ≤ 5 → decide (q < (w1 :: w2 :: w3 :: w4 :: rest).length + 1) = decide (q < rest.length + 5) := fun q _ => by congr 1
        simp only [e1, e2, e3, e4, e5, n1, n2, Option.bind_some]
        have q1 : decide (1 < (w1 :: w2 :: w3 :: w4 :: rest).length + 1) = true := decide_eq_true (by simp)
        have q2 : decide (2 < (w1 :: w2 :: w3 :: w4 :: rest).length + 1) = true := decide_eq_true (by simp)
        have q3 : decide (3 < (w1 :: w2 :: w3 :: w4 :: rest).length + 1) = true := decide_eq_true (by simp)
        have q4 : decide (4 < (w1 :: w2 :: w3 :: w4 :: rest).length + 1) = true := decide_eq_true (by simp)
        have q5 : decide (5 ≤ (w1 :: w2 :: w3 :: w4 :: rest).length + 1) = true := decide_eq_true (by simp)
        simp only [q1, q2, q3, q4, q5, chk_t]
        have hjs : joinL (w0 :: w1 :: w2 :: w3 :: w4 :: rest) [32] = s := by rw [← hw]; exact join_split 32 s
        have hmore := join_more s _ hw
        have i1 : b1 = true → inI v1 = true := fun h => (p1 h).2.2
        have i2 : b2 = true → inI v2 = true := fun h => (p2 h).2.2
        have t1 : b1 = true → v1 = (numR w1).1 ∧ itoaL v1 = w1 := fun h => ⟨(p1 h).1, (p1 h).2.1⟩
        have t2 : b2 = true → v2 = (numR w2).1 ∧ itoaL v2 = w2 := fun h => ⟨(p2 h).1, (p2 h).2.1⟩
        have i0' : inI 0 = true := by decide
        have hf : ∀ (who : Str) (d : Int), b1 = true → b2 = true → fmtL (Item.mk k v1 v2 w3 w4 who d) = joinL ([w0, w1, w2, w3, w4] ++ (bif (k == 0) || (k == 3) then [who] else []) ++ (bif k == 3 then [itoaL d] else [])) [32] := fun who d g1 g2 => by
          rw [fmt_item k ⟨hk0, hk3⟩, hkw, (t1 g1).2, (t2 g2).2]
        have fin := fun who d b3 l h3 gw => parse_fin (n := n) s k v1 v2 w3 w4 who d b1 b2 b3 l ⟨hk0, hk3⟩ i1 i2 h3 (by omega) (by omega) gw
        rw [itemW_eq, hkk, ← c1, ← c2]
        have bad : ∀ {who : Str} {d : Int} {b3 : Bool} {l : List Str} {R : PI}, (b1 = true → b2 = true → b3 = true → l = [] → fmtL (Item.mk k v1 v2 w3 w4 who d) ≠ s) → (b1 = true → b2 = true → R = errI) →
            some (bif ((b1 && b2) && b3) && (l.isEmpty && (fmtL (Item.mk k v1 v2 w3 w4 who d) == s)) then (k, v1, v2, w3, w4, who, d, 0) else errI) = some (bif !b1 || !b2 then errI else R) := by
          intro who d b3 l R h1 h2
          congr 1
          cases b1 with
          | false => rfl
          | true =>
          cases b2 with
          | false => rfl
          | true =>
          cases b3 with
          | false => exact (h2 rfl rfl).symm
          | true =>
          cases l with
          | cons x l => exact (h2 rfl rfl).symm
          | nil =>
            have := beq_eq_false_iff_ne.2 (h1 rfl rfl rfl rfl)
            rw [this]
            exact (h2 rfl rfl).symm
        have good : ∀ {who : Str} {d : Int} {b3 : Bool} {R : PI}, (b1 = true → b2 = true → b3 = true → fmtL (Item.mk k v1 v2 w3 w4 who d) = s) → (b1 = true → b2 = true → R = bif b3 then (k, v1, v2, w3, w4, who, d, 0) else errI) →
            some (bif ((b1 && b2) && b3) && (([] : List Str).isEmpty && (fmtL (Item.mk k v1 v2 w3 w4 who d) == s)) then (k, v1, v2, w3, w4, who, d, 0) else errI) = some (bif !b1 || !b2 then errI else R) := by
          intro who d b3 R h1 h2
          congr 1
          cases b1 with
          | false => rfl
          | true =>
          cases b2 with
          | false => rfl
          | true =>
          rw [h2 rfl rfl]
          cases b3 with
          | false => rfl
          | true =>
            have := beq_iff_eq.2 (h1 rfl rfl rfl)
            rw [this]
            rfl
        have kc : k = 0 ∨ k = 1 ∨ k = 2 ∨ k = 3 := by omega
        rcases kc with rfl | rfl | rfl | rfl
        · match rest with
          | [] => exact (fin [] 0 true [] (fun _ => i0') (by simp)).trans (bad (fun g1 g2 _ _ => by rw [hf _ _ g1 g2]; exact hmore [[]] (by simp)) (fun _ _ => rfl))
          | [a] => exact (fin a 0 true [] (fun _ => i0') (by have := hlen a (by simp); omega)).trans (good (fun g1 g2 _ => by rw [hf _ _ g1 g2]; exact hjs) (fun g1 g2 => by rw [(t1 g1).1, (t2 g2).1]; rfl))
          | a :: b :: r => exact (fin a 0 true (b :: r) (fun _ => i0') (by have := hlen a (by simp); omega)).trans (bad (fun _ _ _ h => by cases h) (fun _ _ => by cases r <;> rfl))
        · match rest with
          | [] => exact (fin [] 0 true [] (fun _ => i0') (by simp)).trans (good (fun g1 g2 _ => by rw [hf _ _ g1 g2]; exact hjs) (fun g1 g2 => by rw [(t1 g1).1, (t2 g2).1]; rfl))
          | a :: r => exact (fin [] 0 true (a :: r) (fun _ => i0') (by simp)).trans (bad (fun _ _ _ h => by cases h) (fun _ _ => by cases r with | nil => rfl | cons b r => cases r <;> rfl))
        · match rest with
          | [] => exact (fin [] 0 true [] (fun _ => i0') (by simp)).trans (good (fun g1 g2 _ => by rw [hf _ _ g1 g2]; exact hjs) (fun g1 g2 => by rw [(t1 g1).1, (t2 g2).1]; rfl))
          | a :: r => exact (fin [] 0 true (a :: r) (fun _ => i0') (by simp)).trans (bad (fun _ _ _ h => by cases h) (fun _ _ => by cases r with | nil => rfl | cons b r => cases r <;> rfl))
        · match rest with
          | [] => exact (fin [] 0 true [] (fun _ => i0') (by simp)).trans (bad (fun g1 g2 _ _ => by rw [hf _ _ g1 g2]; exact hmore ([[], itoaL 0]) (by simp)) (fun _ _ => rfl))
          | [a] => exact (fin a 0 true [] (fun _ => i0') (by have := hlen a (by simp); omega)).trans (bad (fun g1 g2 _ _ => by rw [hf _ _ g1 g2]; exact hmore ([itoaL 0]) (by simp)) (fun _ _ => rfl))
          | a :: b :: r =>
            obtain ⟨v3, b3, n3, c3, p3⟩ := num_ok (n := n) (x := b) (by have := hlen b (by simp); omega)
            have hb : diary_number n (ix (List.drop 1 (a :: b :: r)) 0) = some (v3, b3) := n3
            have f1 := fin a v3 b3 r (fun h => (p3 h).2.2) (by have := hlen a (by simp); omega)
            have go : some (bif ((b1 && b2) && b3) && (r.isEmpty && (fmtL (Item.mk 3 v1 v2 w3 w4 a v3) == s)) then ((3 : Int), v1, v2, w3, w4, a, v3, (0 : Int)) else errI) = some (bif !b1 || !b2 then errI else
                restW 3 w1 w2 w3 w4 (a :: b :: r)) := by
              cases r with
              | nil =>
                refine good (fun g1 g2 g3 => by rw [hf _ _ g1 g2, (p3 g3).2.1]; exact hjs) (fun g1 g2 => ?_)
                rw [(t1 g1).1, (t2 g2).1]
                show (bif (numR b).2 then ((3 : Int), (numR w1).1, (numR w2).1, w3, w4, a, (numR b).1, (0 : Int)) else errI) = _
                rw [← c3]
                cases h3 : b3 with
                | false => rfl
                | true => rw [(p3 h3).1]
              | cons c r => exact bad (fun _ _ _ h => by cases h) (fun _ _ => rfl)
            refine Eq.trans ?_ (f1.trans go)
            have d1 : (decide (0 < (a :: b :: r).length) && (((3 : Int) == 0) || ((3 : Int) == 3))) = true := by simp
            have d2 : (decide (0 < (List.drop 1 (a :: b :: r)).length) && ((3 : Int) == 3)) = true := by simp
            have d3 : decide (0 < (a :: b :: r).length) = true := by simp
            have d4 : decide (1 ≤ (a :: b :: r).length) = true := by simp
            have d5 : decide (0 < (List.drop 1 (a :: b :: r)).length) = true := by simp
            have d6 : decide (1 ≤ (List.drop 1 (a :: b :: r)).length) = true := by simp
            rw [d1, cond_true, d3, d4, chk_t, chk_t, d2, cond_true, d5, chk_t, hb, Option.bind_some, d6, chk_t]
            rfl
end
section
set_option maxRecDepth 4000
open Go
theorem inI_w {n : Int} (h : IntKind.i64.min ≤ n ∧ n ≤ IntKind.i64.max) : inI n = true := inI_of h.1 h.2
theorem itoa_noblank (v : Int) : (32 : UInt8) ∉ itoaL v := by
  unfold itoaL Lib.itoa
  split
  · intro h
    rcases List.mem_cons.1 h with h | h
    · exact absurd h (by decide)
    · have := decDigits_dig _ _ h
      simp at this
  · intro h
    have := decDigits_dig _ _ h
    simp at this
theorem name_noblank {s : Str} (h : nameB s = true) : (32 : UInt8) ∉ s := by
  have h32 : okC 32 = false := by decide
  have hl32 : isL 32 = false := by decide
  cases s with
  | nil => simp
  | cons c r =>
    simp only [nameB, Bool.and_eq_true, List.all_eq_true] at h
    intro hm
    rcases List.mem_cons.1 hm with e | hm
    · rw [← e, hl32] at h; exact absurd h.1.1 (by simp)
    · have := h.1.2 _ hm
      rw [h32] at this; cases this
theorem kindW_noblank {k : Int} (h : 0 ≤ k ∧ k ≤ 3) : (32 : UInt8) ∉ kindW k := by
  have : k = 0 ∨ k = 1 ∨ k = 2 ∨ k = 3 := by omega
  rcases this with rfl | rfl | rfl | rfl <;> decide
theorem item_round (x : Item) (hk : 0 ≤ x.Kind ∧ x.Kind ≤ 3) (hf : x.From.natAbs < 10000000000) (ht : x.To.natAbs < 10000000000) (hd : x.Deposit.natAbs < 10000000000)
    (hg : (32 : UInt8) ∉ x.Grand) (hp : (32 : UInt8) ∉ x.Place) (hw : (32 : UInt8) ∉ x.Who) :
    itemW (splitL 32 (fmtL x)) = (x.Kind, x.From, x.To, x.Grand, x.Place, (bif (x.Kind == 1) || (x.Kind == 2) then [] else x.Who), (bif x.Kind != 3 then 0 else x.Deposit), 0) := by
  have hn : ∀ w ∈ wordsI x, (32 : UInt8) ∉ w := by
    have h5 : ∀ w ∈ [kindW x.Kind, itoaL x.From, itoaL x.To, x.Grand, x.Place], (32 : UInt8) ∉ w := by
      intro w hm
      simp only [List.mem_cons, List.not_mem_nil, or_false] at hm
      rcases hm with rfl | rfl | rfl | rfl | rfl
      · exact kindW_noblank hk
      · exact itoa_noblank _
      · exact itoa_noblank _
      · exact hg
      · exact hp
    intro w hm
    unfold wordsI at hm
    rcases List.mem_append.1 hm with hm | hm
    · rcases List.mem_append.1 hm with hm | hm
      · exact h5 w hm
      · unfold whoW at hm
        cases hc : (!known x.Kind || (x.Kind == (0 : Int))) || (x.Kind == (3 : Int)) with
        | false => rw [hc] at hm; simp at hm
        | true => rw [hc] at hm; simp at hm; rw [hm]; exact hw
    · unfold depW at hm
      cases hc : !known x.Kind || (x.Kind == (3 : Int)) with
      | false => rw [hc] at hm; simp at hm
      | true => rw [hc] at hm; simp at hm; rw [hm]; exact itoa_noblank _
  rw [fmtL, split_join 32 (wordsI x) (by simp [wordsI]) hn]
  obtain ⟨k, a, b, g, p, w, d⟩ := x
  simp only at hk hf ht hd ⊢
  have : k = 0 ∨ k = 1 ∨ k = 2 ∨ k = 3 := by omega
  rcases this with rfl | rfl | rfl | rfl
  · show itemW [kindW 0, itoaL a, itoaL b, g, p, w] = _
    simp only [itemW, num_itoa hf, num_itoa ht]
    rfl
  · show itemW [kindW 1, itoaL a, itoaL b, g, p] = _
    simp only [itemW, num_itoa hf, num_itoa ht]
    rfl
  · show itemW [kindW 2, itoaL a, itoaL b, g, p] = _
    simp only [itemW, num_itoa hf, num_itoa ht]
    rfl
  · show itemW [kindW 3, itoaL a, itoaL b, g, p, w, itoaL d] = _
    simp only [itemW, num_itoa hf, num_itoa ht, num_itoa hd]
    rfl
theorem fmtL_len (x : Item) (h : OkT x) (hg : x.Grand.length ≤ 30) (hp : x.Place.length ≤ 30) (hw : x.Who.length ≤ 30) : (fmtL x).length ≤ 1000 := by
  have hx : ∀ w ∈ wordsI x, w.length ≤ 30 := by
    have h5 : ∀ w ∈ [kindW x.Kind, itoaL x.From, itoaL x.To, x.Grand, x.Place], w.length ≤ 30 := by
      intro w hm
      simp only [List.mem_cons, List.not_mem_nil, or_false] at hm
      rcases hm with rfl | rfl | rfl | rfl | rfl
      · have := kindW_len h.k; omega
      · have := itoa_len h.f; omega
      · have := itoa_len h.t; omega
      · exact hg
      · exact hp
    intro w hm
    unfold wordsI at hm
    rcases List.mem_append.1 hm with hm | hm
    · rcases List.mem_append.1 hm with hm | hm
      · exact h5 w hm
      · unfold whoW at hm
        cases hc : (!known x.Kind || (x.Kind == (0 : Int))) || (x.Kind == (3 : Int)) with
        | false => rw [hc] at hm; simp at hm
        | true => rw [hc] at hm; simp at hm; rw [hm]; exact hw
    · unfold depW at hm
      cases hc : !known x.Kind || (x.Kind == (3 : Int)) with
      | false => rw [hc] at hm; simp at hm
      | true => rw [hc] at hm; simp at hm; rw [hm]; have := itoa_len h.d; omega
  have h1 := joinL_len 32 30 _ hx
  have h2 : (wordsI x).length ≤ 7 := by
    unfold wordsI whoW depW
    cases !known x.Kind <;> cases (x.Kind == (0 : Int)) <;> cases (x.Kind == (3 : Int)) <;> simp
  have h3 : (wordsI x).length * (30 + 1) ≤ 7 * (30 + 1) := Nat.mul_le_mul_right _ h2
  show (joinL (wordsI x) [32]).length ≤ 1000
  omega
theorem pure_DiaryTexts (a0 : Item) (a1 : Str) (hk : inI a0.Kind = true) (hf : inI a0.From = true) (ht : inI a0.To = true) (hd : inI a0.Deposit = true) :
    agraffelaw09_DiaryTexts 5000 a0 a1 = some true := by
  rw [agraffelaw09_DiaryTexts, awake_ok 3000]
  simp only [Option.bind_some, Bool.not_true, cond_false, agraffelaw09_slim]
  cases hs : (!(((decide (a0.Grand.length ≤ 30)) && (decide (a0.Place.length ≤ 30))) && (decide (a0.Who.length ≤ 30)))) || (decide (200 < a1.length)) with
  | true => rfl
  | false =>
    simp only [Bool.or_eq_false_iff, Bool.not_eq_false', Bool.and_eq_true, decide_eq_true_eq, decide_eq_false_iff_not] at hs
    obtain ⟨⟨⟨s1, s2⟩, s3⟩, s4⟩ := hs
    have ok : OkT a0 := ⟨hk, hf, ht, hd, by omega, by omega, by omega⟩
    rw [cond_false, Format_prog a0 ok, Option.bind_some, Parse_prog a1 (by omega) (by omega), Option.bind_some, Parse_ref a1 (by omega) (by omega) (by omega), Option.bind_some, Format_ref a0 ok (by omega) (by omega), Option.bind_some]
    simp only [beq_self_eq_true, Bool.not_true, Bool.false_or, bne_self_eq_false, Bool.and_self, cond_false, agraffebase_Within, agrafferef09_IsMinute, IsName_eq a0.Grand 5000 (by omega) (by omega), IsName_eq a0.Place 5000 (by omega) (by omega), IsName_eq a0.Who 5000 (by omega) (by omega), Option.bind_some, gcall_some_]
    generalize hK : ((decide ((0 : Int) ≤ a0.Kind)) && (decide (a0.Kind ≤ 3))) = bK
    generalize hF : ((decide ((0 : Int) ≤ a0.From)) && (decide (a0.From ≤ 1000000))) = bF
    generalize hT : ((decide ((0 : Int) ≤ a0.To)) && (decide (a0.To ≤ 1000000))) = bT
    generalize hG : nameB a0.Grand = bG
    generalize hP : nameB a0.Place = bP
    generalize hW : nameB a0.Who = bW
    generalize hE : (a0.Who == ([] : Str)) = bE
    generalize hD : ((decide ((0 : Int) ≤ a0.Deposit)) && (decide (a0.Deposit ≤ 1000000000))) = bD
    have main : bK = true → bF = true → bT = true → bG = true → bP = true → (bE = true ∨ bW = true) → bD = true →
        (withK (fun (v14 : Str) =>
              withK (fun (v15 : Int) =>
                  (diary_ParseItem 5000 (fmtL a0)).bind fun y16 =>
                  some ((y16.2.2.2.2.2.2.2 == (0 : Int)) && ((y16.1 == a0.Kind) && ((y16.2.1 == a0.From) && ((y16.2.2.1 == a0.To) && ((y16.2.2.2.1 == a0.Grand) && ((y16.2.2.2.2.1 == a0.Place) && ((y16.2.2.2.2.2.1 == v14) && ((y16.2.2.2.2.2.2.1 == v15) && true))))))))) fun k2 =>
              bif (a0.Kind != (3 : Int)) then
                k2 0
              else
                k2 a0.Deposit) fun k1 =>
          bif (a0.Kind == (1 : Int)) || (a0.Kind == (2 : Int)) then
            k1 ([] : Str)
          else
            k1 a0.Who) = some true := by
      intro h1 h2 h3 h4 h5 h6 h7
      subst h1 h2 h3 h4 h5 h7
      simp only [Bool.and_eq_true, decide_eq_true_eq] at hK hF hT hD
      have hw : (32 : UInt8) ∉ a0.Who := by
        rcases h6 with h6 | h6
        · rw [h6] at hE
          rw [beq_iff_eq.1 hE]; simp
        · rw [h6] at hW
          exact name_noblank hW
      have hr := item_round a0 hK (by omega) (by omega) (by omega) (name_noblank hG) (name_noblank hP) hw
      simp only [withK_eq, Parse_prog (n := 5000) (fmtL a0) (fmtL_len a0 ok s1 s2 s3) (by omega), Option.bind_some, hr]
      cases (a0.Kind == (1 : Int)) || (a0.Kind == (2 : Int)) <;> cases (a0.Kind != (3 : Int)) <;> simp
    cases bK with
    | false => rfl
    | true =>
    cases bF with
    | false => rfl
    | true =>
    cases bT with
    | false => rfl
    | true =>
    cases bG with
    | false => rfl
    | true =>
    cases bP with
    | false => rfl
    | true =>
    cases bE with
    | true =>
      cases bD with
      | false => rfl
      | true => exact main rfl rfl rfl rfl rfl (.inl rfl) rfl
    | false =>
      cases bW with
      | false => rfl
      | true =>
        cases bD with
        | false => rfl
        | true => exact main rfl rfl rfl rfl rfl (.inr rfl) rfl
end
end Go.Proofs.YtchkkpbkgghcoaaGreatDoor.As
