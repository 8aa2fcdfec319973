/- What the functions compute, on plain data, and what follows from it, part 1: no condition. -/
import Derived.Test.YtkfoapcmkpddjaaGround3
namespace Go.Proofs.Ytkfoapcmkpddjaa.As
open Go
section
set_option maxRecDepth 4000
open Go
structure Road where
  A : Str
  B : Str
  Minutes : Int
  Width : Int
  deriving Inhabited, DecidableEq
def eRoad (x : Road) : V := .agg [vt x.A, vt x.B, vi x.Minutes, vi x.Width]
theorem eRoad_frz (x : Road) : (eRoad x).frz = true := rfl
theorem eRoad_frzE (x : Road) : frzE (eRoad x) = true := rfl
structure Grand where
  Name : Str
  Place : Str
  Width : Int
  deriving Inhabited, DecidableEq
def eGrand (x : Grand) : V := .agg [vt x.Name, vt x.Place, vi x.Width]
theorem eGrand_frz (x : Grand) : (eGrand x).frz = true := rfl
theorem eGrand_frzE (x : Grand) : frzE (eGrand x) = true := rfl
structure Diary where
  Places : List Str
  Technicians : List Str
  Roads : List Road
  Grands : List Grand
  Change : Int
  Lasts : Int
  deriving Inhabited, DecidableEq
def eDiary (x : Diary) : V := .agg [eS 1 vt x.Places, eS 1 vt x.Technicians, eS 4 eRoad x.Roads, eS 3 eGrand x.Grands, vi x.Change, vi x.Lasts]
structure Item where
  Kind : Int
  From : Int
  To : Int
  Grand : Str
  Place : Str
  Who : Str
  Deposit : Int
  deriving Inhabited, DecidableEq
def eItem (x : Item) : V := .agg [vi x.Kind, vi x.From, vi x.To, vt x.Grand, vt x.Place, vt x.Who, vi x.Deposit]
theorem eItem_frz (x : Item) : (eItem x).frz = true := rfl
theorem eItem_frzE (x : Item) : frzE (eItem x) = true := rfl
structure Arr2_Str where
  a0 : Str
  a1 : Str
  deriving Inhabited, DecidableEq
def eArr2_Str (x : Arr2_Str) : V := .agg [vt x.a0, vt x.a1]
theorem eArr2_Str_frz (x : Arr2_Str) : (eArr2_Str x).frz = true := rfl
theorem eArr2_Str_key : KeyAB eArr2_Str (fun x => x.a0) (fun x => x.a1) := ⟨fun _ => rfl, fun ⟨a, b⟩ ⟨c, d⟩ => keyab_dec ⟨fun h => by cases h; exact ⟨rfl, rfl⟩, fun h => by cases h.1; cases h.2; rfl⟩⟩
def tunStop (x : Item) (lasts : Int) (y : Item) : Bool := (y.Grand == x.Grand) && ((y.Kind == 1) || ((y.Kind == 0) && (decide (y.To ≤ x.From) && decide (IntKind.i64.wrap (x.From - y.To) ≤ lasts))))
def tuneL (x : Item) (lasts : Int) (l : List Item) : Nat → Int
  | 0 => -1
  | k + 1 => bif tunStop x lasts (ix l k) then (bif (ix l k).Kind == 1 then -1 else ((k : Nat) : Int)) else tuneL x lasts l k
def sortIns (x : Int) : List Int → List Int
  | [] => [x]
  | y :: l => bif decide (x ≤ y) then x :: y :: l else y :: sortIns x l
def sortI : List Int → List Int
  | [] => []
  | x :: l => sortIns x (sortI l)
def insL {α : Type} (l : List α) (i : Nat) (x : α) : List α := l.take i ++ x :: l.drop i
structure Window where
  From : Int
  To : Int
  deriving Inhabited, DecidableEq
def eWindow (x : Window) : V := .agg [vi x.From, vi x.To]
def agraffelaw09_Town (n : Nat)  : Option Unit :=
  some ()
def diary_isName_L1 (a0 : Str) (k1 : (Unit → Option Bool)) (back : Nat → Option Bool) : Nat → Option Bool
  | v1 =>
  bif decide (v1 < a0.length) then
    bif (!(((decide ((97 : Int) ≤ (((List.getD a0 v1 0).toNat : Nat) : Int))) && (decide ((((List.getD a0 v1 0).toNat : Nat) : Int) ≤ (122 : Int)))) || ((decide ((65 : Int) ≤ (((List.getD a0 v1 0).toNat : Nat) : Int))) && (decide ((((List.getD a0 v1 0).toNat : Nat) : Int) ≤ (90 : Int)))))) && ((decide (v1 = 0)) || (((((List.getD a0 v1 0).toNat : Nat) : Int) != (45 : Int)) && ((decide ((((List.getD a0 v1 0).toNat : Nat) : Int) < (48 : Int))) || (decide ((57 : Int) < (((List.getD a0 v1 0).toNat : Nat) : Int)))))) then
      some false
    else
      chk (nI (v1 + 1)) <|
      back (v1 + 1)
  else
    k1 ()
def diary_isName (n : Nat) (a0 : Str) : Option Bool :=
  withK (fun (_ : Unit) =>
      some ((!(a0 == ([] : Str))) && (decide (a0.length ≤ 12)))) fun k1 =>
  loopN (diary_isName_L1 a0 k1) n 0
def slices_Index_string_L1 (a0 : List Str) (a1 : Str) (k1 : (Unit → Option Int)) (back : Nat → Option Int) : Nat → Option Int
  | v1 =>
  bif decide (v1 < a0.length) then
    bif (a1 == (ix a0 v1)) then
      some ((v1 : Nat) : Int)
    else
      chk (nI (v1 + 1)) <|
      back (v1 + 1)
  else
    k1 ()
def slices_Index_string (n : Nat) (a0 : List Str) (a1 : Str) : Option Int :=
  withK (fun (_ : Unit) =>
      some (-1)) fun k1 =>
  loopN (slices_Index_string_L1 a0 a1 k1) n 0
def slices_Contains_string (n : Nat) (a0 : List Str) (a1 : Str) : Option Bool :=
  (slices_Index_string n a0 a1).bind fun y1 =>
  some (decide ((0 : Int) ≤ y1))
def diary_checkName (n : Nat) (a0 : Str) (a1 : List Str) : Option Int :=
  (diary_isName n a0).bind fun y1 =>
  bif !y1 then
    some 4
  else
    (slices_Contains_string n a1 a0).bind fun y2 =>
    bif y2 then
      some 5
    else
      some 0
def diary_checkNames_L1 (n : Nat) (a0 : List Str) (k1 : (Unit → Option Int)) (back : Nat → Option Int) : Nat → Option Int
  | v2 =>
  bif decide (v2 < a0.length) then
    chk (decide (v2 ≤ a0.length)) <|
    (diary_checkName n (ix a0 v2) (List.take v2 a0)).bind fun y3 =>
    bif (y3 != (0 : Int)) then
      some y3
    else
      chk (nI (v2 + 1)) <|
      back (v2 + 1)
  else
    k1 ()
def diary_checkNames (n : Nat) (a0 : List Str) (a1 : Int) : Option Int :=
  bif decide (a1 < ((a0.length : Nat) : Int)) then
    some 8
  else
    withK (fun (_ : Unit) =>
        some 0) fun k1 =>
    loopN (diary_checkNames_L1 n a0 k1) n 0
def diary_within (n : Nat) (a0 : Int) (a1 : Int) (a2 : Int) : Option Unit :=
  some ()
def diary_isWidth (n : Nat) (a0 : Int) : Option Unit :=
  (diary_within n a0 1 10000).bind fun y1 =>
  some ()
def diary_checkRoads_L1 (n : Nat) (a0 : Diary) (k1 : (Unit → Option Int)) (back : Nat → Option Int) : Nat → Option Int
  | v5 =>
  bif decide (v5 < a0.Roads.length) then
    (slices_Contains_string n a0.Places ((ix a0.Roads v5).A)).bind fun y6 =>
    (gcall (!(!y6)) (slices_Contains_string n a0.Places ((ix a0.Roads v5).B))).bind fun y7 =>
    bif (!y6) || (!y7) then
      some 6
    else
      bif (((ix a0.Roads v5).A) == ((ix a0.Roads v5).B)) then
        some 3
      else
        (diary_within n ((ix a0.Roads v5).Minutes) 1 10000).bind fun y8 =>
        (gcall (!(!((decide (1 ≤ ((ix a0.Roads v5).Minutes))) && (decide (((ix a0.Roads v5).Minutes) ≤ 10000))))) (diary_isWidth n ((ix a0.Roads v5).Width))).bind fun y9 =>
        bif (!((decide (1 ≤ ((ix a0.Roads v5).Minutes))) && (decide (((ix a0.Roads v5).Minutes) ≤ 10000)))) || (!((decide (1 ≤ ((ix a0.Roads v5).Width))) && (decide (((ix a0.Roads v5).Width) ≤ 10000)))) then
          some 2
        else
          chk (nI (v5 + 1)) <|
          back (v5 + 1)
  else
    k1 ()
def diary_checkRoads (n : Nat) (a0 : Diary) : Option Int :=
  bif decide (60 < a0.Roads.length) then
    some 8
  else
    withK (fun (_ : Unit) =>
        some 0) fun k1 =>
    loopN (diary_checkRoads_L1 n a0 k1) n 0
def slices_Index_string_2_L1 (a0 : List Str) (a1 : Str) (k1 : (Unit → Option Int)) (back : Nat → Option Int) : Nat → Option Int
  | v1 =>
  bif decide (v1 < a0.length) then
    bif (a1 == (ix a0 v1)) then
      some ((v1 : Nat) : Int)
    else
      chk (nI (v1 + 1)) <|
      back (v1 + 1)
  else
    k1 ()
def slices_Index_string_2 (n : Nat) (a0 : List Str) (a1 : Str) : Option Int :=
  withK (fun (_ : Unit) =>
      some (-1)) fun k1 =>
  loopN (slices_Index_string_2_L1 a0 a1 k1) n 0
def slices_Contains_string_2 (n : Nat) (a0 : List Str) (a1 : Str) : Option Bool :=
  (slices_Index_string_2 n a0 a1).bind fun y1 =>
  some (decide ((0 : Int) ≤ y1))
def diary_checkName_2 (n : Nat) (a0 : Str) (a1 : List Str) : Option Int :=
  (diary_isName n a0).bind fun y1 =>
  bif !y1 then
    some 4
  else
    (slices_Contains_string_2 n a1 a0).bind fun y2 =>
    bif y2 then
      some 5
    else
      some 0
def diary_checkGrands_L1 (n : Nat) (a0 : Diary) (k1 : (Unit → Option Int)) (back : (List Str) × Nat → Option Int) : (List Str) × Nat → Option Int
  | (v4, v5) =>
  bif decide (v5 < a0.Grands.length) then
    (diary_checkName_2 n ((ix a0.Grands v5).Name) v4).bind fun y6 =>
    bif (y6 != (0 : Int)) then
      some y6
    else
      (slices_Contains_string n a0.Places ((ix a0.Grands v5).Place)).bind fun y7 =>
      bif !y7 then
        some 6
      else
        (diary_isWidth n ((ix a0.Grands v5).Width)).bind fun y8 =>
        bif !((decide (1 ≤ ((ix a0.Grands v5).Width))) && (decide (((ix a0.Grands v5).Width) ≤ 10000))) then
          some 2
        else
          chk (room 16 (v4 ++ ([(ix a0.Grands v5).Name] : List Str)).length) <|
          chk (nI (v5 + 1)) <|
          back ((v4 ++ ([(ix a0.Grands v5).Name] : List Str)), v5 + 1)
  else
    k1 ()
def diary_checkGrands (n : Nat) (a0 : Diary) : Option Int :=
  bif decide (12 < a0.Grands.length) then
    some 8
  else
    withK (fun (_ : Unit) =>
        some 0) fun k1 =>
    loopN (diary_checkGrands_L1 n a0 k1) n (([] : List Str), 0)
def diary_CheckDiary (n : Nat) (a0 : Diary) : Option Int :=
  (diary_checkNames n a0.Places 20).bind fun y1 =>
  bif (y1 != (0 : Int)) then
    some y1
  else
    (diary_checkRoads n a0).bind fun y2 =>
    bif (y2 != (0 : Int)) then
      some y2
    else
      (diary_checkGrands n a0).bind fun y3 =>
      bif (y3 != (0 : Int)) then
        some y3
      else
        (diary_checkNames n a0.Technicians 12).bind fun y4 =>
        bif (y4 != (0 : Int)) then
          some y4
        else
          (diary_within n a0.Change 0 1000).bind fun y5 =>
          (gcall (!(!((decide (0 ≤ a0.Change)) && (decide (a0.Change ≤ 1000))))) (diary_within n a0.Lasts 0 100000)).bind fun y6 =>
          bif (!((decide (0 ≤ a0.Change)) && (decide (a0.Change ≤ 1000)))) || (!((decide (0 ≤ a0.Lasts)) && (decide (a0.Lasts ≤ 100000)))) then
            some 2
          else
            some 0
def diary_open (n : Nat) (a0 : Diary) : Option (Int ⊕ Unit) :=
  (diary_CheckDiary n a0).bind fun y1 =>
  bif (y1 != (0 : Int)) then
    some (.inl y1)
  else
    some (.inr ())
def diary_plan_isPlace_2 (n : Nat) (a0 : List Str) (a1 : List Str) (a2 : List Road) (a3 : List Grand) (a4 : Int) (a5 : Int) (a6 : List (Int × List (Arr2_Str × Int))) (a7 : Str) : Option Bool :=
  (slices_Contains_string n a0 a7).bind fun y1 =>
  some y1
def diary_plan_joined_L1 (a2 : List Road) (a7 : Str) (a8 : Str) (a9 : Int) (k2 : (Int × Bool → Option (Int × Bool))) (back : Int × Bool × Nat → Option (Int × Bool)) : Int × Bool × Nat → Option (Int × Bool)
  | (v3, v4, v5) =>
  bif decide (v5 < a2.length) then
    withK (fun (v6, v7) =>
        chk (nI (v5 + 1)) <|
        back (v6, v7, v5 + 1)) fun k1 =>
    bif ((((((ix a2 v5).A) == a7) && (((ix a2 v5).B) == a8)) || ((((ix a2 v5).A) == a8) && (((ix a2 v5).B) == a7))) && (decide (a9 ≤ ((ix a2 v5).Width)))) && ((!v4) || (decide (((ix a2 v5).Minutes) < v3))) then
      k1 ((ix a2 v5).Minutes, true)
    else
      k1 (v3, v4)
  else
    k2 (v3, v4)
def diary_plan_joined (n : Nat) (a0 : List Str) (a1 : List Str) (a2 : List Road) (a3 : List Grand) (a4 : Int) (a5 : Int) (a6 : List (Int × List (Arr2_Str × Int))) (a7 : Str) (a8 : Str) (a9 : Int) : Option (Int × Bool) :=
  withK (fun (v8, v9) =>
      some (v8, v9)) fun k2 =>
  loopN (diary_plan_joined_L1 a2 a7 a8 a9 k2) n (0, false, 0)
def diary_plan_distances_L3 (a0 : List Str) (v31 : Nat) (v38 : Nat) (k7 : ((List (Arr2_Str × Int)) → Option ((List (Arr2_Str × Int)) × (List (Int × List (Arr2_Str × Int)))))) (back : Nat × (List (Arr2_Str × Int)) → Option ((List (Arr2_Str × Int)) × (List (Int × List (Arr2_Str × Int))))) : Nat × (List (Arr2_Str × Int)) → Option ((List (Arr2_Str × Int)) × (List (Int × List (Arr2_Str × Int))))
  | (v41, v42) =>
  bif decide (v41 < a0.length) then
    withK (fun (v43 : (List (Arr2_Str × Int))) =>
        chk (nI (v41 + 1)) <|
        back (v41 + 1, v43)) fun k6 =>
    chk (!(((Option.isSome (List.lookup (Arr2_Str.mk (ix a0 v38) (ix a0 v31)) v42)) && (Option.isSome (List.lookup (Arr2_Str.mk (ix a0 v31) (ix a0 v41)) v42))) && !(!(Option.isSome (List.lookup (Arr2_Str.mk (ix a0 v38) (ix a0 v41)) v42)))) || inI ((Option.getD (List.lookup (Arr2_Str.mk (ix a0 v38) (ix a0 v31)) v42) (0 : Int)) + (Option.getD (List.lookup (Arr2_Str.mk (ix a0 v31) (ix a0 v41)) v42) (0 : Int)))) <|
    bif ((Option.isSome (List.lookup (Arr2_Str.mk (ix a0 v38) (ix a0 v31)) v42)) && (Option.isSome (List.lookup (Arr2_Str.mk (ix a0 v31) (ix a0 v41)) v42))) && ((!(Option.isSome (List.lookup (Arr2_Str.mk (ix a0 v38) (ix a0 v41)) v42))) || (decide (((Option.getD (List.lookup (Arr2_Str.mk (ix a0 v38) (ix a0 v31)) v42) (0 : Int)) + (Option.getD (List.lookup (Arr2_Str.mk (ix a0 v31) (ix a0 v41)) v42) (0 : Int))) < (Option.getD (List.lookup (Arr2_Str.mk (ix a0 v38) (ix a0 v41)) v42) (0 : Int))))) then
      chk (inI ((Option.getD (List.lookup (Arr2_Str.mk (ix a0 v38) (ix a0 v31)) v42) (0 : Int)) + (Option.getD (List.lookup (Arr2_Str.mk (ix a0 v31) (ix a0 v41)) v42) (0 : Int)))) <|
      k6 (mPut (Arr2_Str.mk (ix a0 v38) (ix a0 v41)) ((Option.getD (List.lookup (Arr2_Str.mk (ix a0 v38) (ix a0 v31)) v42) (0 : Int)) + (Option.getD (List.lookup (Arr2_Str.mk (ix a0 v31) (ix a0 v41)) v42) (0 : Int))) v42)
    else
      k6 v42
  else
    k7 v42
def diary_plan_distances_L4 (n : Nat) (a0 : List Str) (v31 : Nat) (k8 : ((List (Arr2_Str × Int)) → Option ((List (Arr2_Str × Int)) × (List (Int × List (Arr2_Str × Int)))))) (back : Nat × (List (Arr2_Str × Int)) → Option ((List (Arr2_Str × Int)) × (List (Int × List (Arr2_Str × Int))))) : Nat × (List (Arr2_Str × Int)) → Option ((List (Arr2_Str × Int)) × (List (Int × List (Arr2_Str × Int))))
  | (v38, v39) =>
  bif decide (v38 < a0.length) then
    withK (fun (v44 : (List (Arr2_Str × Int))) =>
        chk (nI (v38 + 1)) <|
        back (v38 + 1, v44)) fun k7 =>
    loopN (diary_plan_distances_L3 a0 v31 v38 k7) n (0, v39)
  else
    k8 v39
def diary_plan_distances_L5 (n : Nat) (a0 : List Str) (k9 : ((List (Arr2_Str × Int)) → Option ((List (Arr2_Str × Int)) × (List (Int × List (Arr2_Str × Int)))))) (back : Nat × (List (Arr2_Str × Int)) → Option ((List (Arr2_Str × Int)) × (List (Int × List (Arr2_Str × Int))))) : Nat × (List (Arr2_Str × Int)) → Option ((List (Arr2_Str × Int)) × (List (Int × List (Arr2_Str × Int))))
  | (v31, v32) =>
  bif decide (v31 < a0.length) then
    withK (fun (v45 : (List (Arr2_Str × Int))) =>
        chk (nI (v31 + 1)) <|
        back (v31 + 1, v45)) fun k8 =>
    loopN (diary_plan_distances_L4 n a0 v31 k8) n (0, v32)
  else
    k9 v32
def diary_plan_distances_L1 (n : Nat) (a0 : List Str) (a1 : List Str) (a2 : List Road) (a3 : List Grand) (a4 : Int) (a5 : Int) (a6 : List (Int × List (Arr2_Str × Int))) (a7 : Int) (v8 : Nat) (k4 : ((List (Arr2_Str × Int)) → Option ((List (Arr2_Str × Int)) × (List (Int × List (Arr2_Str × Int)))))) (back : Nat × (List (Arr2_Str × Int)) → Option ((List (Arr2_Str × Int)) × (List (Int × List (Arr2_Str × Int))))) : Nat × (List (Arr2_Str × Int)) → Option ((List (Arr2_Str × Int)) × (List (Int × List (Arr2_Str × Int))))
  | (v12, v13) =>
  bif decide (v12 < a0.length) then
    withK (fun (v15 : (List (Arr2_Str × Int))) =>
        chk (nI (v12 + 1)) <|
        back (v12 + 1, v15)) fun k3 =>
    (diary_plan_joined n a0 a1 a2 a3 a4 a5 a6 (ix a0 v8) (ix a0 v12) a7).bind fun y14 =>
    bif y14.2 && (!((ix a0 v8) == (ix a0 v12))) then
      k3 (mPut (Arr2_Str.mk (ix a0 v8) (ix a0 v12)) y14.1 v13)
    else
      k3 v13
  else
    k4 v13
def diary_plan_distances_L2 (n : Nat) (a0 : List Str) (a1 : List Str) (a2 : List Road) (a3 : List Grand) (a4 : Int) (a5 : Int) (a6 : List (Int × List (Arr2_Str × Int))) (a7 : Int) (k5 : ((List (Arr2_Str × Int)) → Option ((List (Arr2_Str × Int)) × (List (Int × List (Arr2_Str × Int)))))) (back : Nat × (List (Arr2_Str × Int)) → Option ((List (Arr2_Str × Int)) × (List (Int × List (Arr2_Str × Int))))) : Nat × (List (Arr2_Str × Int)) → Option ((List (Arr2_Str × Int)) × (List (Int × List (Arr2_Str × Int))))
  | (v8, v9) =>
  bif decide (v8 < a0.length) then
    withK (fun (v16 : (List (Arr2_Str × Int))) =>
        chk (nI (v8 + 1)) <|
        back (v8 + 1, v16)) fun k4 =>
    loopN (diary_plan_distances_L1 n a0 a1 a2 a3 a4 a5 a6 a7 v8 k4) n (0, (mPut (Arr2_Str.mk (ix a0 v8) (ix a0 v8)) 0 v9))
  else
    k5 v9
def diary_plan_distances (n : Nat) (a0 : List Str) (a1 : List Str) (a2 : List Road) (a3 : List Grand) (a4 : Int) (a5 : Int) (a6 : List (Int × List (Arr2_Str × Int))) (a7 : Int) : Option ((List (Arr2_Str × Int)) × (List (Int × List (Arr2_Str × Int)))) :=
  withK (fun (_ : Unit) =>
      some ((Option.getD (List.lookup a7 a6) ([] : List (Arr2_Str × Int))), a6)) fun k1 =>
  withK (fun (_ : Unit) =>
      withK (fun (v17 : (List (Arr2_Str × Int))) =>
          withK (fun (v46 : (List (Arr2_Str × Int))) =>
              some (v46, (mPut a7 v46 a6))) fun k9 =>
          loopN (diary_plan_distances_L5 n a0 k9) n (0, v17)) fun k5 =>
      loopN (diary_plan_distances_L2 n a0 a1 a2 a3 a4 a5 a6 a7 k5) n (0, ([] : List (Arr2_Str × Int)))) fun k2 =>
  bif (Option.isSome (List.lookup a7 a6)) then
    k1 ()
  else
    k2 ()
def diary_plan_distance (n : Nat) (a0 : List Str) (a1 : List Str) (a2 : List Road) (a3 : List Grand) (a4 : Int) (a5 : Int) (a6 : List (Int × List (Arr2_Str × Int))) (a7 : Str) (a8 : Str) (a9 : Int) : Option (Int × Bool × (List (Int × List (Arr2_Str × Int)))) :=
  (diary_plan_distances n a0 a1 a2 a3 a4 a5 a6 a9).bind fun y1 =>
  some ((Option.getD (List.lookup (Arr2_Str.mk a7 a8) y1.1) (0 : Int)), (Option.isSome (List.lookup (Arr2_Str.mk a7 a8) y1.1)), y1.2)
def diary_Distances_L1 (n : Nat) (a0 : Diary) (a1 : Str) (a2 : Int) (k4 : ((List Int) → Option (Int × (List Int)))) (back : (List Int) × Nat × (List (Int × List (Arr2_Str × Int))) → Option (Int × (List Int))) : (List Int) × Nat × (List (Int × List (Arr2_Str × Int))) → Option (Int × (List Int))
  | (v9, v10, v11) =>
  bif decide (v10 < a0.Places.length) then
    (diary_plan_distance n a0.Places a0.Technicians a0.Roads a0.Grands a0.Change a0.Lasts v11 a1 (ix a0.Places v10) a2).bind fun y12 =>
    withK (fun (v13 : Int) =>
        chk (room 8 (v9 ++ ([v13] : List Int)).length) <|
        chk (nI (v10 + 1)) <|
        back ((v9 ++ ([v13] : List Int)), v10 + 1, y12.2.2)) fun k3 =>
    bif !y12.2.1 then
      k3 (-1)
    else
      k3 y12.1
  else
    k4 v9
def diary_Distances (n : Nat) (a0 : Diary) (a1 : Str) (a2 : Int) : Option (Int × (List Int)) :=
  withK (fun (v4 : Int) =>
      bif (v4 != (0 : Int)) then
        some (v4, ([] : List Int))
      else
        none) fun k1 =>
  withK (fun (_ : Unit) =>
      (diary_plan_isPlace_2 n a0.Places a0.Technicians a0.Roads a0.Grands a0.Change a0.Lasts ([] : List (Int × List (Arr2_Str × Int))) a1).bind fun y5 =>
      bif !y5 then
        some (6, ([] : List Int))
      else
        (diary_isWidth n a2).bind fun y6 =>
        bif !((decide (1 ≤ a2)) && (decide (a2 ≤ 10000))) then
          some (2, ([] : List Int))
        else
          withK (fun (v14 : (List Int)) =>
              some (0, v14)) fun k4 =>
          loopN (diary_Distances_L1 n a0 a1 a2 k4) n (([] : List Int), 0, ([] : List (Int × List (Arr2_Str × Int))))) fun k2 =>
  (diary_open n a0).bind fun y1 =>
  match y1 with
  | .inl y1 =>
    k1 y1
  | .inr y1 =>
    k2 ()
def agraffelaw09_Evening (n : Nat)  : Option Unit :=
  some ()
def diary_plan_accept_L1 (a0 : List Item) (k1 : (Unit → Option (Int × Int))) (back : Unit → Option (Int × Int)) : Unit → Option (Int × Int)
  | _ =>
  bif decide (0 < a0.length) then
    none
  else
    k1 ()
def diary_plan_accept (n : Nat) (a0 : List Item) : Option (Int × Int) :=
  bif decide (100 < a0.length) then
    some (0, 8)
  else
    withK (fun (_ : Unit) =>
        some ((-1), 0)) fun k1 =>
    loopN (diary_plan_accept_L1 a0 k1) n ()
def diary_grand_f1 (n : Nat) (a0 : Grand) (a1 : Str) : Option Unit :=
  some ()
def slices_IndexFunc_Grand_L1 (n : Nat) (a0 : List Grand) (a1 : Str) (k1 : (Unit → Option Int)) (back : Nat → Option Int) : Nat → Option Int
  | v2 =>
  bif decide (v2 < a0.length) then
    (diary_grand_f1 n (ix a0 v2) a1).bind fun y3 =>
    bif ((ix a0 v2).Name == a1) then
      some ((v2 : Nat) : Int)
    else
      chk (nI (v2 + 1)) <|
      back (v2 + 1)
  else
    k1 ()
def slices_IndexFunc_Grand (n : Nat) (a0 : List Grand) (a1 : Str) : Option Int :=
  withK (fun (_ : Unit) =>
      some (-1)) fun k1 =>
  loopN (slices_IndexFunc_Grand_L1 n a0 a1 k1) n 0
def diary_grand (n : Nat) (a0 : Diary) (a1 : Str) : Option (Str × Str × Int × Bool) :=
  (slices_IndexFunc_Grand n a0.Grands a1).bind fun y1 =>
  bif decide (y1 < (0 : Int)) then
    some (([] : Str), ([] : Str), 0, false)
  else
    chk (inB y1 a0.Grands.length) <|
    chk (decide (y1.toNat < a0.Grands.length)) <|
    some ((ix a0.Grands y1.toNat).Name, (ix a0.Grands y1.toNat).Place, (ix a0.Grands y1.toNat).Width, true)
def diary_isMinute (n : Nat) (a0 : Int) : Option Unit :=
  (diary_within n a0 0 1000000).bind fun y1 =>
  some ()
def diary_checkItem (n : Nat) (a0 : Diary) (a1 : Item) : Option Int :=
  (diary_grand n a0 a1.Grand).bind fun y1 =>
  (diary_within n a1.Kind 0 3).bind fun y2 =>
  bif !((decide (0 ≤ a1.Kind)) && (decide (a1.Kind ≤ 3))) then
    some 15
  else
    (diary_isMinute n a1.From).bind fun y3 =>
    (gcall (!(!((decide (0 ≤ a1.From)) && (decide (a1.From ≤ 1000000))))) (diary_isMinute n a1.To)).bind fun y4 =>
    bif (!((decide (0 ≤ a1.From)) && (decide (a1.From ≤ 1000000)))) || (!((decide (0 ≤ a1.To)) && (decide (a1.To ≤ 1000000)))) then
      some 2
    else
      bif decide (a1.To ≤ a1.From) then
        some 9
      else
        (gcall (!(!y1.2.2.2)) (slices_Contains_string n a0.Places a1.Place)).bind fun y5 =>
        bif (!y1.2.2.2) || (!y5) then
          some 6
        else
          (gcall (a1.Kind == (0 : Int)) (slices_Contains_string n a0.Technicians a1.Who)).bind fun y6 =>
          bif (a1.Kind == (0 : Int)) && (!y6) then
            some 6
          else
            (gcall (a1.Kind == (3 : Int)) (diary_isName n a1.Who)).bind fun y7 =>
            bif (a1.Kind == (3 : Int)) && (!y7) then
              some 4
            else
              (gcall (a1.Kind == (3 : Int)) (diary_within n a1.Deposit 0 1000000000)).bind fun y8 =>
              bif (a1.Kind == (3 : Int)) && (!((decide (0 ≤ a1.Deposit)) && (decide (a1.Deposit ≤ 1000000000)))) then
                some 2
              else
                withK (fun (v9 : Bool) =>
                    bif v9 then
                      some 3
                    else
                      some 0) fun k1 =>
                bif (a1.Kind != (3 : Int)) && (a1.Deposit != (0 : Int)) then
                  k1 ((a1.Kind != (3 : Int)) && (a1.Deposit != (0 : Int)))
                else
                  k1 (((a1.Kind == (1 : Int)) || (a1.Kind == (2 : Int))) && (!(a1.Who == ([] : Str))))
def diary_plan_changes_f1 (n : Nat) (a0 : Item) (a1 : Int) (a2 : Int) (a3 : Int) (a4 : Str) (a5 : Str) (a6 : Str) (a7 : Int) (a8 : List Str) (a9 : List Str) (a10 : List Road) (a11 : List Grand) (a12 : Int) (a13 : Int) (a14 : List (Int × List (Arr2_Str × Int))) : Option Unit :=
  chk (!(a0.Grand == a4) || inI (a0.To + a12)) <|
  some ()
def slices_IndexFunc_Item_L1 (n : Nat) (a0 : List Item) (a1 : Int) (a2 : Int) (a3 : Int) (a4 : Str) (a5 : Str) (a6 : Str) (a7 : Int) (a8 : List Str) (a9 : List Str) (a10 : List Road) (a11 : List Grand) (a12 : Int) (a13 : Int) (a14 : List (Int × List (Arr2_Str × Int))) (k1 : (Unit → Option Int)) (back : Nat → Option Int) : Nat → Option Int
  | v2 =>
  bif decide (v2 < a0.length) then
    (diary_plan_changes_f1 n (ix a0 v2) a1 a2 a3 a4 a5 a6 a7 a8 a9 a10 a11 a12 a13 a14).bind fun y3 =>
    bif ((ix a0 v2).Grand == a4) && (decide (a2 < ((ix a0 v2).To + a12))) then
      some ((v2 : Nat) : Int)
    else
      chk (nI (v2 + 1)) <|
      back (v2 + 1)
  else
    k1 ()
def slices_IndexFunc_Item (n : Nat) (a0 : List Item) (a1 : Int) (a2 : Int) (a3 : Int) (a4 : Str) (a5 : Str) (a6 : Str) (a7 : Int) (a8 : List Str) (a9 : List Str) (a10 : List Road) (a11 : List Grand) (a12 : Int) (a13 : Int) (a14 : List (Int × List (Arr2_Str × Int))) : Option Int :=
  withK (fun (_ : Unit) =>
      some (-1)) fun k1 =>
  loopN (slices_IndexFunc_Item_L1 n a0 a1 a2 a3 a4 a5 a6 a7 a8 a9 a10 a11 a12 a13 a14 k1) n 0
def slices_ContainsFunc_Item (n : Nat) (a0 : List Item) (a1 : Int) (a2 : Int) (a3 : Int) (a4 : Str) (a5 : Str) (a6 : Str) (a7 : Int) (a8 : List Str) (a9 : List Str) (a10 : List Road) (a11 : List Grand) (a12 : Int) (a13 : Int) (a14 : List (Int × List (Arr2_Str × Int))) : Option Bool :=
  (slices_IndexFunc_Item n a0 a1 a2 a3 a4 a5 a6 a7 a8 a9 a10 a11 a12 a13 a14).bind fun y1 =>
  some (decide ((0 : Int) ≤ y1))
def diary_plan_changes (n : Nat) (a0 : List Str) (a1 : List Str) (a2 : List Road) (a3 : List Grand) (a4 : Int) (a5 : Int) (a6 : List (Int × List (Arr2_Str × Int))) (a7 : List Item) (a8 : Item) : Option Int :=
  (slices_ContainsFunc_Item n a7 a8.Kind a8.From a8.To a8.Grand a8.Place a8.Who a8.Deposit a0 a1 a2 a3 a4 a5 a6).bind fun y1 =>
  bif y1 then
    some 17
  else
    some 0
def diary_plan_place_L1 (a7 : List Item) (a8 : Str) (a9 : Int) (k2 : (Str → Option Str)) (back : Str × Nat → Option Str) : Str × Nat → Option Str
  | (v3, v4) =>
  bif decide (v4 < a7.length) then
    withK (fun (v5 : Str) =>
        chk (nI (v4 + 1)) <|
        back (v5, v4 + 1)) fun k1 =>
    bif ((((ix a7 v4).Kind) == (1 : Int)) && (((ix a7 v4).Grand) == a8)) && (decide (((ix a7 v4).To) ≤ a9)) then
      k1 ((ix a7 v4).Place)
    else
      k1 v3
  else
    k2 v3
def diary_plan_place (n : Nat) (a0 : List Str) (a1 : List Str) (a2 : List Road) (a3 : List Grand) (a4 : Int) (a5 : Int) (a6 : List (Int × List (Arr2_Str × Int))) (a7 : List Item) (a8 : Str) (a9 : Int) : Option Str :=
  (diary_grand n (Diary.mk a0 a1 a2 a3 a4 a5) a8).bind fun y1 =>
  withK (fun (v6 : Str) =>
      some v6) fun k2 =>
  loopN (diary_plan_place_L1 a7 a8 a9 k2) n (y1.2.1, 0)
def diary_plan_stands (n : Nat) (a0 : List Str) (a1 : List Str) (a2 : List Road) (a3 : List Grand) (a4 : Int) (a5 : Int) (a6 : List (Int × List (Arr2_Str × Int))) (a7 : List Item) (a8 : Item) : Option (Int × (List (Int × List (Arr2_Str × Int)))) :=
  (diary_plan_place n a0 a1 a2 a3 a4 a5 a6 a7 a8.Grand a8.From).bind fun y1 =>
  bif (a8.Kind != (1 : Int)) then
    bif !(y1 == a8.Place) then
      some (13, a6)
    else
      some (0, a6)
  else
    (diary_grand n (Diary.mk a0 a1 a2 a3 a4 a5) a8.Grand).bind fun y2 =>
    (diary_plan_distance n a0 a1 a2 a3 a4 a5 a6 y1 a8.Place y2.2.2.1).bind fun y3 =>
    bif (y1 == a8.Place) then
      some (24, y3.2.2)
    else
      bif !y3.2.1 then
        some (12, y3.2.2)
      else
        chk (inI (a8.To - a8.From)) <|
        bif decide ((a8.To - a8.From) < y3.1) then
          some (18, y3.2.2)
        else
          some (0, y3.2.2)
def diary_plan_travels_L1 (n : Nat) (a0 : List Str) (a1 : List Str) (a2 : List Road) (a3 : List Grand) (a4 : Int) (a5 : Int) (a7 : List Item) (a8 : Item) (k2 : ((List (Int × List (Arr2_Str × Int))) → Option (Int × (List (Int × List (Arr2_Str × Int)))))) (back : Nat × (List (Int × List (Arr2_Str × Int))) → Option (Int × (List (Int × List (Arr2_Str × Int))))) : Nat × (List (Int × List (Arr2_Str × Int))) → Option (Int × (List (Int × List (Arr2_Str × Int))))
  | (v3, v4) =>
  bif decide (v3 < a7.length) then
    withK (fun (v6 : (List (Int × List (Arr2_Str × Int)))) =>
        chk (nI (v3 + 1)) <|
        back (v3 + 1, v6)) fun k1 =>
    bif (((ix a7 v3).Kind) != (0 : Int)) || (!(((ix a7 v3).Who) == a8.Who)) then
      k1 v4
    else
      (diary_plan_distance n a0 a1 a2 a3 a4 a5 v4 ((ix a7 v3).Place) a8.Place 1).bind fun y5 =>
      chk (!(!(!y5.2.1)) || inI (((ix a7 v3).To) + y5.1)) <|
      bif (!y5.2.1) || (decide (a8.From < (((ix a7 v3).To) + y5.1))) then
        some (16, y5.2.2)
      else
        k1 y5.2.2
  else
    k2 v4
def diary_plan_travels (n : Nat) (a0 : List Str) (a1 : List Str) (a2 : List Road) (a3 : List Grand) (a4 : Int) (a5 : Int) (a6 : List (Int × List (Arr2_Str × Int))) (a7 : List Item) (a8 : Item) : Option (Int × (List (Int × List (Arr2_Str × Int)))) :=
  bif (a8.Kind != (0 : Int)) then
    some (0, a6)
  else
    withK (fun (v7 : (List (Int × List (Arr2_Str × Int)))) =>
        some (0, v7)) fun k2 =>
    loopN (diary_plan_travels_L1 n a0 a1 a2 a3 a4 a5 a7 a8 k2) n (0, a6)
def diary_plan_tuning (n : Nat) (a0 : List Str) (a1 : List Str) (a2 : List Road) (a3 : List Grand) (a4 : Int) (a5 : Int) (a6 : List (Int × List (Arr2_Str × Int))) (a7 : List Item) (a8 : Item) : Option Int :=
  chk (decide (a7.length ≤ 4611686018427387904)) <|
  some (tuneL a8 a5 a7 a7.length)
def diary_plan_isTuned (n : Nat) (a0 : List Str) (a1 : List Str) (a2 : List Road) (a3 : List Grand) (a4 : Int) (a5 : Int) (a6 : List (Int × List (Arr2_Str × Int))) (a7 : List Item) (a8 : Item) : Option Int :=
  (gcall (a8.Kind == (2 : Int)) (diary_plan_tuning n a0 a1 a2 a3 a4 a5 a6 a7 a8)).bind fun y1 =>
  bif (a8.Kind == (2 : Int)) && (decide (y1 < (0 : Int))) then
    some 26
  else
    some 0
def diary_plan_accept_2_L1 (n : Nat) (a0 : List Str) (a1 : List Str) (a2 : List Road) (a3 : List Grand) (a4 : Int) (a5 : Int) (a7 : List Item) (k1 : ((List (Int × List (Arr2_Str × Int))) → Option (Int × Int × (List (Int × List (Arr2_Str × Int)))))) (back : Int × (List (Int × List (Arr2_Str × Int))) → Option (Int × Int × (List (Int × List (Arr2_Str × Int))))) : Int × (List (Int × List (Arr2_Str × Int))) → Option (Int × Int × (List (Int × List (Arr2_Str × Int))))
  | (v6, v7) =>
  bif decide (v6 < ((a7.length : Nat) : Int)) then
    chk (inB v6 a7.length) <|
    chk (decide (v6.toNat < a7.length)) <|
    (diary_checkItem n (Diary.mk a0 a1 a2 a3 a4 a5) (ix a7 v6.toNat)).bind fun y8 =>
    bif (y8 != (0 : Int)) then
      some (v6, y8, v7)
    else
      chk (!(decide ((0 : Int) < v6)) || inI (v6 - 1)) <|
      chk (!(decide ((0 : Int) < v6)) || inB (v6 - 1) a7.length) <|
      chk (!(decide ((0 : Int) < v6)) || decide ((v6 - 1).toNat < a7.length)) <|
      bif (decide ((0 : Int) < v6)) && (decide (((ix a7 v6.toNat).From) < ((ix a7 ((v6 - 1).toNat)).From))) then
        some (v6, 9, v7)
      else
        chk (inC v6 a7.length) <|
        (diary_plan_changes n a0 a1 a2 a3 a4 a5 v7 (List.take v6.toNat a7) (ix a7 v6.toNat)).bind fun y9 =>
        bif (y9 != (0 : Int)) then
          some (v6, y9, v7)
        else
          (diary_plan_stands n a0 a1 a2 a3 a4 a5 v7 (List.take v6.toNat a7) (ix a7 v6.toNat)).bind fun y10 =>
          bif (y10.1 != (0 : Int)) then
            some (v6, y10.1, y10.2)
          else
            (diary_plan_travels n a0 a1 a2 a3 a4 a5 y10.2 (List.take v6.toNat a7) (ix a7 v6.toNat)).bind fun y11 =>
            bif (y11.1 != (0 : Int)) then
              some (v6, y11.1, y11.2)
            else
              (diary_plan_isTuned n a0 a1 a2 a3 a4 a5 y11.2 (List.take v6.toNat a7) (ix a7 v6.toNat)).bind fun y12 =>
              bif (y12 != (0 : Int)) then
                some (v6, y12, y11.2)
              else
                chk (inI (v6 + 1)) <|
                back (v6 + 1, y11.2)
  else
    k1 v7
def diary_plan_accept_2 (n : Nat) (a0 : List Str) (a1 : List Str) (a2 : List Road) (a3 : List Grand) (a4 : Int) (a5 : Int) (a6 : List (Int × List (Arr2_Str × Int))) (a7 : List Item) : Option (Int × Int × (List (Int × List (Arr2_Str × Int)))) :=
  bif decide (100 < a7.length) then
    some (0, 8, a6)
  else
    withK (fun (v13 : (List (Int × List (Arr2_Str × Int)))) =>
        some ((-1), 0, v13)) fun k1 =>
    loopN (diary_plan_accept_2_L1 n a0 a1 a2 a3 a4 a5 a7 k1) n (0, a6)
def diary_Accept (n : Nat) (a0 : Diary) (a1 : List Item) : Option (Int × Int) :=
  withK (fun (v4 : Int) =>
      bif (v4 != (0 : Int)) then
        some (v4, 0)
      else
        (diary_plan_accept n a1).bind fun y5 =>
        some (y5.2, y5.1)) fun k1 =>
  withK (fun (_ : Unit) =>
      (diary_plan_accept_2 n a0.Places a0.Technicians a0.Roads a0.Grands a0.Change a0.Lasts ([] : List (Int × List (Arr2_Str × Int))) a1).bind fun y6 =>
      some (y6.2.1, y6.1)) fun k2 =>
  (diary_open n a0).bind fun y1 =>
  match y1 with
  | .inl y1 =>
    k1 y1
  | .inr y1 =>
    k2 ()
def diary_read (n : Nat) (a0 : Diary) (a1 : List Item) : Option (Int ⊕ (Int × (List (Int × List (Arr2_Str × Int))))) :=
  withK (fun (v4 : Int) =>
      bif (v4 != (0 : Int)) then
        some (.inl v4)
      else
        (diary_plan_accept n a1).bind fun y5 =>
        some (.inl y5.2)) fun k1 =>
  withK (fun (_ : Unit) =>
      (diary_plan_accept_2 n a0.Places a0.Technicians a0.Roads a0.Grands a0.Change a0.Lasts ([] : List (Int × List (Arr2_Str × Int))) a1).bind fun y6 =>
      some (.inr (y6.2.1, y6.2.2))) fun k2 =>
  (diary_open n a0).bind fun y1 =>
  match y1 with
  | .inl y1 =>
    k1 y1
  | .inr y1 =>
    k2 ()
def slices_Sort_int (n : Nat) (a0 : List Int) : Option (List Int) :=
  chk (decide (a0.length < 4611686018427387904)) <|
  some (sortI a0)
def slices_Compact_int_L1 (a1 : Nat) (a2 : Nat) (v10 : Nat) (k2 : (Nat × (List Int) → Option (Nat × (List Int)))) (back : Nat × Nat × (List Int) → Option (Nat × (List Int))) : Nat × Nat × (List Int) → Option (Nat × (List Int))
  | (v13, v14, v15) =>
  bif decide (v14 < (a2 - v10)) then
    withK (fun (v16, v17) =>
        chk (nI (v14 + 1)) <|
        back (v16, v14 + 1, v17)) fun k1 =>
    chk (decide ((a1 + v10) + v14 < v15.length)) <|
    chk (inI (((v14 : Nat) : Int) - 1)) <|
    chk (inB (((v14 : Nat) : Int) - 1) (a2 - v10)) <|
    chk (decide ((a1 + v10) + ((((v14 : Nat) : Int) - 1).toNat) < v15.length)) <|
    bif ((ix v15 ((a1 + v10) + v14)) != (ix v15 ((a1 + v10) + ((((v14 : Nat) : Int) - 1).toNat)))) then
      chk (decide (v13 < a2)) <|
      chk (decide (a1 + v13 < v15.length)) <|
      chk (nI (v13 + 1)) <|
      k1 (v13 + 1, (List.set v15 (a1 + v13) (ix v15 ((a1 + v10) + v14))))
    else
      k1 (v13, v15)
  else
    k2 (v13, v15)
def slices_Compact_int_L2 (n : Nat) (a0 : List Int) (a1 : Nat) (a2 : Nat) (k3 : (Unit → Option (Nat × (List Int)))) (back : Nat → Option (Nat × (List Int))) : Nat → Option (Nat × (List Int))
  | v10 =>
  bif decide (v10 < a2) then
    chk (decide (a1 + v10 < a0.length)) <|
    chk (inI (((v10 : Nat) : Int) - 1)) <|
    chk (inB (((v10 : Nat) : Int) - 1) a2) <|
    chk (decide (a1 + ((((v10 : Nat) : Int) - 1).toNat) < a0.length)) <|
    bif ((ix a0 (a1 + v10)) == (ix a0 (a1 + ((((v10 : Nat) : Int) - 1).toNat)))) then
      withK (fun (v18, v19) =>
          chk (decide (v18 < a2)) <|
          chk (decide (0 < (a2 - v18))) <|
          chk (decide ((a1 + v18) + (a2 - v18) ≤ v19.length)) <|
          chk (decide (a1 + v18 ≤ (clrP v19 (a1 + v18) (a2 - v18) (0 : Int)).length)) <|
          chk (decide (v18 ≤ a2)) <|
          some (v18, (clrP v19 (a1 + v18) (a2 - v18) (0 : Int)))) fun k2 =>
      loopN (slices_Compact_int_L1 a1 a2 v10 k2) n (v10, 1, a0)
    else
      chk (nI (v10 + 1)) <|
      back (v10 + 1)
  else
    k3 ()
def slices_Compact_int (n : Nat) (a0 : List Int) (a1 : Nat) (a2 : Nat) : Option (Nat × (List Int)) :=
  bif decide (a2 < 2) then
    some (a2, a0)
  else
    withK (fun (_ : Unit) =>
        some (a2, a0)) fun k3 =>
    loopN (slices_Compact_int_L2 n a0 a1 a2 k3) n 1
def slices_Clone_Item (n : Nat) (a0 : List Item) : Option (List Item) :=
  nilK (a0.isEmpty) fun b1 =>
  bif b1 then
    some ([] : List Item)
  else
    chk (room 80 a0.length) <|
    some a0
def slices_Insert_Item (n : Nat) (a0 : List Item) (a1 : Int) (a2 : List Item) : Option (List Item) :=
  chk (inC a1 a0.length) <|
  chk (decide (a2.length = 1)) <|
  chk (room 80 (a0.length + 1)) <|
  some (insL a0 a1.toNat (ix a2 0))
def diary_plan_add_L1 (a0 : List Item) (a1 : Item) (k1 : (Nat → Option (Int × (List Item)))) (back : Nat → Option (Int × (List Item))) : Nat → Option (Int × (List Item))
  | v1 =>
  bif (decide (v1 < a0.length)) && (decide (((ix a0 v1).From) ≤ a1.From)) then
    chk (nI (v1 + 1)) <|
    back (v1 + 1)
  else
    k1 v1
def diary_plan_add (n : Nat) (a0 : List Item) (a1 : Item) : Option (Int × (List Item)) :=
  withK (fun (v2 : Nat) =>
      (slices_Clone_Item n a0).bind fun y3 =>
      (slices_Insert_Item n y3 ((v2 : Nat) : Int) ([a1] : List Item)).bind fun y4 =>
      (diary_plan_accept n y4).bind fun y5 =>
      bif (y5.2 != (0 : Int)) then
        some (y5.2, ([] : List Item))
      else
        some (0, y4)) fun k1 =>
  loopN (diary_plan_add_L1 a0 a1 k1) n 0
def diary_plan_add_2_L1 (a7 : List Item) (a8 : Item) (k1 : (Nat → Option (Int × (List (Int × List (Arr2_Str × Int))) × (List Item)))) (back : Nat → Option (Int × (List (Int × List (Arr2_Str × Int))) × (List Item))) : Nat → Option (Int × (List (Int × List (Arr2_Str × Int))) × (List Item))
  | v1 =>
  bif (decide (v1 < a7.length)) && (decide (((ix a7 v1).From) ≤ a8.From)) then
    chk (nI (v1 + 1)) <|
    back (v1 + 1)
  else
    k1 v1
def diary_plan_add_2 (n : Nat) (a0 : List Str) (a1 : List Str) (a2 : List Road) (a3 : List Grand) (a4 : Int) (a5 : Int) (a6 : List (Int × List (Arr2_Str × Int))) (a7 : List Item) (a8 : Item) : Option (Int × (List (Int × List (Arr2_Str × Int))) × (List Item)) :=
  withK (fun (v2 : Nat) =>
      (slices_Clone_Item n a7).bind fun y3 =>
      (slices_Insert_Item n y3 ((v2 : Nat) : Int) ([a8] : List Item)).bind fun y4 =>
      (diary_plan_accept_2 n a0 a1 a2 a3 a4 a5 a6 y4).bind fun y5 =>
      bif (y5.2.1 != (0 : Int)) then
        some (y5.2.1, y5.2.2, ([] : List Item))
      else
        some (0, y5.2.2, y4)) fun k1 =>
  loopN (diary_plan_add_2_L1 a7 a8 k1) n 0
def diary_FreeFrom_L2 (n : Nat) (a1 : List Item) (a2 : Item) (y7 : Nat × (List Int)) (k4 : (Unit → Option (Int × Int))) (back : Nat → Option (Int × Int)) : Nat → Option (Int × Int)
  | v9 =>
  bif decide (v9 < y7.1) then
    withK (fun (_ : Unit) =>
        chk (nI (v9 + 1)) <|
        back (v9 + 1)) fun k3 =>
    chk (decide (v9 < y7.2.length)) <|
    chk (!(!(decide ((ix y7.2 v9) < a2.From))) || inI ((ix y7.2 v9) + (a2.To - a2.From))) <|
    bif (decide ((ix y7.2 v9) < a2.From)) || (decide ((1000000 : Int) < ((ix y7.2 v9) + (a2.To - a2.From)))) then
      k3 ()
    else
      chk (inI ((ix y7.2 v9) + (a2.To - a2.From))) <|
      (diary_plan_add n a1 (Item.mk a2.Kind (ix y7.2 v9) ((ix y7.2 v9) + (a2.To - a2.From)) a2.Grand a2.Place a2.Who a2.Deposit)).bind fun y10 =>
      bif (y10.1 == (0 : Int)) then
        some (0, (ix y7.2 v9))
      else
        k3 ()
  else
    k4 ()
def diary_FreeFrom_L1 (a0 : Diary) (a1 : List Item) (a2 : Item) (k2 : (Unit → Option (Int × Int))) (back : Unit → Option (Int × Int)) : Unit → Option (Int × Int)
  | _ =>
  bif decide (0 < a1.length) then
    chk (inI (((ix a1 0).To) + a0.Change)) <|
    chk (room 8 (([a2.From] : List Int) ++ ([(ix a1 0).From, (ix a1 0).To, ((ix a1 0).To) + a0.Change] : List Int)).length) <|
    none
  else
    k2 ()
def diary_FreeFrom_L4 (n : Nat) (a0 : Diary) (a1 : List Item) (a2 : Item) (y26 : Nat × (List Int)) (k9 : (Unit → Option (Int × Int))) (back : Nat × (List (Int × List (Arr2_Str × Int))) → Option (Int × Int)) : Nat × (List (Int × List (Arr2_Str × Int))) → Option (Int × Int)
  | (v29, v30) =>
  bif decide (v29 < y26.1) then
    withK (fun (v32 : (List (Int × List (Arr2_Str × Int)))) =>
        chk (nI (v29 + 1)) <|
        back (v29 + 1, v32)) fun k8 =>
    chk (decide (v29 < y26.2.length)) <|
    chk (!(!(decide ((ix y26.2 v29) < a2.From))) || inI ((ix y26.2 v29) + (a2.To - a2.From))) <|
    bif (decide ((ix y26.2 v29) < a2.From)) || (decide ((1000000 : Int) < ((ix y26.2 v29) + (a2.To - a2.From)))) then
      k8 v30
    else
      chk (inI ((ix y26.2 v29) + (a2.To - a2.From))) <|
      (diary_plan_add_2 n a0.Places a0.Technicians a0.Roads a0.Grands a0.Change a0.Lasts v30 a1 (Item.mk a2.Kind (ix y26.2 v29) ((ix y26.2 v29) + (a2.To - a2.From)) a2.Grand a2.Place a2.Who a2.Deposit)).bind fun y31 =>
      bif (y31.1 == (0 : Int)) then
        some (0, (ix y26.2 v29))
      else
        k8 y31.2.1
  else
    k9 ()
def diary_FreeFrom_L3 (n : Nat) (a0 : Diary) (a1 : List Item) (a2 : Item) (k7 : ((List Int) × (List (Int × List (Arr2_Str × Int))) → Option (Int × Int))) (back : Nat × (List Int) × (List (Int × List (Arr2_Str × Int))) → Option (Int × Int)) : Nat × (List Int) × (List (Int × List (Arr2_Str × Int))) → Option (Int × Int)
  | (v17, v18, v19) =>
  bif decide (v17 < a1.length) then
    withK (fun (v21, v22) =>
        chk (nI (v17 + 1)) <|
        back (v17 + 1, v21, v22)) fun k6 =>
    chk (inI (((ix a1 v17).To) + a0.Change)) <|
    chk (room 8 (v18 ++ ([(ix a1 v17).From, (ix a1 v17).To, ((ix a1 v17).To) + a0.Change] : List Int)).length) <|
    (diary_plan_distance n a0.Places a0.Technicians a0.Roads a0.Grands a0.Change a0.Lasts v19 ((ix a1 v17).Place) a2.Place 1).bind fun y20 =>
    bif y20.2.1 then
      chk (inI (((ix a1 v17).To) + y20.1)) <|
      chk (room 8 ((v18 ++ ([(ix a1 v17).From, (ix a1 v17).To, ((ix a1 v17).To) + a0.Change] : List Int)) ++ ([((ix a1 v17).To) + y20.1] : List Int)).length) <|
      k6 (((v18 ++ ([(ix a1 v17).From, (ix a1 v17).To, ((ix a1 v17).To) + a0.Change] : List Int)) ++ ([((ix a1 v17).To) + y20.1] : List Int)), y20.2.2)
    else
      k6 ((v18 ++ ([(ix a1 v17).From, (ix a1 v17).To, ((ix a1 v17).To) + a0.Change] : List Int)), y20.2.2)
  else
    k7 (v18, v19)
def diary_FreeFrom (n : Nat) (a0 : Diary) (a1 : List Item) (a2 : Item) : Option (Int × Int) :=
  withK (fun (v4 : Int) =>
      bif (v4 != (0 : Int)) then
        some (v4, 0)
      else
        bif decide (100 ≤ a1.length) then
          some (8, 0)
        else
          (diary_checkItem n a0 a2).bind fun y5 =>
          bif (y5 != (0 : Int)) then
            some (y5, 0)
          else
            withK (fun (_ : Unit) =>
                (slices_Sort_int n ([a2.From] : List Int)).bind fun y6 =>
                chk (inI (a2.To - a2.From)) <|
                withK (fun (_ : Unit) =>
                    some (12, 0)) fun k4 =>
                (slices_Compact_int n y6 0 1).bind fun y7 =>
                loopN (diary_FreeFrom_L2 n a1 a2 y7 k4) n 0) fun k2 =>
            loopN (diary_FreeFrom_L1 a0 a1 a2 k2) n ()) fun k1 =>
  withK (fun (v11, v12) =>
      bif (v11 != (0 : Int)) then
        some (v11, 0)
      else
        bif decide (100 ≤ a1.length) then
          some (8, 0)
        else
          (diary_checkItem n a0 a2).bind fun y13 =>
          bif (y13 != (0 : Int)) then
            some (y13, 0)
          else
            withK (fun (v23, v24) =>
                (slices_Sort_int n v23).bind fun y25 =>
                chk (decide (v23.length = y25.length)) <|
                chk (inI (a2.To - a2.From)) <|
                withK (fun (_ : Unit) =>
                    some (12, 0)) fun k9 =>
                (slices_Compact_int n y25 0 y25.length).bind fun y26 =>
                chk (decide (y25.length = y26.2.length)) <|
                loopN (diary_FreeFrom_L4 n a0 a1 a2 y26 k9) n (0, v24)) fun k7 =>
            loopN (diary_FreeFrom_L3 n a0 a1 a2 k7) n (0, ([a2.From] : List Int), v12)) fun k5 =>
  (diary_read n a0 a1).bind fun y1 =>
  match y1 with
  | .inl y1 =>
    k1 y1
  | .inr y1 =>
    k5 (y1.1, y1.2)
def diary_CheckWindows_L1 (n : Nat) (a0 : List Window) (k1 : (Unit → Option Int)) (back : Nat → Option Int) : Nat → Option Int
  | v3 =>
  bif decide (v3 < a0.length) then
    (diary_within n ((ix a0 v3).From) 0 1000).bind fun y4 =>
    (gcall (!(!((decide (0 ≤ ((ix a0 v3).From))) && (decide (((ix a0 v3).From) ≤ 1000))))) (diary_within n ((ix a0 v3).To) 0 1000)).bind fun y5 =>
    bif (!((decide (0 ≤ ((ix a0 v3).From))) && (decide (((ix a0 v3).From) ≤ 1000)))) || (!((decide (0 ≤ ((ix a0 v3).To))) && (decide (((ix a0 v3).To) ≤ 1000)))) then
      some 2
    else
      bif decide (((ix a0 v3).To) ≤ ((ix a0 v3).From)) then
        some 9
      else
        chk (nI (v3 + 1)) <|
        back (v3 + 1)
  else
    k1 ()
def diary_CheckWindows (n : Nat) (a0 : List Window) : Option Int :=
  bif decide (60 < a0.length) then
    some 8
  else
    withK (fun (_ : Unit) =>
        some 0) fun k1 =>
    loopN (diary_CheckWindows_L1 n a0 k1) n 0
def math_bits_Mul64 (n : Nat) (a0 : Int) (a1 : Int) : Option Unit :=
  some ()
def math_bits_Mul (n : Nat) (a0 : Int) (a1 : Int) : Option Unit :=
  (math_bits_Mul64 n a0 a1).bind fun y1 =>
  some ()
def slices_Repeat_int_L1 (a0 : List Int) (a1 : Int) (k1 : ((List Int) → Option (List Int))) (back : Nat × (List Int) → Option (List Int)) : Nat × (List Int) → Option (List Int)
  | (v2, v3) =>
  bif decide (v2 < ((List.replicate ((IntKind.u64.wrap ((IntKind.u64.wrap ((a0.length : Nat) : Int)) * (IntKind.u64.wrap a1))).toNat) (0 : Int)).length)) then
    chk (decide (v2 ≤ ((List.replicate ((IntKind.u64.wrap ((IntKind.u64.wrap ((a0.length : Nat) : Int)) * (IntKind.u64.wrap a1))).toNat) (0 : Int)).length))) <|
    chk (decide (v2 + (((List.replicate ((IntKind.u64.wrap ((IntKind.u64.wrap ((a0.length : Nat) : Int)) * (IntKind.u64.wrap a1))).toNat) (0 : Int)).length) - v2) ≤ v3.length)) <|
    chk (decide (0 + v2 ≤ v3.length)) <|
    chk (nI (v2 + (Nat.min (List.take v2 (List.drop 0 v3)).length (((List.replicate ((IntKind.u64.wrap ((IntKind.u64.wrap ((a0.length : Nat) : Int)) * (IntKind.u64.wrap a1))).toNat) (0 : Int)).length) - v2)))) <|
    back (v2 + (Nat.min (List.take v2 (List.drop 0 v3)).length (((List.replicate ((IntKind.u64.wrap ((IntKind.u64.wrap ((a0.length : Nat) : Int)) * (IntKind.u64.wrap a1))).toNat) (0 : Int)).length) - v2)), (cpyP v3 v2 (List.take (Nat.min (List.take v2 (List.drop 0 v3)).length (((List.replicate ((IntKind.u64.wrap ((IntKind.u64.wrap ((a0.length : Nat) : Int)) * (IntKind.u64.wrap a1))).toNat) (0 : Int)).length) - v2)) (List.take v2 (List.drop 0 v3)))))
  else
    k1 v3
def slices_Repeat_int (n : Nat) (a0 : List Int) (a1 : Int) : Option (List Int) :=
  bif decide (a1 < (0 : Int)) then
    none
  else
    (math_bits_Mul n (IntKind.u64.wrap ((a0.length : Nat) : Int)) (IntKind.u64.wrap a1)).bind fun y1 =>
    bif (decide ((0 : Int) < (IntKind.u64.wrap ((IntKind.u64.wrap ((IntKind.u64.wrap ((Int.fdiv (IntKind.u64.wrap ((a0.length : Nat) : Int)) (2 ^ (min 32 64))) * (Int.fdiv (IntKind.u64.wrap a1) (2 ^ (min 32 64))))) + (Int.fdiv (IntKind.u64.wrap ((IntKind.u64.wrap ((Int.fdiv (IntKind.u64.wrap ((a0.length : Nat) : Int)) (2 ^ (min 32 64))) * (iAnd .u64 (IntKind.u64.wrap a1) 4294967295))) + (Int.fdiv (IntKind.u64.wrap ((iAnd .u64 (IntKind.u64.wrap ((a0.length : Nat) : Int)) 4294967295) * (iAnd .u64 (IntKind.u64.wrap a1) 4294967295))) (2 ^ (min 32 64))))) (2 ^ (min 32 64))))) + (Int.fdiv (IntKind.u64.wrap ((iAnd .u64 (IntKind.u64.wrap ((IntKind.u64.wrap ((Int.fdiv (IntKind.u64.wrap ((a0.length : Nat) : Int)) (2 ^ (min 32 64))) * (iAnd .u64 (IntKind.u64.wrap a1) 4294967295))) + (Int.fdiv (IntKind.u64.wrap ((iAnd .u64 (IntKind.u64.wrap ((a0.length : Nat) : Int)) 4294967295) * (iAnd .u64 (IntKind.u64.wrap a1) 4294967295))) (2 ^ (min 32 64))))) 4294967295) + (IntKind.u64.wrap ((iAnd .u64 (IntKind.u64.wrap ((a0.length : Nat) : Int)) 4294967295) * (Int.fdiv (IntKind.u64.wrap a1) (2 ^ (min 32 64))))))) (2 ^ (min 32 64))))))) || (decide ((9223372036854775807 : Int) < (IntKind.u64.wrap ((IntKind.u64.wrap ((a0.length : Nat) : Int)) * (IntKind.u64.wrap a1))))) then
      none
    else
      chk (inI (IntKind.u64.wrap ((IntKind.u64.wrap ((a0.length : Nat) : Int)) * (IntKind.u64.wrap a1)))) <|
      chk (decide (0 ≤ (IntKind.u64.wrap ((IntKind.u64.wrap ((a0.length : Nat) : Int)) * (IntKind.u64.wrap a1))))) <|
      chk (mkroom 8 ((IntKind.u64.wrap ((IntKind.u64.wrap ((a0.length : Nat) : Int)) * (IntKind.u64.wrap a1))).toNat)) <|
      chk (decide (0 + ((List.replicate ((IntKind.u64.wrap ((IntKind.u64.wrap ((a0.length : Nat) : Int)) * (IntKind.u64.wrap a1))).toNat) (0 : Int)).length) ≤ (List.replicate ((IntKind.u64.wrap ((IntKind.u64.wrap ((a0.length : Nat) : Int)) * (IntKind.u64.wrap a1))).toNat) (0 : Int)).length)) <|
      chk (decide (0 + a0.length ≤ a0.length)) <|
      withK (fun (v4 : (List Int)) =>
          some v4) fun k1 =>
      loopN (slices_Repeat_int_L1 a0 a1 k1) n (Nat.min (List.take a0.length (List.drop 0 a0)).length ((List.replicate ((IntKind.u64.wrap ((IntKind.u64.wrap ((a0.length : Nat) : Int)) * (IntKind.u64.wrap a1))).toNat) (0 : Int)).length), (cpyP (List.replicate ((IntKind.u64.wrap ((IntKind.u64.wrap ((a0.length : Nat) : Int)) * (IntKind.u64.wrap a1))).toNat) (0 : Int)) 0 (List.take (Nat.min (List.take a0.length (List.drop 0 a0)).length ((List.replicate ((IntKind.u64.wrap ((IntKind.u64.wrap ((a0.length : Nat) : Int)) * (IntKind.u64.wrap a1))).toNat) (0 : Int)).length)) (List.take a0.length (List.drop 0 a0)))))
def diary_schedule_L1 (a0 : List Window) (v8 : Nat) (v9 : List Int) (k2 : (Int → Option (List Int))) (back : Int × Nat → Option (List Int)) : Int × Nat → Option (List Int)
  | (v11, v12) =>
  bif decide (v12 < a0.length) then
    withK (fun (v13 : Int) =>
        chk (nI (v12 + 1)) <|
        back (v13, v12 + 1)) fun k1 =>
    chk (decide (v12 < ((List.replicate ((IntKind.u64.wrap ((IntKind.u64.wrap ((([(-1)] : List Int).length : Nat) : Int)) * (IntKind.u64.wrap ((a0.length : Nat) : Int)))).toNat) (0 : Int)).length))) <|
    chk (decide (v12 < v9.length)) <|
    chk (!((((decide ((ix v9 v12) < (0 : Int))) && (decide (((ix a0 v12).From) ≤ ((v8 : Nat) : Int)))) && (decide (((v8 : Nat) : Int) < ((ix a0 v12).To)))) && !(decide (v11 < (0 : Int)))) || inB v11 a0.length) <|
    chk (!((((decide ((ix v9 v12) < (0 : Int))) && (decide (((ix a0 v12).From) ≤ ((v8 : Nat) : Int)))) && (decide (((v8 : Nat) : Int) < ((ix a0 v12).To)))) && !(decide (v11 < (0 : Int)))) || decide (v11.toNat < a0.length)) <|
    bif (((decide ((ix v9 v12) < (0 : Int))) && (decide (((ix a0 v12).From) ≤ ((v8 : Nat) : Int)))) && (decide (((v8 : Nat) : Int) < ((ix a0 v12).To)))) && ((decide (v11 < (0 : Int))) || (decide (((ix a0 v12).To) < ((ix a0 v11.toNat).To)))) then
      k1 ((v12 : Nat) : Int)
    else
      k1 v11
  else
    k2 v11
def diary_schedule_L2 (n : Nat) (a0 : List Window) (k4 : ((List Int) → Option (List Int))) (back : Nat × (List Int) → Option (List Int)) : Nat × (List Int) → Option (List Int)
  | (v8, v9) =>
  bif decide (v8 < 1000) then
    withK (fun (v15 : (List Int)) =>
        chk (nI (v8 + 1)) <|
        back (v8 + 1, v15)) fun k3 =>
    withK (fun (v14 : Int) =>
        bif decide ((0 : Int) ≤ v14) then
          chk (inB v14 ((List.replicate ((IntKind.u64.wrap ((IntKind.u64.wrap ((([(-1)] : List Int).length : Nat) : Int)) * (IntKind.u64.wrap ((a0.length : Nat) : Int)))).toNat) (0 : Int)).length)) <|
          chk (decide (v14.toNat < v9.length)) <|
          k3 (List.set v9 v14.toNat ((v8 : Nat) : Int))
        else
          k3 v9) fun k2 =>
    loopN (diary_schedule_L1 a0 v8 v9 k2) n ((-1), 0)
  else
    k4 v9
def diary_schedule (n : Nat) (a0 : List Window) : Option (List Int) :=
  (slices_Repeat_int n ([(-1)] : List Int) ((a0.length : Nat) : Int)).bind fun y1 =>
  withK (fun (v16 : (List Int)) =>
      some v16) fun k4 =>
  loopN (diary_schedule_L2 n a0 k4) n (0, y1)
def diary_Most (n : Nat) (a0 : List Window) : Option (Int ⊕ (List Int)) :=
  (diary_CheckWindows n a0).bind fun y1 =>
  bif (y1 != (0 : Int)) then
    some (.inl y1)
  else
    (diary_schedule n a0).bind fun y2 =>
    some (.inr y2)
def agraffebase_Ints_L1 (a0 : List Int) (a1 : List Int) (k1 : (Unit → Option Bool)) (back : Nat → Option Bool) : Nat → Option Bool
  | v1 =>
  bif decide (v1 < a0.length) then
    chk (decide (v1 < a1.length)) <|
    bif ((ix a0 v1) != (ix a1 v1)) then
      some false
    else
      chk (nI (v1 + 1)) <|
      back (v1 + 1)
  else
    k1 ()
def agraffebase_Ints (n : Nat) (a0 : List Int) (a1 : List Int) : Option Bool :=
  bif !decide (a0.length = a1.length) then
    some false
  else
    withK (fun (_ : Unit) =>
        some true) fun k1 =>
    loopN (agraffebase_Ints_L1 a0 a1 k1) n 0
def agraffebase_Ints_2_L1 (a0 : List Int) (a1 : Nat) (a2 : Nat) (a3 : List Int) (k1 : (Unit → Option Bool)) (back : Nat → Option Bool) : Nat → Option Bool
  | v1 =>
  bif decide (v1 < a2) then
    chk (decide (a1 + v1 < a0.length)) <|
    chk (decide (v1 < a3.length)) <|
    bif ((ix a0 (a1 + v1)) != (ix a3 v1)) then
      some false
    else
      chk (nI (v1 + 1)) <|
      back (v1 + 1)
  else
    k1 ()
def agraffebase_Ints_2 (n : Nat) (a0 : List Int) (a1 : Nat) (a2 : Nat) (a3 : List Int) : Option Bool :=
  bif !decide (a2 = a3.length) then
    some false
  else
    withK (fun (_ : Unit) =>
        some true) fun k1 =>
    loopN (agraffebase_Ints_2_L1 a0 a1 a2 a3 k1) n 0
def agraffelaw09_awake (n : Nat)  : Option Bool :=
  (agraffelaw09_Town n).bind fun y1 =>
  (diary_Distances n (Diary.mk ([([115, 104, 111, 112] : Str), ([104, 97, 108, 108] : Str), ([104, 111, 109, 101] : Str)] : List Str) ([([97, 110, 110] : Str), ([98, 111, 98] : Str)] : List Str) ([(Road.mk ([115, 104, 111, 112] : Str) ([104, 97, 108, 108] : Str) 30 200), (Road.mk ([104, 97, 108, 108] : Str) ([104, 111, 109, 101] : Str) 20 100), (Road.mk ([115, 104, 111, 112] : Str) ([104, 111, 109, 101] : Str) 60 150)] : List Road) ([(Grand.mk ([103] : Str) ([115, 104, 111, 112] : Str) 150), (Grand.mk ([117] : Str) ([104, 111, 109, 101] : Str) 100)] : List Grand) 10 300) ([115, 104, 111, 112] : Str) 100).bind fun y2 =>
  (agraffelaw09_Town n).bind fun y3 =>
  (agraffelaw09_Evening n).bind fun y4 =>
  (diary_Accept n (Diary.mk ([([115, 104, 111, 112] : Str), ([104, 97, 108, 108] : Str), ([104, 111, 109, 101] : Str)] : List Str) ([([97, 110, 110] : Str), ([98, 111, 98] : Str)] : List Str) ([(Road.mk ([115, 104, 111, 112] : Str) ([104, 97, 108, 108] : Str) 30 200), (Road.mk ([104, 97, 108, 108] : Str) ([104, 111, 109, 101] : Str) 20 100), (Road.mk ([115, 104, 111, 112] : Str) ([104, 111, 109, 101] : Str) 60 150)] : List Road) ([(Grand.mk ([103] : Str) ([115, 104, 111, 112] : Str) 150), (Grand.mk ([117] : Str) ([104, 111, 109, 101] : Str) 100)] : List Grand) 10 300) ([(Item.mk 1 0 40 ([103] : Str) ([104, 97, 108, 108] : Str) ([] : Str) 0), (Item.mk 0 50 110 ([103] : Str) ([104, 97, 108, 108] : Str) ([97, 110, 110] : Str) 0), (Item.mk 2 200 300 ([103] : Str) ([104, 97, 108, 108] : Str) ([] : Str) 0)] : List Item)).bind fun y5 =>
  (agraffelaw09_Town n).bind fun y6 =>
  (agraffelaw09_Evening n).bind fun y7 =>
  (diary_FreeFrom n (Diary.mk ([([115, 104, 111, 112] : Str), ([104, 97, 108, 108] : Str), ([104, 111, 109, 101] : Str)] : List Str) ([([97, 110, 110] : Str), ([98, 111, 98] : Str)] : List Str) ([(Road.mk ([115, 104, 111, 112] : Str) ([104, 97, 108, 108] : Str) 30 200), (Road.mk ([104, 97, 108, 108] : Str) ([104, 111, 109, 101] : Str) 20 100), (Road.mk ([115, 104, 111, 112] : Str) ([104, 111, 109, 101] : Str) 60 150)] : List Road) ([(Grand.mk ([103] : Str) ([115, 104, 111, 112] : Str) 150), (Grand.mk ([117] : Str) ([104, 111, 109, 101] : Str) 100)] : List Grand) 10 300) ([(Item.mk 1 0 40 ([103] : Str) ([104, 97, 108, 108] : Str) ([] : Str) 0), (Item.mk 0 50 110 ([103] : Str) ([104, 97, 108, 108] : Str) ([97, 110, 110] : Str) 0), (Item.mk 2 200 300 ([103] : Str) ([104, 97, 108, 108] : Str) ([] : Str) 0)] : List Item) (Item.mk 0 120 180 ([117] : Str) ([104, 111, 109, 101] : Str) ([97, 110, 110] : Str) 0)).bind fun y8 =>
  withK (fun (v12 : Int) =>
      withK (fun (v16 : Bool) =>
          some v16) fun k2 =>
      bif (y2.1 == (0 : Int)) then
        (agraffebase_Ints n y2.2 ([0, 30, 50] : List Int)).bind fun y13 =>
        bif ((((((y2.1 == (0 : Int)) && y13) && (y5.1 == (0 : Int))) && (y5.2 == ((-1) : Int))) && (y8.1 == (0 : Int))) && (y8.2 == (130 : Int))) && (v12 == (0 : Int)) then
          (agraffebase_Ints n ([] : List Int) ([0, 1, 2, (-1)] : List Int)).bind fun y14 =>
          k2 ((((((((y2.1 == (0 : Int)) && y13) && (y5.1 == (0 : Int))) && (y5.2 == ((-1) : Int))) && (y8.1 == (0 : Int))) && (y8.2 == (130 : Int))) && (v12 == (0 : Int))) && y14)
        else
          k2 ((((((((y2.1 == (0 : Int)) && y13) && (y5.1 == (0 : Int))) && (y5.2 == ((-1) : Int))) && (y8.1 == (0 : Int))) && (y8.2 == (130 : Int))) && (v12 == (0 : Int))) && false)
      else
        bif ((((((y2.1 == (0 : Int)) && false) && (y5.1 == (0 : Int))) && (y5.2 == ((-1) : Int))) && (y8.1 == (0 : Int))) && (y8.2 == (130 : Int))) && (v12 == (0 : Int)) then
          (agraffebase_Ints n ([] : List Int) ([0, 1, 2, (-1)] : List Int)).bind fun y15 =>
          k2 ((((((((y2.1 == (0 : Int)) && false) && (y5.1 == (0 : Int))) && (y5.2 == ((-1) : Int))) && (y8.1 == (0 : Int))) && (y8.2 == (130 : Int))) && (v12 == (0 : Int))) && y15)
        else
          k2 ((((((((y2.1 == (0 : Int)) && false) && (y5.1 == (0 : Int))) && (y5.2 == ((-1) : Int))) && (y8.1 == (0 : Int))) && (y8.2 == (130 : Int))) && (v12 == (0 : Int))) && false)) fun k1 =>
  withK (fun (v17 : (List Int)) =>
      withK (fun (v21 : Bool) =>
          some v21) fun k4 =>
      bif (y2.1 == (0 : Int)) then
        (agraffebase_Ints n y2.2 ([0, 30, 50] : List Int)).bind fun y18 =>
        bif ((((((y2.1 == (0 : Int)) && y18) && (y5.1 == (0 : Int))) && (y5.2 == ((-1) : Int))) && (y8.1 == (0 : Int))) && (y8.2 == (130 : Int))) && true then
          (agraffebase_Ints_2 n v17 0 ((List.replicate ((IntKind.u64.wrap ((IntKind.u64.wrap ((([(-1)] : List Int).length : Nat) : Int)) * (IntKind.u64.wrap ((([(Window.mk 0 2), (Window.mk 0 2), (Window.mk 1 3), (Window.mk 2 3)] : List Window).length : Nat) : Int)))).toNat) (0 : Int)).length) ([0, 1, 2, (-1)] : List Int)).bind fun y19 =>
          k4 ((((((((y2.1 == (0 : Int)) && y18) && (y5.1 == (0 : Int))) && (y5.2 == ((-1) : Int))) && (y8.1 == (0 : Int))) && (y8.2 == (130 : Int))) && true) && y19)
        else
          k4 ((((((((y2.1 == (0 : Int)) && y18) && (y5.1 == (0 : Int))) && (y5.2 == ((-1) : Int))) && (y8.1 == (0 : Int))) && (y8.2 == (130 : Int))) && true) && false)
      else
        bif ((((((y2.1 == (0 : Int)) && false) && (y5.1 == (0 : Int))) && (y5.2 == ((-1) : Int))) && (y8.1 == (0 : Int))) && (y8.2 == (130 : Int))) && true then
          (agraffebase_Ints_2 n v17 0 ((List.replicate ((IntKind.u64.wrap ((IntKind.u64.wrap ((([(-1)] : List Int).length : Nat) : Int)) * (IntKind.u64.wrap ((([(Window.mk 0 2), (Window.mk 0 2), (Window.mk 1 3), (Window.mk 2 3)] : List Window).length : Nat) : Int)))).toNat) (0 : Int)).length) ([0, 1, 2, (-1)] : List Int)).bind fun y20 =>
          k4 ((((((((y2.1 == (0 : Int)) && false) && (y5.1 == (0 : Int))) && (y5.2 == ((-1) : Int))) && (y8.1 == (0 : Int))) && (y8.2 == (130 : Int))) && true) && y20)
        else
          k4 ((((((((y2.1 == (0 : Int)) && false) && (y5.1 == (0 : Int))) && (y5.2 == ((-1) : Int))) && (y8.1 == (0 : Int))) && (y8.2 == (130 : Int))) && true) && false)) fun k3 =>
  (diary_Most n ([(Window.mk 0 2), (Window.mk 0 2), (Window.mk 1 3), (Window.mk 2 3)] : List Window)).bind fun y9 =>
  match y9 with
  | .inl y9 =>
    k1 y9
  | .inr y9 =>
    k3 y9
def agraffelaw09_short_L1 (a0 : List Str) (k1 : (Unit → Option Bool)) (back : Nat → Option Bool) : Nat → Option Bool
  | v1 =>
  bif decide (v1 < a0.length) then
    bif decide (30 < ((ix a0 v1).length)) then
      some false
    else
      chk (nI (v1 + 1)) <|
      back (v1 + 1)
  else
    k1 ()
def agraffelaw09_short (n : Nat) (a0 : List Str) (a1 : Int) (a2 : Int) : Option Bool :=
  withK (fun (_ : Unit) =>
      chk (!((!(decide (((a0.length : Nat) : Int) ≤ a1))) && (decide (a2 < ((a0.length : Nat) : Int)))) || inI (a2 + 3)) <|
      some ((decide (((a0.length : Nat) : Int) ≤ a1)) || ((decide (a2 < ((a0.length : Nat) : Int))) && (decide (((a0.length : Nat) : Int) ≤ (a2 + 3)))))) fun k1 =>
  loopN (agraffelaw09_short_L1 a0 k1) n 0
def agraffelaw09_Light_L2 (a0 : Diary) (k2 : (Unit → Option Bool)) (back : Nat → Option Bool) : Nat → Option Bool
  | v4 =>
  bif decide (v4 < a0.Grands.length) then
    bif (decide (30 < (((ix a0.Grands v4).Name).length))) || (decide (30 < (((ix a0.Grands v4).Place).length))) then
      some false
    else
      chk (nI (v4 + 1)) <|
      back (v4 + 1)
  else
    k2 ()
def agraffelaw09_Light_L1 (a0 : Diary) (k1 : (Unit → Option Bool)) (back : Nat → Option Bool) : Nat → Option Bool
  | v3 =>
  bif decide (v3 < a0.Roads.length) then
    bif (decide (30 < (((ix a0.Roads v3).A).length))) || (decide (30 < (((ix a0.Roads v3).B).length))) then
      some false
    else
      chk (nI (v3 + 1)) <|
      back (v3 + 1)
  else
    k1 ()
def agraffelaw09_Light (n : Nat) (a0 : Diary) : Option Bool :=
  (agraffelaw09_short n a0.Places 6 20).bind fun y1 =>
  (gcall (!(!y1)) (agraffelaw09_short n a0.Technicians 4 12)).bind fun y2 =>
  bif (((((!y1) || (!y2)) || ((decide (8 < a0.Roads.length)) && (decide (a0.Roads.length ≤ 60)))) || (decide (63 < a0.Roads.length))) || ((decide (4 < a0.Grands.length)) && (decide (a0.Grands.length ≤ 12)))) || (decide (15 < a0.Grands.length)) then
    some false
  else
    withK (fun (_ : Unit) =>
        withK (fun (_ : Unit) =>
            some true) fun k2 =>
        loopN (agraffelaw09_Light_L2 a0 k2) n 0) fun k1 =>
    loopN (agraffelaw09_Light_L1 a0 k1) n 0
def agraffelaw09_slim (n : Nat) (a0 : Item) : Option Unit :=
  some ()
def agraffebase_isLetter (n : Nat) (a0 : Int) : Option Unit :=
  some ()
def agraffebase_isDigit (n : Nat) (a0 : Int) : Option Unit :=
  some ()
def agraffebase_IsName_L1 (n : Nat) (a0 : Str) (k1 : (Unit → Option Bool)) (back : Nat → Option Bool) : Nat → Option Bool
  | v4 =>
  bif decide (v4 < a0.length) then
    (agraffebase_isLetter n (((List.getD a0 v4 0).toNat : Nat) : Int)).bind fun y5 =>
    (gcall (!(((decide ((97 : Int) ≤ (((List.getD a0 v4 0).toNat : Nat) : Int))) && (decide ((((List.getD a0 v4 0).toNat : Nat) : Int) ≤ (122 : Int)))) || ((decide ((65 : Int) ≤ (((List.getD a0 v4 0).toNat : Nat) : Int))) && (decide ((((List.getD a0 v4 0).toNat : Nat) : Int) ≤ (90 : Int)))))) (agraffebase_isDigit n (((List.getD a0 v4 0).toNat : Nat) : Int))).bind fun y6 =>
    bif ((!(((decide ((97 : Int) ≤ (((List.getD a0 v4 0).toNat : Nat) : Int))) && (decide ((((List.getD a0 v4 0).toNat : Nat) : Int) ≤ (122 : Int)))) || ((decide ((65 : Int) ≤ (((List.getD a0 v4 0).toNat : Nat) : Int))) && (decide ((((List.getD a0 v4 0).toNat : Nat) : Int) ≤ (90 : Int)))))) && (!((decide ((48 : Int) ≤ (((List.getD a0 v4 0).toNat : Nat) : Int))) && (decide ((((List.getD a0 v4 0).toNat : Nat) : Int) ≤ (57 : Int)))))) && ((((List.getD a0 v4 0).toNat : Nat) : Int) != (45 : Int)) then
      some false
    else
      chk (nI (v4 + 1)) <|
      back (v4 + 1)
  else
    k1 ()
def agraffebase_IsName (n : Nat) (a0 : Str) : Option Bool :=
  chk (!(!((decide (a0.length = 0)) || (decide (12 < a0.length)))) || decide (0 < a0.length)) <|
  (gcall (!((decide (a0.length = 0)) || (decide (12 < a0.length)))) (agraffebase_isLetter n (((List.getD a0 0 0).toNat : Nat) : Int))).bind fun y1 =>
  bif ((decide (a0.length = 0)) || (decide (12 < a0.length))) || (!(((decide ((97 : Int) ≤ (((List.getD a0 0 0).toNat : Nat) : Int))) && (decide ((((List.getD a0 0 0).toNat : Nat) : Int) ≤ (122 : Int)))) || ((decide ((65 : Int) ≤ (((List.getD a0 0 0).toNat : Nat) : Int))) && (decide ((((List.getD a0 0 0).toNat : Nat) : Int) ≤ (90 : Int)))))) then
    some false
  else
    withK (fun (_ : Unit) =>
        some true) fun k1 =>
    loopN (agraffebase_IsName_L1 n a0 k1) n 0
def agraffebase_HasText_L1 (a0 : List Str) (a1 : Str) (k1 : (Unit → Option Bool)) (back : Nat → Option Bool) : Nat → Option Bool
  | v1 =>
  bif decide (v1 < a0.length) then
    bif ((ix a0 v1) == a1) then
      some true
    else
      chk (nI (v1 + 1)) <|
      back (v1 + 1)
  else
    k1 ()
def agraffebase_HasText (n : Nat) (a0 : List Str) (a1 : Str) : Option Bool :=
  withK (fun (_ : Unit) =>
      some false) fun k1 =>
  loopN (agraffebase_HasText_L1 a0 a1 k1) n 0
def agrafferef09_names_L1 (n : Nat) (a0 : List Str) (k1 : (Unit → Option Int)) (back : Nat → Option Int) : Nat → Option Int
  | v3 =>
  bif decide (v3 < a0.length) then
    (agraffebase_IsName n (ix a0 v3)).bind fun y4 =>
    bif !y4 then
      some 4
    else
      chk (decide (v3 ≤ a0.length)) <|
      (agraffebase_HasText n (List.take v3 a0) (ix a0 v3)).bind fun y5 =>
      bif y5 then
        some 5
      else
        chk (nI (v3 + 1)) <|
        back (v3 + 1)
  else
    k1 ()
def agrafferef09_names (n : Nat) (a0 : List Str) (a1 : Int) : Option Int :=
  bif decide (a1 < ((a0.length : Nat) : Int)) then
    some 8
  else
    withK (fun (_ : Unit) =>
        some 0) fun k1 =>
    loopN (agrafferef09_names_L1 n a0 k1) n 0
def agrafferef09_place_L1 (a0 : Diary) (a1 : Str) (k1 : (Unit → Option Int)) (back : Nat → Option Int) : Nat → Option Int
  | v1 =>
  bif decide (v1 < a0.Places.length) then
    bif ((ix a0.Places v1) == a1) then
      some ((v1 : Nat) : Int)
    else
      chk (nI (v1 + 1)) <|
      back (v1 + 1)
  else
    k1 ()
def agrafferef09_place (n : Nat) (a0 : Diary) (a1 : Str) : Option Int :=
  withK (fun (_ : Unit) =>
      some (-1)) fun k1 =>
  loopN (agrafferef09_place_L1 a0 a1 k1) n 0
def agraffebase_Within (n : Nat) (a0 : Int) (a1 : Int) (a2 : Int) : Option Unit :=
  some ()
def agrafferef09_IsWidth (n : Nat) (a0 : Int) : Option Unit :=
  (agraffebase_Within n a0 1 10000).bind fun y1 =>
  some ()
def agrafferef09_GrandAt_L1 (a0 : Diary) (a1 : Str) (k1 : (Unit → Option Int)) (back : Nat → Option Int) : Nat → Option Int
  | v1 =>
  bif decide (v1 < a0.Grands.length) then
    bif (((ix a0.Grands v1).Name) == a1) then
      some ((v1 : Nat) : Int)
    else
      chk (nI (v1 + 1)) <|
      back (v1 + 1)
  else
    k1 ()
def agrafferef09_GrandAt (n : Nat) (a0 : Diary) (a1 : Str) : Option Int :=
  withK (fun (_ : Unit) =>
      some (-1)) fun k1 =>
  loopN (agrafferef09_GrandAt_L1 a0 a1 k1) n 0
def agrafferef09_CheckDiary_L2 (n : Nat) (a0 : Diary) (k2 : (Unit → Option Int)) (back : Nat → Option Int) : Nat → Option Int
  | v15 =>
  bif decide (v15 < a0.Grands.length) then
    (agraffebase_IsName n ((ix a0.Grands v15).Name)).bind fun y16 =>
    bif !y16 then
      some 4
    else
      (agrafferef09_GrandAt n a0 ((ix a0.Grands v15).Name)).bind fun y17 =>
      bif decide (y17 < ((v15 : Nat) : Int)) then
        some 5
      else
        (agrafferef09_place n a0 ((ix a0.Grands v15).Place)).bind fun y18 =>
        bif decide (y18 < (0 : Int)) then
          some 6
        else
          (agrafferef09_IsWidth n ((ix a0.Grands v15).Width)).bind fun y19 =>
          bif !((decide (1 ≤ ((ix a0.Grands v15).Width))) && (decide (((ix a0.Grands v15).Width) ≤ 10000))) then
            some 2
          else
            chk (nI (v15 + 1)) <|
            back (v15 + 1)
  else
    k2 ()
def agrafferef09_CheckDiary_L1 (n : Nat) (a0 : Diary) (k1 : (Unit → Option Int)) (back : Nat → Option Int) : Nat → Option Int
  | v6 =>
  bif decide (v6 < a0.Roads.length) then
    (agrafferef09_place n a0 ((ix a0.Roads v6).A)).bind fun y7 =>
    (gcall (!(decide (y7 < (0 : Int)))) (agrafferef09_place n a0 ((ix a0.Roads v6).B))).bind fun y8 =>
    bif (decide (y7 < (0 : Int))) || (decide (y8 < (0 : Int))) then
      some 6
    else
      bif (((ix a0.Roads v6).A) == ((ix a0.Roads v6).B)) then
        some 3
      else
        (agraffebase_Within n ((ix a0.Roads v6).Minutes) 1 10000).bind fun y9 =>
        (gcall (!(!((decide (1 ≤ ((ix a0.Roads v6).Minutes))) && (decide (((ix a0.Roads v6).Minutes) ≤ 10000))))) (agrafferef09_IsWidth n ((ix a0.Roads v6).Width))).bind fun y10 =>
        bif (!((decide (1 ≤ ((ix a0.Roads v6).Minutes))) && (decide (((ix a0.Roads v6).Minutes) ≤ 10000)))) || (!((decide (1 ≤ ((ix a0.Roads v6).Width))) && (decide (((ix a0.Roads v6).Width) ≤ 10000)))) then
          some 2
        else
          chk (nI (v6 + 1)) <|
          back (v6 + 1)
  else
    k1 ()
def agrafferef09_CheckDiary (n : Nat) (a0 : Diary) : Option Int :=
  (agrafferef09_names n a0.Places 20).bind fun y1 =>
  bif (y1 != (0 : Int)) then
    some y1
  else
    bif decide (60 < a0.Roads.length) then
      some 8
    else
      withK (fun (_ : Unit) =>
          bif decide (12 < a0.Grands.length) then
            some 8
          else
            withK (fun (_ : Unit) =>
                (agrafferef09_names n a0.Technicians 12).bind fun y20 =>
                bif (y20 != (0 : Int)) then
                  some y20
                else
                  (agraffebase_Within n a0.Change 0 1000).bind fun y21 =>
                  (gcall (!(!((decide (0 ≤ a0.Change)) && (decide (a0.Change ≤ 1000))))) (agraffebase_Within n a0.Lasts 0 100000)).bind fun y22 =>
                  bif (!((decide (0 ≤ a0.Change)) && (decide (a0.Change ≤ 1000)))) || (!((decide (0 ≤ a0.Lasts)) && (decide (a0.Lasts ≤ 100000)))) then
                    some 2
                  else
                    some 0) fun k2 =>
            loopN (agrafferef09_CheckDiary_L2 n a0 k2) n 0) fun k1 =>
      loopN (agrafferef09_CheckDiary_L1 n a0 k1) n 0
def agraffebase_CopyTexts (n : Nat) (a0 : List Str) : Option Unit :=
  chk (room 16 a0.length) <|
  some ()
def agraffelaw09_town (n : Nat) (a0 : Diary) : Option Unit :=
  (agraffebase_CopyTexts n a0.Places).bind fun y1 =>
  (agraffebase_CopyTexts n a0.Technicians).bind fun y2 =>
  chk (room 48 a0.Roads.length) <|
  chk (room 40 a0.Grands.length) <|
  some ()
def diary_CheckItem (n : Nat) (a0 : Diary) (a1 : Item) : Option Int :=
  (diary_CheckDiary n a0).bind fun y1 =>
  bif (y1 != (0 : Int)) then
    some y1
  else
    (diary_checkItem n a0 a1).bind fun y2 =>
    some y2
def agrafferef09_IsMinute (n : Nat) (a0 : Int) : Option Unit :=
  (agraffebase_Within n a0 0 1000000).bind fun y1 =>
  some ()
def agrafferef09_CheckItem (n : Nat) (a0 : Diary) (a1 : Item) : Option Int :=
  (agraffebase_Within n a1.Kind 0 3).bind fun y1 =>
  bif !((decide (0 ≤ a1.Kind)) && (decide (a1.Kind ≤ 3))) then
    some 15
  else
    (agrafferef09_IsMinute n a1.From).bind fun y2 =>
    (gcall (!(!((decide (0 ≤ a1.From)) && (decide (a1.From ≤ 1000000))))) (agrafferef09_IsMinute n a1.To)).bind fun y3 =>
    bif (!((decide (0 ≤ a1.From)) && (decide (a1.From ≤ 1000000)))) || (!((decide (0 ≤ a1.To)) && (decide (a1.To ≤ 1000000)))) then
      some 2
    else
      bif decide (a1.To ≤ a1.From) then
        some 9
      else
        (agrafferef09_GrandAt n a0 a1.Grand).bind fun y4 =>
        (gcall (!(decide (y4 < (0 : Int)))) (agrafferef09_place n a0 a1.Place)).bind fun y5 =>
        bif (decide (y4 < (0 : Int))) || (decide (y5 < (0 : Int))) then
          some 6
        else
          (gcall (a1.Kind == (0 : Int)) (agraffebase_HasText n a0.Technicians a1.Who)).bind fun y6 =>
          bif (a1.Kind == (0 : Int)) && (!y6) then
            some 6
          else
            bif (a1.Kind == (3 : Int)) then
              (agraffebase_IsName n a1.Who).bind fun y7 =>
              bif !y7 then
                some 4
              else
                (agraffebase_Within n a1.Deposit 0 1000000000).bind fun y8 =>
                bif !((decide (0 ≤ a1.Deposit)) && (decide (a1.Deposit ≤ 1000000000))) then
                  some 2
                else
                  some 0
            else
              bif (a1.Deposit != (0 : Int)) || ((a1.Kind != (0 : Int)) && (!(a1.Who == ([] : Str)))) then
                some 3
              else
                some 0
def agraffelaw09_DiaryChecks (n : Nat) (a0 : Diary) (a1 : Item) : Option Bool :=
  (agraffelaw09_awake n).bind fun y1 =>
  bif !y1 then
    some false
  else
    (agraffelaw09_Light n a0).bind fun y2 =>
    (gcall (!(!y2)) (agraffelaw09_slim n a1)).bind fun y3 =>
    bif (!y2) || (!(((decide (a1.Grand.length ≤ 30)) && (decide (a1.Place.length ≤ 30))) && (decide (a1.Who.length ≤ 30)))) then
      some true
    else
      (agrafferef09_CheckDiary n a0).bind fun y4 =>
      (agraffelaw09_town n a0).bind fun y5 =>
      (diary_CheckItem n a0 a1).bind fun y6 =>
      (agraffelaw09_town n a0).bind fun y7 =>
      (diary_CheckDiary n a0).bind fun y8 =>
      bif (y8 != y4) then
        some false
      else
        withK (fun (v10 : Int) =>
            some (y6 == v10)) fun k1 =>
        bif (y4 == (0 : Int)) then
          (agrafferef09_CheckItem n a0 a1).bind fun y9 =>
          k1 y9
        else
          k1 y4
end
section
set_option maxRecDepth 4000
open Go
theorem loopN_s {α β : Type} (F : (α → Option β) → α → Option β) (n : Nat) (t : α) : loopN F (n + 1) t = F (loopN F n) t := rfl
@[simp] theorem chk_t {α : Type} (k : Option α) : chk true k = k := rfl
@[simp] theorem withK_eq {α β : Type} (j : α → Option β) (f : (α → Option β) → Option β) : withK j f = f j := rfl
@[simp] theorem gcall_some_ {α : Type} [Inhabited α] (g : Bool) (x : α) : (gcall g (some x)) = some (bif g then x else default) := by cases g <;> rfl
theorem nI_of {n : Nat} (h : n ≤ 9223372036854775807) : nI n = true := by simp [nI, h]
theorem inI_of {n : Int} (h : -9223372036854775808 ≤ n) (h2 : n ≤ 9223372036854775807) : inI n = true := by simp [inI, h, h2]
theorem room_of {b n : Nat} (h : n * b ≤ 140737488355328) (h2 : n ≤ 9223372036854775807) : room b n = true := by simp [room, h, h2]
theorem inB_of {q : Int} {n : Nat} (h : 0 ≤ q) (h2 : q.toNat < n) : inB q n = true := by simp [inB, h, h2]
theorem drop_ix {α : Type} [Inhabited α] {l : List α} {v : Nat} (h : v < l.length) : l.drop v = ix l v :: l.drop (v + 1) := by
  rw [ix_eq h]; exact List.drop_eq_getElem_cons h
theorem drop_nil {α : Type} {l : List α} {v : Nat} (h : ¬ v < l.length) : l.drop v = [] := List.drop_eq_nil_of_le (by omega)
def isL (c : UInt8) : Bool := (decide ((97 : Int) ≤ ((c.toNat : Nat) : Int)) && decide (((c.toNat : Nat) : Int) ≤ (122 : Int))) || (decide ((65 : Int) ≤ ((c.toNat : Nat) : Int)) && decide (((c.toNat : Nat) : Int) ≤ (90 : Int)))
def isD (c : UInt8) : Bool := decide ((48 : Int) ≤ ((c.toNat : Nat) : Int)) && decide (((c.toNat : Nat) : Int) ≤ (57 : Int))
def okC (c : UInt8) : Bool := isL c || isD c || (((c.toNat : Nat) : Int) == (45 : Int))
def nameB (s : Str) : Bool := match s with
  | [] => false
  | c :: r => isL c && r.all okC && decide (r.length < 12)
end
section
set_option maxRecDepth 4000
open Go
theorem bne_t {x : Int} (h : ¬ x = 0) : (x != 0) = true := by simp [bne, h]
def firstE (E : Nat → Int) : Nat → Nat → Int
  | _, 0 => 0
  | v, m + 1 => bif E v != 0 then E v else firstE E (v + 1) m
theorem loop_first {σ R : Type} {F : (σ → Option R) → σ → Option R} {st : Nat → σ} {E : Nat → Int} {err : Int → Option R} {k : Option R} {len : Nat}
    (h1 : ∀ back v, v < len → (∀ j, j < v → E j = 0) → F back (st v) = bif E v != 0 then err (E v) else back (st (v + 1)))
    (h2 : ∀ back, (∀ j, j < len → E j = 0) → F back (st len) = k) : ∀ n v, len - v < n → v ≤ len → (∀ j, j < v → E j = 0) → loopN F n (st v) = bif firstE E v (len - v) != 0 then err (firstE E v (len - v)) else k := by
  intro n
  induction n with
  | zero => intro v h; omega
  | succ n ih =>
    intro v hn hv hz
    rw [loopN_s]
    by_cases h : v < len
    · rw [h1 _ v h hz, show len - v = (len - (v + 1)) + 1 by omega]
      unfold firstE
      by_cases e : E v = 0
      · simp only [e, bne_self_eq_false, cond_false]
        exact ih (v + 1) (by omega) (by omega) fun j hj => by
          by_cases hjv : j = v
          · rw [hjv]; exact e
          · exact hz j (by omega)
      · rw [bne_t e, cond_true, cond_true, bne_t e, cond_true]
    · have : v = len := by omega
      subst this
      rw [h2 _ hz, Nat.sub_self]
      simp [firstE]
def findI {α : Type} (p : α → Bool) (l : List α) : Int := match l.findIdx? p with
  | some i => ((i : Nat) : Int)
  | none => -1
theorem findI_neg {α : Type} {p : α → Bool} {l : List α} (h : findI p l < 0) : findI p l = -1 ∧ ∀ x ∈ l, p x = false := by
  unfold findI at h ⊢
  split at h
  · omega
  · rename_i e
    rw [List.findIdx?_eq_none_iff] at e
    exact ⟨rfl, e⟩
theorem findI_pos {α : Type} [Inhabited α] {p : α → Bool} {l : List α} (h : ¬ findI p l < 0) : 0 ≤ findI p l ∧ (findI p l).toNat < l.length ∧ p (ix l (findI p l).toNat) = true ∧ ∀ j, j < (findI p l).toNat → p (ix l j) = false := by
  unfold findI at h ⊢
  split at h
  · rename_i i e
    rw [List.findIdx?_eq_some_iff_getElem] at e
    obtain ⟨hi, hp, hb⟩ := e
    refine ⟨by omega, by simpa using hi, ?_, fun j hj => ?_⟩
    · rw [ix_eq (by simpa using hi)]; simpa using hp
    · have hj : j < i := by simpa using hj
      rw [ix_eq (by omega)]
      simpa using hb j hj
  · omega
end
section
set_option maxRecDepth 4000
open Go
theorem loop_find' {α R : Type} [Inhabited α] {l : List α} {p : α → Bool} {F : (Nat → Option R) → Nat → Option R} {yes : Nat → Option R} {no : Option R}
    (h1 : ∀ back v, v < l.length → F back v = bif p (ix l v) then yes v else back (v + 1)) (h2 : ∀ back, F back l.length = no) :
    ∀ n v, v ≤ l.length → l.length - v < n → loopN F n v = match (l.drop v).findIdx? p with | some i => yes (v + i) | none => no := by
  intro n
  induction n with
  | zero => intro v _ h; omega
  | succ n ih =>
    intro v hv hn
    rw [loopN_s]
    by_cases h : v < l.length
    · rw [h1 _ v h, drop_ix h, List.findIdx?_cons]
      cases hp : p (ix l v) with
      | true => simp
      | false =>
        simp only [cond_false, Bool.false_eq_true, if_false]
        rw [ih (v + 1) (by omega) (by omega)]
        cases hh : (l.drop (v + 1)).findIdx? p with
        | none => simp
        | some i => simp [Nat.add_assoc, Nat.add_comm 1 i]
    · have : v = l.length := by omega
      subst this
      rw [h2, drop_nil h]
      simp
theorem any_findIdx {α : Type} (p : α → Bool) (l : List α) : (l.findIdx? p).isSome = l.any p := by
  induction l with
  | nil => rfl
  | cons x l ih =>
    rw [List.findIdx?_cons, List.any_cons]
    cases p x <;> simp [ih]
theorem loop_any' {α R : Type} [Inhabited α] {l : List α} {p : α → Bool} {F : (Nat → Option R) → Nat → Option R} {bad no : Option R}
    (h1 : ∀ back v, v < l.length → F back v = bif p (ix l v) then bad else back (v + 1)) (h2 : ∀ back, F back l.length = no) (n : Nat) (hn : l.length < n) : loopN F n 0 = bif l.any p then bad else no := by
  rw [loop_find' (yes := fun _ => bad) h1 h2 n 0 (by omega) (by omega), List.drop_zero, ← any_findIdx]
  cases l.findIdx? p <;> rfl
theorem loop_findI {α : Type} [Inhabited α] {l : List α} {p : α → Bool} {F : (Nat → Option Int) → Nat → Option Int}
    (h1 : ∀ back v, v < l.length → F back v = bif p (ix l v) then some ((v : Nat) : Int) else back (v + 1)) (h2 : ∀ back, F back l.length = some (-1)) (n : Nat) (hn : l.length < n) : loopN F n 0 = some (findI p l) := by
  rw [loop_find' h1 h2 n 0 (by omega) (by omega), List.drop_zero, findI]
  cases l.findIdx? p <;> simp
theorem findI_any {α : Type} (p : α → Bool) (l : List α) : decide ((0 : Int) ≤ findI p l) = l.any p := by
  rw [← any_findIdx, findI]
  cases l.findIdx? p <;> simp
theorem findI_none {α : Type} (p : α → Bool) (l : List α) : decide (findI p l < (0 : Int)) = !l.any p := by
  rw [← any_findIdx, findI]
  cases l.findIdx? p
  · simp
  · simp only [Option.isSome_some, Bool.not_true, decide_eq_false_iff_not]; omega
theorem findI_take {α : Type} [Inhabited α] {p : α → Bool} {l : List α} {i : Nat} : (l.take i).any p = (decide (findI p l < (i : Int)) && l.any p) := by
  rw [← any_findIdx, ← any_findIdx, findI]
  cases h : l.findIdx? p with
  | none =>
    rw [List.findIdx?_eq_none_iff] at h
    have : (l.take i).findIdx? p = none := by
      rw [List.findIdx?_eq_none_iff]
      exact fun x hx => h x (List.mem_of_mem_take hx)
    simp [this]
  | some j =>
    rw [List.findIdx?_eq_some_iff_getElem] at h
    obtain ⟨hj, hp, hb⟩ := h
    simp only [Option.isSome_some, Bool.and_true]
    rw [any_findIdx, Bool.eq_iff_iff, List.any_eq_true, decide_eq_true_eq]
    constructor
    · rintro ⟨x, hx, hpx⟩
      obtain ⟨k, hk, rfl⟩ := List.mem_iff_getElem.1 hx
      simp only [List.length_take] at hk
      rw [List.getElem_take] at hpx
      by_cases hkj : k < j
      · have := hb k hkj
        rw [hpx] at this; simp at this
      · omega
    · intro hji
      have hji : j < i := by omega
      exact ⟨l[j], List.mem_iff_getElem.2 ⟨j, by simp; omega, by simp⟩, hp⟩
end
section
set_option maxRecDepth 4000
open Go
theorem getD_ix (s : Str) (v : Nat) : List.getD s v 0 = ix s v := by
  simp only [ix, List.getD]; rfl
theorem isName_loop (s : Str) (k : Unit → Option Bool) : ∀ (n v : Nat), s.length - v < n → 0 < v → s.length < 9223372036854775807 → loopN (diary_isName_L1 s k) n v = bif (s.drop v).all okC then k () else some false := by
  intro n
  induction n with
  | zero => intro v h; omega
  | succ n ih =>
    intro v hn hv hl
    rw [loopN_s, diary_isName_L1]
    by_cases h : v < s.length
    · rw [drop_ix h]
      have h2 : ¬ v = 0 := by omega
      simp only [h, getD_ix, decide_true, cond_true, h2, decide_false, Bool.false_or, List.all_cons, nI_of (by omega : v + 1 ≤ 9223372036854775807), chk_t]
      rw [ih (v + 1) (by omega) (by omega) hl]
      have key : (!((decide ((97 : Int) ≤ (((ix s v).toNat : Nat) : Int)) && decide ((((ix s v).toNat : Nat) : Int) ≤ (122 : Int))) || (decide ((65 : Int) ≤ (((ix s v).toNat : Nat) : Int)) && decide ((((ix s v).toNat : Nat) : Int) ≤ (90 : Int)))) && (((((ix s v).toNat : Nat) : Int) != (45 : Int)) && (decide ((((ix s v).toNat : Nat) : Int) < (48 : Int)) || decide ((57 : Int) < (((ix s v).toNat : Nat) : Int))))) = !okC (ix s v) := by
        have hd : (decide ((((ix s v).toNat : Nat) : Int) < (48 : Int)) || decide ((57 : Int) < (((ix s v).toNat : Nat) : Int))) = !isD (ix s v) := by
          simp only [isD, Bool.not_and, ← decide_not, Int.not_le]
        rw [hd]
        show (!isL (ix s v) && _) = _
        simp only [okC]
        cases isL (ix s v) <;> cases isD (ix s v) <;> cases hh : (((((ix s v).toNat : Nat) : Int)) == (45 : Int)) <;> simp [bne, hh]
      rw [key]
      cases okC (ix s v) <;> simp
    · rw [drop_nil h]
      simp [h]
theorem isName_eq (s : Str) (n : Nat) (hn : s.length + 1 < n) (hl : s.length < 9223372036854775807) : diary_isName n s = some (nameB s) := by
  obtain ⟨n, rfl⟩ : ∃ m, n = m + 1 := ⟨n - 1, by omega⟩
  rw [diary_isName, withK_eq, loopN_s, diary_isName_L1]
  cases s with
  | nil => simp [nameB]
  | cons c r =>
    have h0 : 0 < (c :: r).length := by simp
    have hix : ix (c :: r) 0 = c := rfl
    simp only [h0, getD_ix, decide_true, cond_true, hix, Bool.true_or, Bool.and_true, nI_of (by simp : 0 + 1 ≤ 9223372036854775807), chk_t]
    rw [isName_loop _ _ n 1 (by simp at hn ⊢; omega) (by omega) hl]
    show (bif !isL c then some false else _) = _
    simp only [nameB, List.drop_succ_cons, List.drop_zero]
    cases hL : isL c <;> cases hA : r.all okC <;> simp
    omega
theorem IsName_loop (s : Str) (n0 : Nat) (k : Unit → Option Bool) : ∀ (n v : Nat), s.length - v < n → s.length < 9223372036854775807 → loopN (agraffebase_IsName_L1 n0 s k) n v = bif (s.drop v).all okC then k () else some false := by
  intro n
  induction n with
  | zero => intro v h; omega
  | succ n ih =>
    intro v hn hl
    rw [loopN_s, agraffebase_IsName_L1]
    by_cases h : v < s.length
    · rw [drop_ix h]
      simp only [h, decide_true, cond_true, agraffebase_isLetter, agraffebase_isDigit, gcall_some_, Option.bind_some, getD_ix, List.all_cons, nI_of (by omega : v + 1 ≤ 9223372036854775807), chk_t]
      rw [ih (v + 1) (by omega) hl]
      show (bif ((!isL (ix s v)) && (!isD (ix s v))) && ((((ix s v).toNat : Nat) : Int) != (45 : Int)) then _ else _) = _
      simp only [okC]
      cases isL (ix s v) <;> cases isD (ix s v) <;> cases hh : (((((ix s v).toNat : Nat) : Int)) == (45 : Int)) <;> simp [bne, hh]
    · rw [drop_nil h]
      simp [h]
theorem IsName_eq (s : Str) (n : Nat) (hn : s.length + 1 < n) (hl : s.length < 9223372036854775807) : agraffebase_IsName n s = some (nameB s) := by
  rw [agraffebase_IsName]
  simp only [agraffebase_isLetter, gcall_some_, Option.bind_some, getD_ix, withK_eq]
  rw [IsName_loop _ _ _ _ _ (by omega) hl]
  cases s with
  | nil => simp [nameB]
  | cons c r =>
    have h0 : ¬ (c :: r).length = 0 := by simp
    have h1 : 0 < (c :: r).length := by simp
    have hix : ix (c :: r) 0 = c := rfl
    simp only [h0, h1, decide_true, decide_false, Bool.false_or, Bool.or_true, chk_t, hix, List.drop_zero]
    show (bif (decide (12 < (c :: r).length)) || (!isL c) then _ else _) = _
    simp only [nameB, List.all_cons, okC, List.length_cons]
    by_cases hlen : r.length < 12
    · have : ¬ 12 < r.length + 1 := by omega
      cases hL : isL c <;> cases hA : r.all okC <;> simp [this, hlen, hA]
    · have : 12 < r.length + 1 := by omega
      simp [this, hlen]
variable {n : Nat}
def isS (s : Str) (x : Str) : Bool := x == s
theorem HasText_eq (l : List Str) (s : Str) (hn : l.length < n) (hl : l.length < 9223372036854775807) : agraffebase_HasText n l s = some (l.any (isS s)) := by
  rw [agraffebase_HasText, withK_eq, loop_any' (p := isS s) (fun back v hv => ?_) (fun back => ?_) n hn]
  · cases l.any (isS s) <;> rfl
  · rw [agraffebase_HasText_L1]; simp only [hv, decide_true, cond_true, nI_of (by omega : v + 1 ≤ 9223372036854775807), chk_t]; rfl
  · rw [agraffebase_HasText_L1]; simp
theorem isS_comm (s x : Str) : (s == x) = isS s x := by
  unfold isS
  rw [Bool.eq_iff_iff, beq_iff_eq, beq_iff_eq]
  exact eq_comm
theorem Contains_eq (l : List Str) (s : Str) (hn : l.length < n) (hl : l.length < 9223372036854775807) : slices_Contains_string n l s = some (l.any (isS s)) := by
  rw [slices_Contains_string, slices_Index_string, withK_eq, loop_findI (p := isS s) (fun back v hv => ?_) (fun back => ?_) n hn]
  · simp only [Option.bind_some, findI_any]
  · rw [slices_Index_string_L1]; simp only [hv, decide_true, cond_true, nI_of (by omega : v + 1 ≤ 9223372036854775807), chk_t, isS_comm]
  · rw [slices_Index_string_L1]; simp
theorem Contains2_eq (l : List Str) (s : Str) (hn : l.length < n) (hl : l.length < 9223372036854775807) : slices_Contains_string_2 n l s = some (l.any (isS s)) := by
  rw [slices_Contains_string_2, slices_Index_string_2, withK_eq, loop_findI (p := isS s) (fun back v hv => ?_) (fun back => ?_) n hn]
  · simp only [Option.bind_some, findI_any]
  · rw [slices_Index_string_2_L1]; simp only [hv, decide_true, cond_true, nI_of (by omega : v + 1 ≤ 9223372036854775807), chk_t, isS_comm]
  · rw [slices_Index_string_2_L1]; simp
theorem bif_id {x : Int} : (bif x != 0 then some x else some 0) = some x := by
  by_cases h : x = 0
  · simp [h]
  · rw [bne_t h]; rfl
theorem loop_errs {F : (Nat → Option Int) → Nat → Option Int} {E : Nat → Int} {k : Int} {len : Nat}
    (h1 : ∀ back v, v < len → F back v = bif E v != 0 then some (E v) else back (v + 1)) (h2 : ∀ back, F back len = some k) (hn : len < n) :
    loopN F n 0 = some (bif firstE E 0 len != 0 then firstE E 0 len else k) := by
  rw [loop_first (st := fun v => v) (E := E) (err := some) (k := some k) (len := len) (fun back v hv _ => h1 back v hv) (fun back _ => h2 back) n 0 (by omega) (by omega) (fun j h => by omega), Nat.sub_zero]
  cases firstE E 0 len != 0 <;> rfl
theorem bif_int {x : Int} : (bif x != 0 then x else 0) = x := by
  by_cases h : x = 0
  · simp [h]
  · rw [bne_t h]; rfl
structure OkD (d : Diary) : Prop where
  places : d.Places.length ≤ 23
  techs : d.Technicians.length ≤ 15
  roads : d.Roads.length ≤ 63
  grands : d.Grands.length ≤ 15
  place : ∀ x ∈ d.Places, x.length ≤ 30
  tech : ∀ x ∈ d.Technicians, x.length ≤ 30
  roadA : ∀ x ∈ d.Roads, x.A.length ≤ 30
  roadB : ∀ x ∈ d.Roads, x.B.length ≤ 30
  grandN : ∀ x ∈ d.Grands, x.Name.length ≤ 30
  grandP : ∀ x ∈ d.Grands, x.Place.length ≤ 30
theorem short_eq (l : List Str) (a b : Int) (hn : l.length < n) (hl : l.length ≤ 9223372036854775807) (hb : 0 ≤ b) (hb2 : b ≤ 100) :
    agraffelaw09_short n l a b = some (!(l.any fun s => decide (30 < s.length)) && (decide (((l.length : Nat) : Int) ≤ a) || (decide (b < ((l.length : Nat) : Int)) && decide (((l.length : Nat) : Int) ≤ b + 3)))) := by
  rw [agraffelaw09_short, withK_eq, loop_any' (l := l) (p := fun s => decide (30 < s.length)) (bad := some false) (no := chk (!((!(decide (((l.length : Nat) : Int) ≤ a))) && (decide (b < ((l.length : Nat) : Int)))) || inI (b + 3)) (some ((decide (((l.length : Nat) : Int) ≤ a)) || ((decide (b < ((l.length : Nat) : Int))) && (decide (((l.length : Nat) : Int) ≤ (b + 3))))))) (fun back v hv => ?_) (fun back => ?_) n hn]
  · have hi : inI (b + 3) = true := inI_of (by omega) (by omega)
    simp only [hi, Bool.or_true, chk_t]
    cases l.any _ <;> rfl
  · rw [agraffelaw09_short_L1]; simp only [hv, decide_true, cond_true, nI_of (by omega : v + 1 ≤ 9223372036854775807), chk_t]
  · rw [agraffelaw09_short_L1]; simp
theorem Light_eq (d : Diary) (hn : 1000 < n) (hp : d.Places.length < n) (ht : d.Technicians.length < n) (hp2 : d.Places.length ≤ 9223372036854775807) (ht2 : d.Technicians.length ≤ 9223372036854775807) : ∃ b, agraffelaw09_Light n d = some b ∧ (b = true → OkD d) := by
  rw [agraffelaw09_Light, short_eq (n := n) d.Places 6 20 hp hp2 (by omega) (by omega), short_eq (n := n) d.Technicians 4 12 ht ht2 (by omega) (by omega)]
  simp only [Option.bind_some, gcall_some_]
  have anyf : ∀ {l : List Str}, (l.any fun s => decide (30 < s.length)) = false → ∀ s ∈ l, s.length ≤ 30 := fun h s hs => by
    rw [List.any_eq_false] at h
    have := h s hs
    simpa using this
  generalize hg : (_ || decide (15 < d.Grands.length)) = g
  cases g with
  | true => exact ⟨false, rfl, fun h => by cases h⟩
  | false =>
    simp only [cond_false, withK_eq]
    simp only [Bool.or_eq_false_iff, Bool.not_eq_false', Bool.and_eq_true, decide_eq_false_iff_not] at hg
    obtain ⟨⟨⟨⟨⟨hA, hB⟩, hR1⟩, hR2⟩, hG1⟩, hG2⟩ := hg
    rw [hA.1, hA.2] at hB
    simp only [Bool.and_true, Bool.not_true, Bool.not_false, cond_true, Bool.and_eq_true, Bool.not_eq_true', Bool.or_eq_true, decide_eq_true_eq] at hA hB
    have hR : d.Roads.length ≤ 63 := by omega
    have hG : d.Grands.length ≤ 15 := by omega
    rw [loop_any' (l := d.Roads) (p := fun x => decide (30 < x.A.length) || decide (30 < x.B.length)) (bad := some false) (no := loopN (agraffelaw09_Light_L2 d fun _ => some true) n 0) (fun back v hv => ?_) (fun back => ?_) n (by omega),
      loop_any' (l := d.Grands) (p := fun x => decide (30 < x.Name.length) || decide (30 < x.Place.length)) (bad := some false) (no := some true) (fun back v hv => ?_) (fun back => ?_) n (by omega)]
    · cases h1 : d.Roads.any fun x => decide (30 < x.A.length) || decide (30 < x.B.length) with
      | true => exact ⟨false, rfl, fun h => by cases h⟩
      | false =>
        cases h2 : d.Grands.any fun x => decide (30 < x.Name.length) || decide (30 < x.Place.length) with
        | true => exact ⟨false, rfl, fun h => by cases h⟩
        | false =>
          refine ⟨true, rfl, fun _ => ?_⟩
          rw [List.any_eq_false] at h1 h2
          refine ⟨by omega, by omega, hR, hG, anyf hA.1, anyf hB.1, fun x hx => ?_, fun x hx => ?_, fun x hx => ?_, fun x hx => ?_⟩
          · have := h1 x hx; simp at this; omega
          · have := h1 x hx; simp at this; omega
          · have := h2 x hx; simp at this; omega
          · have := h2 x hx; simp at this; omega
    · rw [agraffelaw09_Light_L2]; simp only [hv, decide_true, cond_true, nI_of (by omega : v + 1 ≤ 9223372036854775807), chk_t]
    · rw [agraffelaw09_Light_L2]; simp
    · rw [agraffelaw09_Light_L1]; simp only [hv, decide_true, cond_true, nI_of (by omega : v + 1 ≤ 9223372036854775807), chk_t]
    · rw [agraffelaw09_Light_L1]; simp
end
section
set_option maxRecDepth 4000
open Go
variable {n : Nat}
def namesE (l : List Str) (v : Nat) : Int := bif !nameB (ix l v) then 4 else bif (l.take v).any (isS (ix l v)) then 5 else 0
def namesD (l : List Str) (most : Int) : Int := bif decide (most < ((l.length : Nat) : Int)) then 8 else firstE (namesE l) 0 l.length
theorem checkName_eq {l : List Str} {s : Str} (hn : 1000 < n) (hs : s.length ≤ 30) (hl : l.length ≤ 900) : diary_checkName n s l = some (bif !nameB s then 4 else bif l.any (isS s) then 5 else 0) := by
  rw [diary_checkName, isName_eq s n (by omega) (by omega)]
  simp only [Option.bind_some, Contains_eq (n := n) l s (by omega) (by omega)]
  cases nameB s <;> cases l.any (isS s) <;> rfl
theorem checkNames_eq {l : List Str} (most : Int) (hn : 1000 < n) (hl : l.length ≤ 900) (hs : ∀ x ∈ l, x.length ≤ 30) : diary_checkNames n l most = some (namesD l most) := by
  rw [diary_checkNames, namesD]
  cases decide (most < ((l.length : Nat) : Int)) with
  | true => rfl
  | false =>
    simp only [cond_false, withK_eq]
    rw [loop_errs (E := namesE l) (k := 0) (fun back v hv => ?_) (fun back => ?_) (by omega : l.length < n), bif_int]
    · rw [diary_checkNames_L1]
      have hle : v ≤ l.length := by omega
      simp only [hv, hle, decide_true, cond_true, chk_t, checkName_eq (n := n) (l := l.take v) hn (hs _ (ix_mem hv)) (by simp; omega), Option.bind_some, nI_of (by omega : v + 1 ≤ 9223372036854775807), namesE]
    · rw [diary_checkNames_L1]; simp
theorem names_ref {l : List Str} (most : Int) (hn : 1000 < n) (hl : l.length ≤ 900) (hs : ∀ x ∈ l, x.length ≤ 30) : agrafferef09_names n l most = some (namesD l most) := by
  rw [agrafferef09_names, namesD]
  cases decide (most < ((l.length : Nat) : Int)) with
  | true => rfl
  | false =>
    simp only [cond_false, withK_eq]
    rw [loop_errs (E := namesE l) (k := 0) (fun back v hv => ?_) (fun back => ?_) (by omega : l.length < n), bif_int]
    · rw [agrafferef09_names_L1]
      have hle : v ≤ l.length := by omega
      have h1 := hs _ (ix_mem hv)
      simp only [hv, hle, decide_true, cond_true, chk_t, IsName_eq (ix l v) n (by omega) (by omega), Option.bind_some, HasText_eq (n := n) (l.take v) (ix l v) (by simp; omega) (by simp; omega), nI_of (by omega : v + 1 ≤ 9223372036854775807), namesE]
      cases nameB (ix l v) <;> cases (l.take v).any (isS (ix l v)) <;> rfl
    · rw [agrafferef09_names_L1]; simp
theorem place_eq (d : Diary) (s : Str) (hn : d.Places.length < n) (hl : d.Places.length < 9223372036854775807) : agrafferef09_place n d s = some (findI (isS s) d.Places) := by
  rw [agrafferef09_place, withK_eq]
  refine loop_findI (fun back v hv => ?_) (fun back => ?_) n hn
  · rw [agrafferef09_place_L1]; simp only [hv, decide_true, cond_true, nI_of (by omega : v + 1 ≤ 9223372036854775807), chk_t]; rfl
  · rw [agrafferef09_place_L1]; simp
def isG (s : Str) (x : Grand) : Bool := x.Name == s
theorem GrandAt_eq (d : Diary) (s : Str) (hn : d.Grands.length < n) (hl : d.Grands.length < 9223372036854775807) : agrafferef09_GrandAt n d s = some (findI (isG s) d.Grands) := by
  rw [agrafferef09_GrandAt, withK_eq]
  refine loop_findI (fun back v hv => ?_) (fun back => ?_) n hn
  · rw [agrafferef09_GrandAt_L1]; simp only [hv, decide_true, cond_true, nI_of (by omega : v + 1 ≤ 9223372036854775807), chk_t]; rfl
  · rw [agrafferef09_GrandAt_L1]; simp
def isW (w : Int) : Bool := (decide (1 ≤ w)) && (decide (w ≤ 10000))
def roadE (d : Diary) (v : Nat) : Int :=
  bif (!d.Places.any (isS (ix d.Roads v).A)) || (!d.Places.any (isS (ix d.Roads v).B)) then 6 else
  bif (ix d.Roads v).A == (ix d.Roads v).B then 3 else
  bif (!isW (ix d.Roads v).Minutes) || (!isW (ix d.Roads v).Width) then 2 else 0
theorem roads_step (d : Diary) (hd : OkD d) (hn : 1000 < n) (v : Nat) (hv : v < d.Roads.length) (k : Unit → Option Int) (back : Nat → Option Int) :
    diary_checkRoads_L1 n d k back v = bif roadE d v != 0 then some (roadE d v) else back (v + 1) := by
  have hp := hd.places
  have hr := hd.roads
  rw [diary_checkRoads_L1]
  simp only [hv, decide_true, cond_true, Contains_eq (n := n) d.Places _ (by omega) (by omega), Option.bind_some, gcall_some_, diary_within, diary_isWidth, nI_of (by omega : v + 1 ≤ 9223372036854775807), chk_t, roadE, isW]
  cases d.Places.any (isS (ix d.Roads v).A) <;> cases d.Places.any (isS (ix d.Roads v).B) <;> cases (ix d.Roads v).A == (ix d.Roads v).B <;> cases decide (1 ≤ (ix d.Roads v).Minutes) && decide ((ix d.Roads v).Minutes ≤ 10000) <;> cases decide (1 ≤ (ix d.Roads v).Width) && decide ((ix d.Roads v).Width ≤ 10000) <;> rfl
theorem roads_refstep (d : Diary) (hd : OkD d) (hn : 1000 < n) (v : Nat) (hv : v < d.Roads.length) (k : Unit → Option Int) (back : Nat → Option Int) :
    agrafferef09_CheckDiary_L1 n d k back v = bif roadE d v != 0 then some (roadE d v) else back (v + 1) := by
  have hp := hd.places
  have hr := hd.roads
  rw [agrafferef09_CheckDiary_L1]
  simp only [hv, decide_true, cond_true, place_eq (n := n) d _ (by omega) (by omega), findI_none, Option.bind_some, gcall_some_, agraffebase_Within, agrafferef09_IsWidth, nI_of (by omega : v + 1 ≤ 9223372036854775807), chk_t, roadE, isW]
  have hdef : decide ((default : Int) < 0) = false := rfl
  cases d.Places.any (isS (ix d.Roads v).A) <;> simp only [Bool.not_true, Bool.not_false, cond_true, cond_false, findI_none, hdef, Bool.true_or, Bool.false_or] <;> cases d.Places.any (isS (ix d.Roads v).B) <;> cases (ix d.Roads v).A == (ix d.Roads v).B <;> cases decide (1 ≤ (ix d.Roads v).Minutes) && decide ((ix d.Roads v).Minutes ≤ 10000) <;> cases decide (1 ≤ (ix d.Roads v).Width) && decide ((ix d.Roads v).Width ≤ 10000) <;> rfl
def roadsD (d : Diary) : Int := bif decide (60 < d.Roads.length) then 8 else firstE (roadE d) 0 d.Roads.length
theorem checkRoads_eq (d : Diary) (hd : OkD d) (hn : 1000 < n) : diary_checkRoads n d = some (roadsD d) := by
  have hr := hd.roads
  rw [diary_checkRoads, roadsD]
  cases decide (60 < d.Roads.length) with
  | true => rfl
  | false =>
    simp only [cond_false, withK_eq]
    rw [loop_errs (E := roadE d) (k := 0) (fun back v hv => roads_step d hd hn v hv _ back) (fun back => by rw [diary_checkRoads_L1]; simp) (by omega : d.Roads.length < n), bif_int]
def grandE (d : Diary) (v : Nat) : Int :=
  bif !nameB (ix d.Grands v).Name then 4 else bif (d.Grands.take v).any (isG (ix d.Grands v).Name) then 5 else
  bif !d.Places.any (isS (ix d.Grands v).Place) then 6 else bif !isW (ix d.Grands v).Width then 2 else 0
def grandsD (d : Diary) : Int := bif decide (12 < d.Grands.length) then 8 else firstE (grandE d) 0 d.Grands.length
theorem checkName2_eq {l : List Str} {s : Str} (hn : 1000 < n) (hs : s.length ≤ 30) (hl : l.length ≤ 900) : diary_checkName_2 n s l = some (bif !nameB s then 4 else bif l.any (isS s) then 5 else 0) := by
  rw [diary_checkName_2, isName_eq s n (by omega) (by omega)]
  simp only [Option.bind_some, Contains2_eq (n := n) l s (by omega) (by omega)]
  cases nameB s <;> cases l.any (isS s) <;> rfl
theorem any_mapName (l : List Grand) (s : Str) : (l.map Grand.Name).any (isS s) = l.any (isG s) := by
  rw [List.any_map]; rfl
theorem checkGrands_eq (d : Diary) (hd : OkD d) (hn : 1000 < n) : diary_checkGrands n d = some (grandsD d) := by
  have hg := hd.grands
  have hp := hd.places
  rw [diary_checkGrands, grandsD]
  cases decide (12 < d.Grands.length) with
  | true => rfl
  | false =>
    simp only [cond_false, withK_eq]
    have := loop_first (F := diary_checkGrands_L1 n d fun _ => some 0) (st := fun v => ((d.Grands.take v).map Grand.Name, v)) (E := grandE d) (err := some) (k := some 0) (len := d.Grands.length) (fun back v hv _ => ?_) (fun back _ => ?_) n 0 (by omega) (by omega) (fun j h => by omega)
    · simp only [List.take_zero, List.map_nil, Nat.sub_zero] at this
      rw [this]
      exact bif_id
    · rw [diary_checkGrands_L1]
      have h1 := hd.grandN _ (ix_mem hv)
      have hroom : room 16 ((d.Grands.take v).map Grand.Name ++ [(ix d.Grands v).Name]).length = true := room_of (by simp; omega) (by simp; omega)
      have htake : (d.Grands.take (v + 1)).map Grand.Name = (d.Grands.take v).map Grand.Name ++ [(ix d.Grands v).Name] := by
        rw [List.take_succ_eq_append_getElem hv, ix_eq hv, List.map_append]; rfl
      simp only [hv, decide_true, cond_true, checkName2_eq (n := n) (l := (d.Grands.take v).map Grand.Name) hn h1 (by simp; omega), Option.bind_some, Contains_eq (n := n) d.Places _ (by omega) (by omega), diary_isWidth, diary_within, nI_of (by omega : v + 1 ≤ 9223372036854775807), chk_t, hroom, any_mapName, htake, grandE, isW]
      cases nameB (ix d.Grands v).Name <;> cases (d.Grands.take v).any (isG (ix d.Grands v).Name) <;> cases d.Places.any (isS (ix d.Grands v).Place) <;> cases decide (1 ≤ (ix d.Grands v).Width) && decide ((ix d.Grands v).Width ≤ 10000) <;> rfl
    · rw [diary_checkGrands_L1]; simp
theorem grands_refstep (d : Diary) (hd : OkD d) (hn : 1000 < n) (v : Nat) (hv : v < d.Grands.length) (k : Unit → Option Int) (back : Nat → Option Int) :
    agrafferef09_CheckDiary_L2 n d k back v = bif grandE d v != 0 then some (grandE d v) else back (v + 1) := by
  have hg := hd.grands
  have hp := hd.places
  have h1 := hd.grandN _ (ix_mem hv)
  have hany : d.Grands.any (isG (ix d.Grands v).Name) = true := by
    rw [List.any_eq_true]; exact ⟨_, ix_mem hv, by simp [isG]⟩
  have hft : decide (findI (isG (ix d.Grands v).Name) d.Grands < (v : Int)) = (d.Grands.take v).any (isG (ix d.Grands v).Name) := by rw [findI_take, hany, Bool.and_true]
  rw [agrafferef09_CheckDiary_L2]
  simp only [hv, decide_true, cond_true, IsName_eq (ix d.Grands v).Name n (by omega) (by omega), GrandAt_eq (n := n) d _ (by omega) (by omega), hft, place_eq (n := n) d _ (by omega) (by omega), findI_none, Option.bind_some, agraffebase_Within, agrafferef09_IsWidth, nI_of (by omega : v + 1 ≤ 9223372036854775807), chk_t, grandE, isW]
  cases nameB (ix d.Grands v).Name <;> cases (d.Grands.take v).any (isG (ix d.Grands v).Name) <;> cases d.Places.any (isS (ix d.Grands v).Place) <;> cases decide (1 ≤ (ix d.Grands v).Width) && decide ((ix d.Grands v).Width ≤ 10000) <;> rfl
def isBet (a b w : Int) : Bool := (decide (a ≤ w)) && (decide (w ≤ b))
def diaryD (d : Diary) : Int :=
  bif namesD d.Places 20 != 0 then namesD d.Places 20 else bif roadsD d != 0 then roadsD d else bif grandsD d != 0 then grandsD d else
  bif namesD d.Technicians 12 != 0 then namesD d.Technicians 12 else bif (!isBet 0 1000 d.Change) || (!isBet 0 100000 d.Lasts) then 2 else 0
theorem CheckDiary_eq (d : Diary) (hd : OkD d) (hn : 1000 < n) : diary_CheckDiary n d = some (diaryD d) := by
  have hp := hd.places
  have ht := hd.techs
  rw [diary_CheckDiary, checkNames_eq 20 hn (by omega) hd.place]
  simp only [Option.bind_some, checkRoads_eq d hd hn, checkGrands_eq d hd hn, checkNames_eq 12 hn (by omega : d.Technicians.length ≤ 900) hd.tech, diary_within, gcall_some_, diaryD, isBet]
  cases namesD d.Places 20 != 0 <;> cases roadsD d != 0 <;> cases grandsD d != 0 <;> cases namesD d.Technicians 12 != 0 <;> cases decide (0 ≤ d.Change) && decide (d.Change ≤ 1000) <;> cases decide (0 ≤ d.Lasts) && decide (d.Lasts ≤ 100000) <;> rfl
theorem CheckDiary_ref (d : Diary) (hd : OkD d) (hn : 1000 < n) : agrafferef09_CheckDiary n d = some (diaryD d) := by
  have hp := hd.places
  have ht := hd.techs
  have hr := hd.roads
  have hg := hd.grands
  rw [agrafferef09_CheckDiary, names_ref 20 hn (by omega) hd.place]
  simp only [Option.bind_some, withK_eq, names_ref 12 hn (by omega : d.Technicians.length ≤ 900) hd.tech, agraffebase_Within, gcall_some_]
  have L2 : ∀ K : Option Int, loopN (agrafferef09_CheckDiary_L2 n d fun _ => K) n 0 = bif firstE (grandE d) 0 d.Grands.length != 0 then some (firstE (grandE d) 0 d.Grands.length) else K := fun K => by
    rw [loop_first (st := fun v => v) (E := grandE d) (err := some) (k := K) (len := d.Grands.length) (fun back v hv _ => grands_refstep d hd hn v hv _ back) (fun back _ => by rw [agrafferef09_CheckDiary_L2]; simp) n 0 (by omega) (by omega) (fun j h => by omega), Nat.sub_zero]
  have L1 : ∀ K : Option Int, loopN (agrafferef09_CheckDiary_L1 n d fun _ => K) n 0 = bif firstE (roadE d) 0 d.Roads.length != 0 then some (firstE (roadE d) 0 d.Roads.length) else K := fun K => by
    rw [loop_first (st := fun v => v) (E := roadE d) (err := some) (k := K) (len := d.Roads.length) (fun back v hv _ => roads_refstep d hd hn v hv _ back) (fun back _ => by rw [agrafferef09_CheckDiary_L1]; simp) n 0 (by omega) (by omega) (fun j h => by omega), Nat.sub_zero]
  rw [L2, L1, diaryD, roadsD, grandsD]
  simp only [isBet]
  cases namesD d.Places 20 != 0 <;> cases decide (60 < d.Roads.length) <;> cases decide (12 < d.Grands.length) <;> simp only [cond_true, cond_false] <;>
    cases firstE (roadE d) 0 d.Roads.length != 0 <;> cases firstE (grandE d) 0 d.Grands.length != 0 <;> cases namesD d.Technicians 12 != 0 <;> cases decide (0 ≤ d.Change) && decide (d.Change ≤ 1000) <;> cases decide (0 ≤ d.Lasts) && decide (d.Lasts ≤ 100000) <;> rfl
theorem IndexGrand_eq (l : List Grand) (s : Str) (hn : l.length < n) (hl : l.length < 9223372036854775807) : slices_IndexFunc_Grand n l s = some (findI (isG s) l) := by
  rw [slices_IndexFunc_Grand, withK_eq]
  refine loop_findI (fun back v hv => ?_) (fun back => ?_) n hn
  · rw [slices_IndexFunc_Grand_L1]; simp only [hv, diary_grand_f1, Option.bind_some, decide_true, cond_true, nI_of (by omega : v + 1 ≤ 9223372036854775807), chk_t]; rfl
  · rw [slices_IndexFunc_Grand_L1]; simp
def grandOf (l : List Grand) (s : Str) : Option Grand := l.find? (isG s)
theorem grand_eq (d : Diary) (s : Str) (hg : d.Grands.length ≤ 900) (hn : 1000 < n) : diary_grand n d s = some (match grandOf d.Grands s with | some g => (g.Name, g.Place, g.Width, true) | none => ([], [], 0, false)) := by
  rw [diary_grand, IndexGrand_eq (n := n) d.Grands s (by omega) (by omega)]
  simp only [Option.bind_some]
  by_cases h : findI (isG s) d.Grands < 0
  · have := (findI_neg h).2
    have hf : grandOf d.Grands s = none := List.find?_eq_none.2 fun x hx => by rw [this x hx]; simp
    simp [h, hf]
  · obtain ⟨h1, h2, h3, h4⟩ := findI_pos h
    have hf : grandOf d.Grands s = some (ix d.Grands (findI (isG s) d.Grands).toNat) := by
      rw [grandOf, List.find?_eq_some_iff_getElem]
      refine ⟨h3, (findI (isG s) d.Grands).toNat, h2, (ix_eq h2).symm, fun j hj => ?_⟩
      have := h4 j hj
      rw [ix_eq (by omega)] at this
      simp [this]
    have hB : inB (findI (isG s) d.Grands) d.Grands.length = true := inB_of h1 h2
    simp only [hf, hB, h, h2, decide_true, decide_false, cond_false, chk_t]
theorem grandOf_some (l : List Grand) (s : Str) : (grandOf l s).isSome = l.any (isG s) := by
  rw [grandOf, Bool.eq_iff_iff, List.find?_isSome, List.any_eq_true]
def itemD (d : Diary) (x : Item) : Int :=
  bif !isBet 0 3 x.Kind then 15 else bif (!isBet 0 1000000 x.From) || (!isBet 0 1000000 x.To) then 2 else bif decide (x.To ≤ x.From) then 9 else
  bif (!d.Grands.any (isG x.Grand)) || (!d.Places.any (isS x.Place)) then 6 else bif (x.Kind == 0) && (!d.Technicians.any (isS x.Who)) then 6 else
  bif x.Kind == 3 then (bif !nameB x.Who then 4 else bif !isBet 0 1000000000 x.Deposit then 2 else 0) else
  bif (x.Deposit != 0) || ((x.Kind != 0) && (!(x.Who == ([] : Str)))) then 3 else 0
theorem checkItem_eq (d : Diary) (x : Item) (hp : d.Places.length ≤ 900) (ht : d.Technicians.length ≤ 900) (hg : d.Grands.length ≤ 900) (hx : x.Who.length ≤ 900) (hn : 1000 < n) : diary_checkItem n d x = some (itemD d x) := by
  rw [diary_checkItem, grand_eq d x.Grand hg hn]
  have hG := grandOf_some d.Grands x.Grand
  have hdef : (default : Bool) = false := rfl
  simp only [Option.bind_some, diary_within, diary_isMinute, gcall_some_, Contains_eq (n := n) d.Places x.Place (by omega) (by omega), Contains_eq (n := n) d.Technicians x.Who (by omega) (by omega), isName_eq x.Who n (by omega) (by omega), withK_eq, itemD, hdef]
  rw [← hG]
  show (bif !isBet 0 3 x.Kind then some 15 else bif (!isBet 0 1000000 x.From) || (!isBet 0 1000000 x.To) then some 2 else _) = _
  cases hk : isBet 0 3 x.Kind with
  | false => rfl
  | true =>
    have hk4 : x.Kind = 0 ∨ x.Kind = 1 ∨ x.Kind = 2 ∨ x.Kind = 3 := by
      simp [isBet] at hk; omega
    simp only [Bool.not_true, cond_false]
    cases (!isBet 0 1000000 x.From) || (!isBet 0 1000000 x.To) with
    | true => rfl
    | false =>
    cases decide (x.To ≤ x.From) with
    | true => rfl
    | false =>
    simp only [cond_false, isBet]
    have e0 : ((match grandOf d.Grands x.Grand with | some g => (g.Name, g.Place, g.Width, true) | none => (([] : Str), ([] : Str), (0 : Int), false)).2.2.2) = (grandOf d.Grands x.Grand).isSome := by cases grandOf d.Grands x.Grand <;> rfl
    rw [e0]
    cases (grandOf d.Grands x.Grand).isSome with
    | false => rfl
    | true =>
    cases d.Places.any (isS x.Place) with
    | false => rfl
    | true =>
    rcases hk4 with e | e | e | e <;> rw [e] <;> cases d.Technicians.any (isS x.Who) <;> cases nameB x.Who <;> cases decide (0 ≤ x.Deposit) && decide (x.Deposit ≤ 1000000000) <;> cases x.Deposit != 0 <;> cases x.Who == ([] : Str) <;> rfl
theorem CheckItem_ref (d : Diary) (x : Item) (hp : d.Places.length ≤ 900) (ht : d.Technicians.length ≤ 900) (hg : d.Grands.length ≤ 900) (hx : x.Who.length ≤ 900) (hn : 1000 < n) : agrafferef09_CheckItem n d x = some (itemD d x) := by
  rw [agrafferef09_CheckItem]
  simp only [Option.bind_some, agraffebase_Within, agrafferef09_IsMinute, gcall_some_, place_eq (n := n) d x.Place (by omega) (by omega), GrandAt_eq (n := n) d x.Grand (by omega) (by omega), HasText_eq (n := n) d.Technicians x.Who (by omega) (by omega), IsName_eq x.Who n (by omega) (by omega), itemD, findI_none]
  show (bif !isBet 0 3 x.Kind then some 15 else bif (!isBet 0 1000000 x.From) || (!isBet 0 1000000 x.To) then some 2 else _) = _
  cases hk : isBet 0 3 x.Kind with
  | false => rfl
  | true =>
    have hk4 : x.Kind = 0 ∨ x.Kind = 1 ∨ x.Kind = 2 ∨ x.Kind = 3 := by
      simp [isBet] at hk; omega
    simp only [Bool.not_true, cond_false]
    cases (!isBet 0 1000000 x.From) || (!isBet 0 1000000 x.To) with
    | true => rfl
    | false =>
    cases decide (x.To ≤ x.From) with
    | true => rfl
    | false =>
    simp only [cond_false, isBet]
    cases d.Grands.any (isG x.Grand) with
    | false => rfl
    | true =>
    simp only [Bool.not_true, Bool.not_false, cond_true, findI_none, Bool.false_or]
    cases d.Places.any (isS x.Place) with
    | false => rfl
    | true =>
    rcases hk4 with e | e | e | e <;> rw [e] <;> cases d.Technicians.any (isS x.Who) <;> cases nameB x.Who <;> cases decide (0 ≤ x.Deposit) && decide (x.Deposit ≤ 1000000000) <;> cases x.Deposit != 0 <;> cases x.Who == ([] : Str) <;> rfl
end
section
set_option maxRecDepth 4000
open Go
set_option maxRecDepth 100000 in
theorem awake_ok (m : Nat) : agraffelaw09_awake (m + 2000) = some true := by kernel_rfl
theorem town_ok (d : Diary) (n : Nat) (hd : OkD d) : agraffelaw09_town n d = some () := by
  obtain ⟨h1, h2, h3, h4, _, _, _, _, _, _⟩ := hd
  have r1 : room 16 d.Places.length = true := room_of (by omega) (by omega)
  have r2 : room 16 d.Technicians.length = true := room_of (by omega) (by omega)
  have r3 : room 48 d.Roads.length = true := room_of (by omega) (by omega)
  have r4 : room 40 d.Grands.length = true := room_of (by omega) (by omega)
  simp only [agraffelaw09_town, agraffebase_CopyTexts, r1, r2, r3, r4, chk_t, Option.bind_some]
abbrev enough (d : Diary) : Nat := d.Places.length + d.Technicians.length + 2000
theorem pure_DiaryChecks (a0 : Diary) (a1 : Item) (hp : a0.Places.length ≤ 9223372036854775807) (ht : a0.Technicians.length ≤ 9223372036854775807) :
    agraffelaw09_DiaryChecks (enough a0) a0 a1 = some true := by
  have hn : 1000 < enough a0 := by simp only [enough]; omega
  obtain ⟨b, hb, hok⟩ := Light_eq (n := enough a0) a0 hn (by simp only [enough]; omega) (by simp only [enough]; omega) hp ht
  rw [agraffelaw09_DiaryChecks, awake_ok, hb]
  simp only [Option.bind_some, Bool.not_true, cond_false, agraffelaw09_slim, gcall_some_]
  cases b with
  | false => rfl
  | true =>
    have hd := hok rfl
    cases hs : ((decide (a1.Grand.length ≤ 30)) && (decide (a1.Place.length ≤ 30))) && (decide (a1.Who.length ≤ 30)) with
    | false => simp
    | true =>
      have hw : a1.Who.length ≤ 30 := by simp at hs; omega
      have h1 := hd.places
      have h2 := hd.techs
      have h3 := hd.grands
      simp only [Bool.not_true, Bool.or_self, cond_false, CheckDiary_ref a0 hd hn, town_ok a0 _ hd, Option.bind_some, diary_CheckItem, CheckDiary_eq a0 hd hn, bne_self_eq_false, withK_eq,
        checkItem_eq a0 a1 (by omega) (by omega) (by omega) (by omega) hn, CheckItem_ref a0 a1 (by omega) (by omega) (by omega) (by omega) hn]
      by_cases h : diaryD a0 = 0
      · simp [h]
      · have hb : (diaryD a0 == 0) = false := by simp [h]
        simp [hb, bne_t h]
end
end Go.Proofs.Ytkfoapcmkpddjaa.As
