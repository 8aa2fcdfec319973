/- What the functions compute, on plain data, and what follows from it, part 1: no condition. -/
import Derived.Test.YtkfoapcmkpddjaaGround3
namespace Go.Proofs.Ytkfoapcmkpddjaa.As
open Go
section
set_option maxRecDepth 4000
open Go
structure Road where
  A : Str
  B : Str
  Minutes : Int
  Width : Int
  deriving Inhabited, DecidableEq
def eRoad (x : Road) : V := .agg [vt x.A, vt x.B, vi x.Minutes, vi x.Width]
structure Grand where
  Name : Str
  Place : Str
  Width : Int
  deriving Inhabited, DecidableEq
def eGrand (x : Grand) : V := .agg [vt x.Name, vt x.Place, vi x.Width]
structure Diary where
  Places : List Str
  Technicians : List Str
  Roads : List Road
  Grands : List Grand
  Change : Int
  Lasts : Int
  deriving Inhabited, DecidableEq
structure Item where
  Kind : Int
  From : Int
  To : Int
  Grand : Str
  Place : Str
  Who : Str
  Deposit : Int
  deriving Inhabited, DecidableEq
def eItem (x : Item) : V := .agg [vi x.Kind, vi x.From, vi x.To, vt x.Grand, vt x.Place, vt x.Who, vi x.Deposit]
theorem eItem_frz (x : Item) : (eItem x).frz = true := rfl
theorem eItem_frzE (x : Item) : frzE (eItem x) = true := rfl
structure Arr2_Str where
  a0 : Str
  a1 : Str
  deriving Inhabited, DecidableEq
def eArr2_Str (x : Arr2_Str) : V := .agg [vt x.a0, vt x.a1]
theorem eArr2_Str_frz (x : Arr2_Str) : (eArr2_Str x).frz = true := rfl
theorem eArr2_Str_key : KeyAB eArr2_Str (fun x => x.a0) (fun x => x.a1) := ⟨fun _ => rfl, fun ⟨a, b⟩ ⟨c, d⟩ => keyab_dec ⟨fun h => by cases h; exact ⟨rfl, rfl⟩, fun h => by cases h.1; cases h.2; rfl⟩⟩
def tunStop (x : Item) (lasts : Int) (y : Item) : Bool := (y.Grand == x.Grand) && ((y.Kind == 1) || ((y.Kind == 0) && (decide (y.To ≤ x.From) && decide (IntKind.i64.wrap (x.From - y.To) ≤ lasts))))
def tuneL (x : Item) (lasts : Int) (l : List Item) : Nat → Int
  | 0 => -1
  | k + 1 => bif tunStop x lasts (ix l k) then (bif (ix l k).Kind == 1 then -1 else ((k : Nat) : Int)) else tuneL x lasts l k
def sortIns (x : Int) : List Int → List Int
  | [] => [x]
  | y :: l => bif decide (x ≤ y) then x :: y :: l else y :: sortIns x l
def sortI : List Int → List Int
  | [] => []
  | x :: l => sortIns x (sortI l)
def insL {α : Type} (l : List α) (i : Nat) (x : α) : List α := l.take i ++ x :: l.drop i
structure Window where
  From : Int
  To : Int
  deriving Inhabited, DecidableEq
def eWindow (x : Window) : V := .agg [vi x.From, vi x.To]
theorem eWindow_frz (x : Window) : (eWindow x).frz = true := rfl
theorem eWindow_frzE (x : Window) : frzE (eWindow x) = true := rfl
structure Arr2_Int where
  a0 : Int
  a1 : Int
  deriving Inhabited, DecidableEq
def eArr2_Int (x : Arr2_Int) : V := .agg [vi x.a0, vi x.a1]
def agraffelaw09_Town (n : Nat)  : Option Unit :=
  some ()
def diary_isName_L1 (a0 : Str) (k1 : (Unit → Option Bool)) (back : Nat → Option Bool) : Nat → Option Bool
  | v1 =>
  bif decide (v1 < a0.length) then
    bif (!(((decide ((97 : Int) ≤ (((List.getD a0 v1 0).toNat : Nat) : Int))) && (decide ((((List.getD a0 v1 0).toNat : Nat) : Int) ≤ (122 : Int)))) || ((decide ((65 : Int) ≤ (((List.getD a0 v1 0).toNat : Nat) : Int))) && (decide ((((List.getD a0 v1 0).toNat : Nat) : Int) ≤ (90 : Int)))))) && ((decide (v1 = 0)) || (((((List.getD a0 v1 0).toNat : Nat) : Int) != (45 : Int)) && ((decide ((((List.getD a0 v1 0).toNat : Nat) : Int) < (48 : Int))) || (decide ((57 : Int) < (((List.getD a0 v1 0).toNat : Nat) : Int)))))) then
      some false
    else
      chk (nI (v1 + 1)) <|
      back (v1 + 1)
  else
    k1 ()
def diary_isName (n : Nat) (a0 : Str) : Option Bool :=
  withK (fun (_ : Unit) =>
      some ((!(a0 == ([] : Str))) && (decide (a0.length ≤ 12)))) fun k1 =>
  loopN (diary_isName_L1 a0 k1) n 0
def slices_Index_string_L1 (a0 : List Str) (a1 : Str) (k1 : (Unit → Option Int)) (back : Nat → Option Int) : Nat → Option Int
  | v1 =>
  bif decide (v1 < a0.length) then
    bif (a1 == (ix a0 v1)) then
      some ((v1 : Nat) : Int)
    else
      chk (nI (v1 + 1)) <|
      back (v1 + 1)
  else
    k1 ()
def slices_Index_string (n : Nat) (a0 : List Str) (a1 : Str) : Option Int :=
  withK (fun (_ : Unit) =>
      some (-1)) fun k1 =>
  loopN (slices_Index_string_L1 a0 a1 k1) n 0
def slices_Contains_string (n : Nat) (a0 : List Str) (a1 : Str) : Option Bool :=
  (slices_Index_string n a0 a1).bind fun y1 =>
  some (decide ((0 : Int) ≤ y1))
def diary_checkName (n : Nat) (a0 : Str) (a1 : List Str) : Option Int :=
  (diary_isName n a0).bind fun y1 =>
  bif !y1 then
    some 4
  else
    (slices_Contains_string n a1 a0).bind fun y2 =>
    bif y2 then
      some 5
    else
      some 0
def diary_checkNames_L1 (n : Nat) (a0 : List Str) (k1 : (Unit → Option Int)) (back : Nat → Option Int) : Nat → Option Int
  | v2 =>
  bif decide (v2 < a0.length) then
    chk (decide (v2 ≤ a0.length)) <|
    (diary_checkName n (ix a0 v2) (List.take v2 a0)).bind fun y3 =>
    bif (y3 != (0 : Int)) then
      some y3
    else
      chk (nI (v2 + 1)) <|
      back (v2 + 1)
  else
    k1 ()
def diary_checkNames (n : Nat) (a0 : List Str) (a1 : Int) : Option Int :=
  bif decide (a1 < ((a0.length : Nat) : Int)) then
    some 8
  else
    withK (fun (_ : Unit) =>
        some 0) fun k1 =>
    loopN (diary_checkNames_L1 n a0 k1) n 0
def diary_within (n : Nat) (a0 : Int) (a1 : Int) (a2 : Int) : Option Unit :=
  some ()
def diary_isWidth (n : Nat) (a0 : Int) : Option Unit :=
  (diary_within n a0 1 10000).bind fun y1 =>
  some ()
def diary_checkRoads_L1 (n : Nat) (a0 : Diary) (k1 : (Unit → Option Int)) (back : Nat → Option Int) : Nat → Option Int
  | v5 =>
  bif decide (v5 < a0.Roads.length) then
    (slices_Contains_string n a0.Places ((ix a0.Roads v5).A)).bind fun y6 =>
    (gcall (!(!y6)) (slices_Contains_string n a0.Places ((ix a0.Roads v5).B))).bind fun y7 =>
    bif (!y6) || (!y7) then
      some 6
    else
      bif (((ix a0.Roads v5).A) == ((ix a0.Roads v5).B)) then
        some 3
      else
        (diary_within n ((ix a0.Roads v5).Minutes) 1 10000).bind fun y8 =>
        (gcall (!(!((decide (1 ≤ ((ix a0.Roads v5).Minutes))) && (decide (((ix a0.Roads v5).Minutes) ≤ 10000))))) (diary_isWidth n ((ix a0.Roads v5).Width))).bind fun y9 =>
        bif (!((decide (1 ≤ ((ix a0.Roads v5).Minutes))) && (decide (((ix a0.Roads v5).Minutes) ≤ 10000)))) || (!((decide (1 ≤ ((ix a0.Roads v5).Width))) && (decide (((ix a0.Roads v5).Width) ≤ 10000)))) then
          some 2
        else
          chk (nI (v5 + 1)) <|
          back (v5 + 1)
  else
    k1 ()
def diary_checkRoads (n : Nat) (a0 : Diary) : Option Int :=
  bif decide (60 < a0.Roads.length) then
    some 8
  else
    withK (fun (_ : Unit) =>
        some 0) fun k1 =>
    loopN (diary_checkRoads_L1 n a0 k1) n 0
def slices_Index_string_2_L1 (a0 : List Str) (a1 : Str) (k1 : (Unit → Option Int)) (back : Nat → Option Int) : Nat → Option Int
  | v1 =>
  bif decide (v1 < a0.length) then
    bif (a1 == (ix a0 v1)) then
      some ((v1 : Nat) : Int)
    else
      chk (nI (v1 + 1)) <|
      back (v1 + 1)
  else
    k1 ()
def slices_Index_string_2 (n : Nat) (a0 : List Str) (a1 : Str) : Option Int :=
  withK (fun (_ : Unit) =>
      some (-1)) fun k1 =>
  loopN (slices_Index_string_2_L1 a0 a1 k1) n 0
def slices_Contains_string_2 (n : Nat) (a0 : List Str) (a1 : Str) : Option Bool :=
  (slices_Index_string_2 n a0 a1).bind fun y1 =>
  some (decide ((0 : Int) ≤ y1))
def diary_checkName_2 (n : Nat) (a0 : Str) (a1 : List Str) : Option Int :=
  (diary_isName n a0).bind fun y1 =>
  bif !y1 then
    some 4
  else
    (slices_Contains_string_2 n a1 a0).bind fun y2 =>
    bif y2 then
      some 5
    else
      some 0
def diary_checkGrands_L1 (n : Nat) (a0 : Diary) (k1 : (Unit → Option Int)) (back : (List Str) × Nat → Option Int) : (List Str) × Nat → Option Int
  | (v4, v5) =>
  bif decide (v5 < a0.Grands.length) then
    (diary_checkName_2 n ((ix a0.Grands v5).Name) v4).bind fun y6 =>
    bif (y6 != (0 : Int)) then
      some y6
    else
      (slices_Contains_string n a0.Places ((ix a0.Grands v5).Place)).bind fun y7 =>
      bif !y7 then
        some 6
      else
        (diary_isWidth n ((ix a0.Grands v5).Width)).bind fun y8 =>
        bif !((decide (1 ≤ ((ix a0.Grands v5).Width))) && (decide (((ix a0.Grands v5).Width) ≤ 10000))) then
          some 2
        else
          chk (room 16 (v4 ++ ([(ix a0.Grands v5).Name] : List Str)).length) <|
          chk (nI (v5 + 1)) <|
          back ((v4 ++ ([(ix a0.Grands v5).Name] : List Str)), v5 + 1)
  else
    k1 ()
def diary_checkGrands (n : Nat) (a0 : Diary) : Option Int :=
  bif decide (12 < a0.Grands.length) then
    some 8
  else
    withK (fun (_ : Unit) =>
        some 0) fun k1 =>
    loopN (diary_checkGrands_L1 n a0 k1) n (([] : List Str), 0)
def diary_CheckDiary (n : Nat) (a0 : Diary) : Option Int :=
  (diary_checkNames n a0.Places 20).bind fun y1 =>
  bif (y1 != (0 : Int)) then
    some y1
  else
    (diary_checkRoads n a0).bind fun y2 =>
    bif (y2 != (0 : Int)) then
      some y2
    else
      (diary_checkGrands n a0).bind fun y3 =>
      bif (y3 != (0 : Int)) then
        some y3
      else
        (diary_checkNames n a0.Technicians 12).bind fun y4 =>
        bif (y4 != (0 : Int)) then
          some y4
        else
          (diary_within n a0.Change 0 1000).bind fun y5 =>
          (gcall (!(!((decide (0 ≤ a0.Change)) && (decide (a0.Change ≤ 1000))))) (diary_within n a0.Lasts 0 100000)).bind fun y6 =>
          bif (!((decide (0 ≤ a0.Change)) && (decide (a0.Change ≤ 1000)))) || (!((decide (0 ≤ a0.Lasts)) && (decide (a0.Lasts ≤ 100000)))) then
            some 2
          else
            some 0
def diary_open (n : Nat) (a0 : Diary) : Option (Int ⊕ Unit) :=
  (diary_CheckDiary n a0).bind fun y1 =>
  bif (y1 != (0 : Int)) then
    some (.inl y1)
  else
    some (.inr ())
def diary_plan_isPlace_2 (n : Nat) (a0 : List Str) (a1 : List Str) (a2 : List Road) (a3 : List Grand) (a4 : Int) (a5 : Int) (a6 : List (Int × List (Arr2_Str × Int))) (a7 : Str) : Option Bool :=
  (slices_Contains_string n a0 a7).bind fun y1 =>
  some y1
def diary_plan_joined_L1 (a2 : List Road) (a7 : Str) (a8 : Str) (a9 : Int) (k2 : (Int × Bool → Option (Int × Bool))) (back : Int × Bool × Nat → Option (Int × Bool)) : Int × Bool × Nat → Option (Int × Bool)
  | (v3, v4, v5) =>
  bif decide (v5 < a2.length) then
    withK (fun (v6, v7) =>
        chk (nI (v5 + 1)) <|
        back (v6, v7, v5 + 1)) fun k1 =>
    bif ((((((ix a2 v5).A) == a7) && (((ix a2 v5).B) == a8)) || ((((ix a2 v5).A) == a8) && (((ix a2 v5).B) == a7))) && (decide (a9 ≤ ((ix a2 v5).Width)))) && ((!v4) || (decide (((ix a2 v5).Minutes) < v3))) then
      k1 ((ix a2 v5).Minutes, true)
    else
      k1 (v3, v4)
  else
    k2 (v3, v4)
def diary_plan_joined (n : Nat) (a0 : List Str) (a1 : List Str) (a2 : List Road) (a3 : List Grand) (a4 : Int) (a5 : Int) (a6 : List (Int × List (Arr2_Str × Int))) (a7 : Str) (a8 : Str) (a9 : Int) : Option (Int × Bool) :=
  withK (fun (v8, v9) =>
      some (v8, v9)) fun k2 =>
  loopN (diary_plan_joined_L1 a2 a7 a8 a9 k2) n (0, false, 0)
def diary_plan_distances_L3 (a0 : List Str) (v31 : Nat) (v38 : Nat) (k7 : ((List (Arr2_Str × Int)) → Option ((List (Arr2_Str × Int)) × (List (Int × List (Arr2_Str × Int)))))) (back : Nat × (List (Arr2_Str × Int)) → Option ((List (Arr2_Str × Int)) × (List (Int × List (Arr2_Str × Int))))) : Nat × (List (Arr2_Str × Int)) → Option ((List (Arr2_Str × Int)) × (List (Int × List (Arr2_Str × Int))))
  | (v41, v42) =>
  bif decide (v41 < a0.length) then
    withK (fun (v43 : (List (Arr2_Str × Int))) =>
        chk (nI (v41 + 1)) <|
        back (v41 + 1, v43)) fun k6 =>
    chk (!(((Option.isSome (List.lookup (Arr2_Str.mk (ix a0 v38) (ix a0 v31)) v42)) && (Option.isSome (List.lookup (Arr2_Str.mk (ix a0 v31) (ix a0 v41)) v42))) && !(!(Option.isSome (List.lookup (Arr2_Str.mk (ix a0 v38) (ix a0 v41)) v42)))) || inI ((Option.getD (List.lookup (Arr2_Str.mk (ix a0 v38) (ix a0 v31)) v42) (0 : Int)) + (Option.getD (List.lookup (Arr2_Str.mk (ix a0 v31) (ix a0 v41)) v42) (0 : Int)))) <|
    bif ((Option.isSome (List.lookup (Arr2_Str.mk (ix a0 v38) (ix a0 v31)) v42)) && (Option.isSome (List.lookup (Arr2_Str.mk (ix a0 v31) (ix a0 v41)) v42))) && ((!(Option.isSome (List.lookup (Arr2_Str.mk (ix a0 v38) (ix a0 v41)) v42))) || (decide (((Option.getD (List.lookup (Arr2_Str.mk (ix a0 v38) (ix a0 v31)) v42) (0 : Int)) + (Option.getD (List.lookup (Arr2_Str.mk (ix a0 v31) (ix a0 v41)) v42) (0 : Int))) < (Option.getD (List.lookup (Arr2_Str.mk (ix a0 v38) (ix a0 v41)) v42) (0 : Int))))) then
      chk (inI ((Option.getD (List.lookup (Arr2_Str.mk (ix a0 v38) (ix a0 v31)) v42) (0 : Int)) + (Option.getD (List.lookup (Arr2_Str.mk (ix a0 v31) (ix a0 v41)) v42) (0 : Int)))) <|
      k6 (mPut (Arr2_Str.mk (ix a0 v38) (ix a0 v41)) ((Option.getD (List.lookup (Arr2_Str.mk (ix a0 v38) (ix a0 v31)) v42) (0 : Int)) + (Option.getD (List.lookup (Arr2_Str.mk (ix a0 v31) (ix a0 v41)) v42) (0 : Int))) v42)
    else
      k6 v42
  else
    k7 v42
def diary_plan_distances_L4 (n : Nat) (a0 : List Str) (v31 : Nat) (k8 : ((List (Arr2_Str × Int)) → Option ((List (Arr2_Str × Int)) × (List (Int × List (Arr2_Str × Int)))))) (back : Nat × (List (Arr2_Str × Int)) → Option ((List (Arr2_Str × Int)) × (List (Int × List (Arr2_Str × Int))))) : Nat × (List (Arr2_Str × Int)) → Option ((List (Arr2_Str × Int)) × (List (Int × List (Arr2_Str × Int))))
  | (v38, v39) =>
  bif decide (v38 < a0.length) then
    withK (fun (v44 : (List (Arr2_Str × Int))) =>
        chk (nI (v38 + 1)) <|
        back (v38 + 1, v44)) fun k7 =>
    loopN (diary_plan_distances_L3 a0 v31 v38 k7) n (0, v39)
  else
    k8 v39
def diary_plan_distances_L5 (n : Nat) (a0 : List Str) (k9 : ((List (Arr2_Str × Int)) → Option ((List (Arr2_Str × Int)) × (List (Int × List (Arr2_Str × Int)))))) (back : Nat × (List (Arr2_Str × Int)) → Option ((List (Arr2_Str × Int)) × (List (Int × List (Arr2_Str × Int))))) : Nat × (List (Arr2_Str × Int)) → Option ((List (Arr2_Str × Int)) × (List (Int × List (Arr2_Str × Int))))
  | (v31, v32) =>
  bif decide (v31 < a0.length) then
    withK (fun (v45 : (List (Arr2_Str × Int))) =>
        chk (nI (v31 + 1)) <|
        back (v31 + 1, v45)) fun k8 =>
    loopN (diary_plan_distances_L4 n a0 v31 k8) n (0, v32)
  else
    k9 v32
def diary_plan_distances_L1 (n : Nat) (a0 : List Str) (a1 : List Str) (a2 : List Road) (a3 : List Grand) (a4 : Int) (a5 : Int) (a6 : List (Int × List (Arr2_Str × Int))) (a7 : Int) (v8 : Nat) (k4 : ((List (Arr2_Str × Int)) → Option ((List (Arr2_Str × Int)) × (List (Int × List (Arr2_Str × Int)))))) (back : Nat × (List (Arr2_Str × Int)) → Option ((List (Arr2_Str × Int)) × (List (Int × List (Arr2_Str × Int))))) : Nat × (List (Arr2_Str × Int)) → Option ((List (Arr2_Str × Int)) × (List (Int × List (Arr2_Str × Int))))
  | (v12, v13) =>
  bif decide (v12 < a0.length) then
    withK (fun (v15 : (List (Arr2_Str × Int))) =>
        chk (nI (v12 + 1)) <|
        back (v12 + 1, v15)) fun k3 =>
    (diary_plan_joined n a0 a1 a2 a3 a4 a5 a6 (ix a0 v8) (ix a0 v12) a7).bind fun y14 =>
    bif y14.2 && (!((ix a0 v8) == (ix a0 v12))) then
      k3 (mPut (Arr2_Str.mk (ix a0 v8) (ix a0 v12)) y14.1 v13)
    else
      k3 v13
  else
    k4 v13
def diary_plan_distances_L2 (n : Nat) (a0 : List Str) (a1 : List Str) (a2 : List Road) (a3 : List Grand) (a4 : Int) (a5 : Int) (a6 : List (Int × List (Arr2_Str × Int))) (a7 : Int) (k5 : ((List (Arr2_Str × Int)) → Option ((List (Arr2_Str × Int)) × (List (Int × List (Arr2_Str × Int)))))) (back : Nat × (List (Arr2_Str × Int)) → Option ((List (Arr2_Str × Int)) × (List (Int × List (Arr2_Str × Int))))) : Nat × (List (Arr2_Str × Int)) → Option ((List (Arr2_Str × Int)) × (List (Int × List (Arr2_Str × Int))))
  | (v8, v9) =>
  bif decide (v8 < a0.length) then
    withK (fun (v16 : (List (Arr2_Str × Int))) =>
        chk (nI (v8 + 1)) <|
        back (v8 + 1, v16)) fun k4 =>
    loopN (diary_plan_distances_L1 n a0 a1 a2 a3 a4 a5 a6 a7 v8 k4) n (0, (mPut (Arr2_Str.mk (ix a0 v8) (ix a0 v8)) 0 v9))
  else
    k5 v9
def diary_plan_distances (n : Nat) (a0 : List Str) (a1 : List Str) (a2 : List Road) (a3 : List Grand) (a4 : Int) (a5 : Int) (a6 : List (Int × List (Arr2_Str × Int))) (a7 : Int) : Option ((List (Arr2_Str × Int)) × (List (Int × List (Arr2_Str × Int)))) :=
  withK (fun (_ : Unit) =>
      some ((Option.getD (List.lookup a7 a6) ([] : List (Arr2_Str × Int))), a6)) fun k1 =>
  withK (fun (_ : Unit) =>
      withK (fun (v17 : (List (Arr2_Str × Int))) =>
          withK (fun (v46 : (List (Arr2_Str × Int))) =>
              some (v46, (mPut a7 v46 a6))) fun k9 =>
          loopN (diary_plan_distances_L5 n a0 k9) n (0, v17)) fun k5 =>
      loopN (diary_plan_distances_L2 n a0 a1 a2 a3 a4 a5 a6 a7 k5) n (0, ([] : List (Arr2_Str × Int)))) fun k2 =>
  bif (Option.isSome (List.lookup a7 a6)) then
    k1 ()
  else
    k2 ()
def diary_plan_distance (n : Nat) (a0 : List Str) (a1 : List Str) (a2 : List Road) (a3 : List Grand) (a4 : Int) (a5 : Int) (a6 : List (Int × List (Arr2_Str × Int))) (a7 : Str) (a8 : Str) (a9 : Int) : Option (Int × Bool × (List (Int × List (Arr2_Str × Int)))) :=
  (diary_plan_distances n a0 a1 a2 a3 a4 a5 a6 a9).bind fun y1 =>
  some ((Option.getD (List.lookup (Arr2_Str.mk a7 a8) y1.1) (0 : Int)), (Option.isSome (List.lookup (Arr2_Str.mk a7 a8) y1.1)), y1.2)
def diary_Distances_L1 (n : Nat) (a0 : Diary) (a1 : Str) (a2 : Int) (k4 : ((List Int) → Option (Int × (List Int)))) (back : (List Int) × Nat × (List (Int × List (Arr2_Str × Int))) → Option (Int × (List Int))) : (List Int) × Nat × (List (Int × List (Arr2_Str × Int))) → Option (Int × (List Int))
  | (v9, v10, v11) =>
  bif decide (v10 < a0.Places.length) then
    (diary_plan_distance n a0.Places a0.Technicians a0.Roads a0.Grands a0.Change a0.Lasts v11 a1 (ix a0.Places v10) a2).bind fun y12 =>
    withK (fun (v13 : Int) =>
        chk (room 8 (v9 ++ ([v13] : List Int)).length) <|
        chk (nI (v10 + 1)) <|
        back ((v9 ++ ([v13] : List Int)), v10 + 1, y12.2.2)) fun k3 =>
    bif !y12.2.1 then
      k3 (-1)
    else
      k3 y12.1
  else
    k4 v9
def diary_Distances (n : Nat) (a0 : Diary) (a1 : Str) (a2 : Int) : Option (Int × (List Int)) :=
  withK (fun (v4 : Int) =>
      bif (v4 != (0 : Int)) then
        some (v4, ([] : List Int))
      else
        none) fun k1 =>
  withK (fun (_ : Unit) =>
      (diary_plan_isPlace_2 n a0.Places a0.Technicians a0.Roads a0.Grands a0.Change a0.Lasts ([] : List (Int × List (Arr2_Str × Int))) a1).bind fun y5 =>
      bif !y5 then
        some (6, ([] : List Int))
      else
        (diary_isWidth n a2).bind fun y6 =>
        bif !((decide (1 ≤ a2)) && (decide (a2 ≤ 10000))) then
          some (2, ([] : List Int))
        else
          withK (fun (v14 : (List Int)) =>
              some (0, v14)) fun k4 =>
          loopN (diary_Distances_L1 n a0 a1 a2 k4) n (([] : List Int), 0, ([] : List (Int × List (Arr2_Str × Int))))) fun k2 =>
  (diary_open n a0).bind fun y1 =>
  match y1 with
  | .inl y1 =>
    k1 y1
  | .inr y1 =>
    k2 ()
def agraffelaw09_Evening (n : Nat)  : Option Unit :=
  some ()
def diary_plan_accept_L1 (a0 : List Item) (k1 : (Unit → Option (Int × Int))) (back : Unit → Option (Int × Int)) : Unit → Option (Int × Int)
  | _ =>
  bif decide (0 < a0.length) then
    none
  else
    k1 ()
def diary_plan_accept (n : Nat) (a0 : List Item) : Option (Int × Int) :=
  bif decide (100 < a0.length) then
    some (0, 8)
  else
    withK (fun (_ : Unit) =>
        some ((-1), 0)) fun k1 =>
    loopN (diary_plan_accept_L1 a0 k1) n ()
def diary_grand_f1 (n : Nat) (a0 : Grand) (a1 : Str) : Option Unit :=
  some ()
def slices_IndexFunc_Grand_L1 (n : Nat) (a0 : List Grand) (a1 : Str) (k1 : (Unit → Option Int)) (back : Nat → Option Int) : Nat → Option Int
  | v2 =>
  bif decide (v2 < a0.length) then
    (diary_grand_f1 n (ix a0 v2) a1).bind fun y3 =>
    bif ((ix a0 v2).Name == a1) then
      some ((v2 : Nat) : Int)
    else
      chk (nI (v2 + 1)) <|
      back (v2 + 1)
  else
    k1 ()
def slices_IndexFunc_Grand (n : Nat) (a0 : List Grand) (a1 : Str) : Option Int :=
  withK (fun (_ : Unit) =>
      some (-1)) fun k1 =>
  loopN (slices_IndexFunc_Grand_L1 n a0 a1 k1) n 0
def diary_grand (n : Nat) (a0 : Diary) (a1 : Str) : Option (Str × Str × Int × Bool) :=
  (slices_IndexFunc_Grand n a0.Grands a1).bind fun y1 =>
  bif decide (y1 < (0 : Int)) then
    some (([] : Str), ([] : Str), 0, false)
  else
    chk (inB y1 a0.Grands.length) <|
    chk (decide (y1.toNat < a0.Grands.length)) <|
    some ((ix a0.Grands y1.toNat).Name, (ix a0.Grands y1.toNat).Place, (ix a0.Grands y1.toNat).Width, true)
def diary_isMinute (n : Nat) (a0 : Int) : Option Unit :=
  (diary_within n a0 0 1000000).bind fun y1 =>
  some ()
def diary_checkItem (n : Nat) (a0 : Diary) (a1 : Item) : Option Int :=
  (diary_grand n a0 a1.Grand).bind fun y1 =>
  (diary_within n a1.Kind 0 3).bind fun y2 =>
  bif !((decide (0 ≤ a1.Kind)) && (decide (a1.Kind ≤ 3))) then
    some 15
  else
    (diary_isMinute n a1.From).bind fun y3 =>
    (gcall (!(!((decide (0 ≤ a1.From)) && (decide (a1.From ≤ 1000000))))) (diary_isMinute n a1.To)).bind fun y4 =>
    bif (!((decide (0 ≤ a1.From)) && (decide (a1.From ≤ 1000000)))) || (!((decide (0 ≤ a1.To)) && (decide (a1.To ≤ 1000000)))) then
      some 2
    else
      bif decide (a1.To ≤ a1.From) then
        some 9
      else
        (gcall (!(!y1.2.2.2)) (slices_Contains_string n a0.Places a1.Place)).bind fun y5 =>
        bif (!y1.2.2.2) || (!y5) then
          some 6
        else
          (gcall (a1.Kind == (0 : Int)) (slices_Contains_string n a0.Technicians a1.Who)).bind fun y6 =>
          bif (a1.Kind == (0 : Int)) && (!y6) then
            some 6
          else
            (gcall (a1.Kind == (3 : Int)) (diary_isName n a1.Who)).bind fun y7 =>
            bif (a1.Kind == (3 : Int)) && (!y7) then
              some 4
            else
              (gcall (a1.Kind == (3 : Int)) (diary_within n a1.Deposit 0 1000000000)).bind fun y8 =>
              bif (a1.Kind == (3 : Int)) && (!((decide (0 ≤ a1.Deposit)) && (decide (a1.Deposit ≤ 1000000000)))) then
                some 2
              else
                withK (fun (v9 : Bool) =>
                    bif v9 then
                      some 3
                    else
                      some 0) fun k1 =>
                bif (a1.Kind != (3 : Int)) && (a1.Deposit != (0 : Int)) then
                  k1 ((a1.Kind != (3 : Int)) && (a1.Deposit != (0 : Int)))
                else
                  k1 (((a1.Kind == (1 : Int)) || (a1.Kind == (2 : Int))) && (!(a1.Who == ([] : Str))))
def diary_plan_changes_f1 (n : Nat) (a0 : Item) (a1 : Int) (a2 : Int) (a3 : Int) (a4 : Str) (a5 : Str) (a6 : Str) (a7 : Int) (a8 : List Str) (a9 : List Str) (a10 : List Road) (a11 : List Grand) (a12 : Int) (a13 : Int) (a14 : List (Int × List (Arr2_Str × Int))) : Option Unit :=
  chk (!(a0.Grand == a4) || inI (a0.To + a12)) <|
  some ()
def slices_IndexFunc_Item_L1 (n : Nat) (a0 : List Item) (a1 : Int) (a2 : Int) (a3 : Int) (a4 : Str) (a5 : Str) (a6 : Str) (a7 : Int) (a8 : List Str) (a9 : List Str) (a10 : List Road) (a11 : List Grand) (a12 : Int) (a13 : Int) (a14 : List (Int × List (Arr2_Str × Int))) (k1 : (Unit → Option Int)) (back : Nat → Option Int) : Nat → Option Int
  | v2 =>
  bif decide (v2 < a0.length) then
    (diary_plan_changes_f1 n (ix a0 v2) a1 a2 a3 a4 a5 a6 a7 a8 a9 a10 a11 a12 a13 a14).bind fun y3 =>
    bif ((ix a0 v2).Grand == a4) && (decide (a2 < ((ix a0 v2).To + a12))) then
      some ((v2 : Nat) : Int)
    else
      chk (nI (v2 + 1)) <|
      back (v2 + 1)
  else
    k1 ()
def slices_IndexFunc_Item (n : Nat) (a0 : List Item) (a1 : Int) (a2 : Int) (a3 : Int) (a4 : Str) (a5 : Str) (a6 : Str) (a7 : Int) (a8 : List Str) (a9 : List Str) (a10 : List Road) (a11 : List Grand) (a12 : Int) (a13 : Int) (a14 : List (Int × List (Arr2_Str × Int))) : Option Int :=
  withK (fun (_ : Unit) =>
      some (-1)) fun k1 =>
  loopN (slices_IndexFunc_Item_L1 n a0 a1 a2 a3 a4 a5 a6 a7 a8 a9 a10 a11 a12 a13 a14 k1) n 0
def slices_ContainsFunc_Item (n : Nat) (a0 : List Item) (a1 : Int) (a2 : Int) (a3 : Int) (a4 : Str) (a5 : Str) (a6 : Str) (a7 : Int) (a8 : List Str) (a9 : List Str) (a10 : List Road) (a11 : List Grand) (a12 : Int) (a13 : Int) (a14 : List (Int × List (Arr2_Str × Int))) : Option Bool :=
  (slices_IndexFunc_Item n a0 a1 a2 a3 a4 a5 a6 a7 a8 a9 a10 a11 a12 a13 a14).bind fun y1 =>
  some (decide ((0 : Int) ≤ y1))
def diary_plan_changes (n : Nat) (a0 : List Str) (a1 : List Str) (a2 : List Road) (a3 : List Grand) (a4 : Int) (a5 : Int) (a6 : List (Int × List (Arr2_Str × Int))) (a7 : List Item) (a8 : Item) : Option Int :=
  (slices_ContainsFunc_Item n a7 a8.Kind a8.From a8.To a8.Grand a8.Place a8.Who a8.Deposit a0 a1 a2 a3 a4 a5 a6).bind fun y1 =>
  bif y1 then
    some 17
  else
    some 0
def diary_plan_place_L1 (a7 : List Item) (a8 : Str) (a9 : Int) (k2 : (Str → Option Str)) (back : Str × Nat → Option Str) : Str × Nat → Option Str
  | (v3, v4) =>
  bif decide (v4 < a7.length) then
    withK (fun (v5 : Str) =>
        chk (nI (v4 + 1)) <|
        back (v5, v4 + 1)) fun k1 =>
    bif ((((ix a7 v4).Kind) == (1 : Int)) && (((ix a7 v4).Grand) == a8)) && (decide (((ix a7 v4).To) ≤ a9)) then
      k1 ((ix a7 v4).Place)
    else
      k1 v3
  else
    k2 v3
def diary_plan_place (n : Nat) (a0 : List Str) (a1 : List Str) (a2 : List Road) (a3 : List Grand) (a4 : Int) (a5 : Int) (a6 : List (Int × List (Arr2_Str × Int))) (a7 : List Item) (a8 : Str) (a9 : Int) : Option Str :=
  (diary_grand n (Diary.mk a0 a1 a2 a3 a4 a5) a8).bind fun y1 =>
  withK (fun (v6 : Str) =>
      some v6) fun k2 =>
  loopN (diary_plan_place_L1 a7 a8 a9 k2) n (y1.2.1, 0)
def diary_plan_stands (n : Nat) (a0 : List Str) (a1 : List Str) (a2 : List Road) (a3 : List Grand) (a4 : Int) (a5 : Int) (a6 : List (Int × List (Arr2_Str × Int))) (a7 : List Item) (a8 : Item) : Option (Int × (List (Int × List (Arr2_Str × Int)))) :=
  (diary_plan_place n a0 a1 a2 a3 a4 a5 a6 a7 a8.Grand a8.From).bind fun y1 =>
  bif (a8.Kind != (1 : Int)) then
    bif !(y1 == a8.Place) then
      some (13, a6)
    else
      some (0, a6)
  else
    (diary_grand n (Diary.mk a0 a1 a2 a3 a4 a5) a8.Grand).bind fun y2 =>
    (diary_plan_distance n a0 a1 a2 a3 a4 a5 a6 y1 a8.Place y2.2.2.1).bind fun y3 =>
    bif (y1 == a8.Place) then
      some (24, y3.2.2)
    else
      bif !y3.2.1 then
        some (12, y3.2.2)
      else
        chk (inI (a8.To - a8.From)) <|
        bif decide ((a8.To - a8.From) < y3.1) then
          some (18, y3.2.2)
        else
          some (0, y3.2.2)
def diary_plan_travels_L1 (n : Nat) (a0 : List Str) (a1 : List Str) (a2 : List Road) (a3 : List Grand) (a4 : Int) (a5 : Int) (a7 : List Item) (a8 : Item) (k2 : ((List (Int × List (Arr2_Str × Int))) → Option (Int × (List (Int × List (Arr2_Str × Int)))))) (back : Nat × (List (Int × List (Arr2_Str × Int))) → Option (Int × (List (Int × List (Arr2_Str × Int))))) : Nat × (List (Int × List (Arr2_Str × Int))) → Option (Int × (List (Int × List (Arr2_Str × Int))))
  | (v3, v4) =>
  bif decide (v3 < a7.length) then
    withK (fun (v6 : (List (Int × List (Arr2_Str × Int)))) =>
        chk (nI (v3 + 1)) <|
        back (v3 + 1, v6)) fun k1 =>
    bif (((ix a7 v3).Kind) != (0 : Int)) || (!(((ix a7 v3).Who) == a8.Who)) then
      k1 v4
    else
      (diary_plan_distance n a0 a1 a2 a3 a4 a5 v4 ((ix a7 v3).Place) a8.Place 1).bind fun y5 =>
      chk (!(!(!y5.2.1)) || inI (((ix a7 v3).To) + y5.1)) <|
      bif (!y5.2.1) || (decide (a8.From < (((ix a7 v3).To) + y5.1))) then
        some (16, y5.2.2)
      else
        k1 y5.2.2
  else
    k2 v4
def diary_plan_travels (n : Nat) (a0 : List Str) (a1 : List Str) (a2 : List Road) (a3 : List Grand) (a4 : Int) (a5 : Int) (a6 : List (Int × List (Arr2_Str × Int))) (a7 : List Item) (a8 : Item) : Option (Int × (List (Int × List (Arr2_Str × Int)))) :=
  bif (a8.Kind != (0 : Int)) then
    some (0, a6)
  else
    withK (fun (v7 : (List (Int × List (Arr2_Str × Int)))) =>
        some (0, v7)) fun k2 =>
    loopN (diary_plan_travels_L1 n a0 a1 a2 a3 a4 a5 a7 a8 k2) n (0, a6)
def diary_plan_tuning (n : Nat) (a0 : List Str) (a1 : List Str) (a2 : List Road) (a3 : List Grand) (a4 : Int) (a5 : Int) (a6 : List (Int × List (Arr2_Str × Int))) (a7 : List Item) (a8 : Item) : Option Int :=
  chk (decide (a7.length ≤ 4611686018427387904)) <|
  some (tuneL a8 a5 a7 a7.length)
def diary_plan_isTuned (n : Nat) (a0 : List Str) (a1 : List Str) (a2 : List Road) (a3 : List Grand) (a4 : Int) (a5 : Int) (a6 : List (Int × List (Arr2_Str × Int))) (a7 : List Item) (a8 : Item) : Option Int :=
  (gcall (a8.Kind == (2 : Int)) (diary_plan_tuning n a0 a1 a2 a3 a4 a5 a6 a7 a8)).bind fun y1 =>
  bif (a8.Kind == (2 : Int)) && (decide (y1 < (0 : Int))) then
    some 26
  else
    some 0
def diary_plan_accept_2_L1 (n : Nat) (a0 : List Str) (a1 : List Str) (a2 : List Road) (a3 : List Grand) (a4 : Int) (a5 : Int) (a7 : List Item) (k1 : ((List (Int × List (Arr2_Str × Int))) → Option (Int × Int × (List (Int × List (Arr2_Str × Int)))))) (back : Int × (List (Int × List (Arr2_Str × Int))) → Option (Int × Int × (List (Int × List (Arr2_Str × Int))))) : Int × (List (Int × List (Arr2_Str × Int))) → Option (Int × Int × (List (Int × List (Arr2_Str × Int))))
  | (v6, v7) =>
  bif decide (v6 < ((a7.length : Nat) : Int)) then
    chk (inB v6 a7.length) <|
    chk (decide (v6.toNat < a7.length)) <|
    (diary_checkItem n (Diary.mk a0 a1 a2 a3 a4 a5) (ix a7 v6.toNat)).bind fun y8 =>
    bif (y8 != (0 : Int)) then
      some (v6, y8, v7)
    else
      chk (!(decide ((0 : Int) < v6)) || inI (v6 - 1)) <|
      chk (!(decide ((0 : Int) < v6)) || inB (v6 - 1) a7.length) <|
      chk (!(decide ((0 : Int) < v6)) || decide ((v6 - 1).toNat < a7.length)) <|
      bif (decide ((0 : Int) < v6)) && (decide (((ix a7 v6.toNat).From) < ((ix a7 ((v6 - 1).toNat)).From))) then
        some (v6, 9, v7)
      else
        chk (inC v6 a7.length) <|
        (diary_plan_changes n a0 a1 a2 a3 a4 a5 v7 (List.take v6.toNat a7) (ix a7 v6.toNat)).bind fun y9 =>
        bif (y9 != (0 : Int)) then
          some (v6, y9, v7)
        else
          (diary_plan_stands n a0 a1 a2 a3 a4 a5 v7 (List.take v6.toNat a7) (ix a7 v6.toNat)).bind fun y10 =>
          bif (y10.1 != (0 : Int)) then
            some (v6, y10.1, y10.2)
          else
            (diary_plan_travels n a0 a1 a2 a3 a4 a5 y10.2 (List.take v6.toNat a7) (ix a7 v6.toNat)).bind fun y11 =>
            bif (y11.1 != (0 : Int)) then
              some (v6, y11.1, y11.2)
            else
              (diary_plan_isTuned n a0 a1 a2 a3 a4 a5 y11.2 (List.take v6.toNat a7) (ix a7 v6.toNat)).bind fun y12 =>
              bif (y12 != (0 : Int)) then
                some (v6, y12, y11.2)
              else
                chk (inI (v6 + 1)) <|
                back (v6 + 1, y11.2)
  else
    k1 v7
def diary_plan_accept_2 (n : Nat) (a0 : List Str) (a1 : List Str) (a2 : List Road) (a3 : List Grand) (a4 : Int) (a5 : Int) (a6 : List (Int × List (Arr2_Str × Int))) (a7 : List Item) : Option (Int × Int × (List (Int × List (Arr2_Str × Int)))) :=
  bif decide (100 < a7.length) then
    some (0, 8, a6)
  else
    withK (fun (v13 : (List (Int × List (Arr2_Str × Int)))) =>
        some ((-1), 0, v13)) fun k1 =>
    loopN (diary_plan_accept_2_L1 n a0 a1 a2 a3 a4 a5 a7 k1) n (0, a6)
def diary_Accept (n : Nat) (a0 : Diary) (a1 : List Item) : Option (Int × Int) :=
  withK (fun (v4 : Int) =>
      bif (v4 != (0 : Int)) then
        some (v4, 0)
      else
        (diary_plan_accept n a1).bind fun y5 =>
        some (y5.2, y5.1)) fun k1 =>
  withK (fun (_ : Unit) =>
      (diary_plan_accept_2 n a0.Places a0.Technicians a0.Roads a0.Grands a0.Change a0.Lasts ([] : List (Int × List (Arr2_Str × Int))) a1).bind fun y6 =>
      some (y6.2.1, y6.1)) fun k2 =>
  (diary_open n a0).bind fun y1 =>
  match y1 with
  | .inl y1 =>
    k1 y1
  | .inr y1 =>
    k2 ()
def diary_read (n : Nat) (a0 : Diary) (a1 : List Item) : Option (Int ⊕ (Int × (List (Int × List (Arr2_Str × Int))))) :=
  withK (fun (v4 : Int) =>
      bif (v4 != (0 : Int)) then
        some (.inl v4)
      else
        (diary_plan_accept n a1).bind fun y5 =>
        some (.inl y5.2)) fun k1 =>
  withK (fun (_ : Unit) =>
      (diary_plan_accept_2 n a0.Places a0.Technicians a0.Roads a0.Grands a0.Change a0.Lasts ([] : List (Int × List (Arr2_Str × Int))) a1).bind fun y6 =>
      some (.inr (y6.2.1, y6.2.2))) fun k2 =>
  (diary_open n a0).bind fun y1 =>
  match y1 with
  | .inl y1 =>
    k1 y1
  | .inr y1 =>
    k2 ()
def slices_Sort_int (n : Nat) (a0 : List Int) : Option (List Int) :=
  chk (decide (a0.length < 4611686018427387904)) <|
  some (sortI a0)
def slices_Compact_int_L1 (a1 : Nat) (a2 : Nat) (v10 : Nat) (k2 : (Nat × (List Int) → Option (Nat × (List Int)))) (back : Nat × Nat × (List Int) → Option (Nat × (List Int))) : Nat × Nat × (List Int) → Option (Nat × (List Int))
  | (v13, v14, v15) =>
  bif decide (v14 < (a2 - v10)) then
    withK (fun (v16, v17) =>
        chk (nI (v14 + 1)) <|
        back (v16, v14 + 1, v17)) fun k1 =>
    chk (decide ((a1 + v10) + v14 < v15.length)) <|
    chk (inI (((v14 : Nat) : Int) - 1)) <|
    chk (inB (((v14 : Nat) : Int) - 1) (a2 - v10)) <|
    chk (decide ((a1 + v10) + ((((v14 : Nat) : Int) - 1).toNat) < v15.length)) <|
    bif ((ix v15 ((a1 + v10) + v14)) != (ix v15 ((a1 + v10) + ((((v14 : Nat) : Int) - 1).toNat)))) then
      chk (decide (v13 < a2)) <|
      chk (decide (a1 + v13 < v15.length)) <|
      chk (nI (v13 + 1)) <|
      k1 (v13 + 1, (List.set v15 (a1 + v13) (ix v15 ((a1 + v10) + v14))))
    else
      k1 (v13, v15)
  else
    k2 (v13, v15)
def slices_Compact_int_L2 (n : Nat) (a0 : List Int) (a1 : Nat) (a2 : Nat) (k3 : (Unit → Option (Nat × (List Int)))) (back : Nat → Option (Nat × (List Int))) : Nat → Option (Nat × (List Int))
  | v10 =>
  bif decide (v10 < a2) then
    chk (decide (a1 + v10 < a0.length)) <|
    chk (inI (((v10 : Nat) : Int) - 1)) <|
    chk (inB (((v10 : Nat) : Int) - 1) a2) <|
    chk (decide (a1 + ((((v10 : Nat) : Int) - 1).toNat) < a0.length)) <|
    bif ((ix a0 (a1 + v10)) == (ix a0 (a1 + ((((v10 : Nat) : Int) - 1).toNat)))) then
      withK (fun (v18, v19) =>
          chk (decide (v18 < a2)) <|
          chk (decide (0 < (a2 - v18))) <|
          chk (decide ((a1 + v18) + (a2 - v18) ≤ v19.length)) <|
          chk (decide (a1 + v18 ≤ (clrP v19 (a1 + v18) (a2 - v18) (0 : Int)).length)) <|
          chk (decide (v18 ≤ a2)) <|
          some (v18, (clrP v19 (a1 + v18) (a2 - v18) (0 : Int)))) fun k2 =>
      loopN (slices_Compact_int_L1 a1 a2 v10 k2) n (v10, 1, a0)
    else
      chk (nI (v10 + 1)) <|
      back (v10 + 1)
  else
    k3 ()
def slices_Compact_int (n : Nat) (a0 : List Int) (a1 : Nat) (a2 : Nat) : Option (Nat × (List Int)) :=
  bif decide (a2 < 2) then
    some (a2, a0)
  else
    withK (fun (_ : Unit) =>
        some (a2, a0)) fun k3 =>
    loopN (slices_Compact_int_L2 n a0 a1 a2 k3) n 1
def slices_Clone_Item (n : Nat) (a0 : List Item) : Option (List Item) :=
  nilK (a0.isEmpty) fun b1 =>
  bif b1 then
    some ([] : List Item)
  else
    chk (room 80 a0.length) <|
    some a0
def slices_Insert_Item (n : Nat) (a0 : List Item) (a1 : Int) (a2 : List Item) : Option (List Item) :=
  chk (inC a1 a0.length) <|
  chk (decide (a2.length = 1)) <|
  chk (room 80 (a0.length + 1)) <|
  some (insL a0 a1.toNat (ix a2 0))
def diary_plan_add_L1 (a0 : List Item) (a1 : Item) (k1 : (Nat → Option (Int × (List Item)))) (back : Nat → Option (Int × (List Item))) : Nat → Option (Int × (List Item))
  | v1 =>
  bif (decide (v1 < a0.length)) && (decide (((ix a0 v1).From) ≤ a1.From)) then
    chk (nI (v1 + 1)) <|
    back (v1 + 1)
  else
    k1 v1
def diary_plan_add (n : Nat) (a0 : List Item) (a1 : Item) : Option (Int × (List Item)) :=
  withK (fun (v2 : Nat) =>
      (slices_Clone_Item n a0).bind fun y3 =>
      (slices_Insert_Item n y3 ((v2 : Nat) : Int) ([a1] : List Item)).bind fun y4 =>
      (diary_plan_accept n y4).bind fun y5 =>
      bif (y5.2 != (0 : Int)) then
        some (y5.2, ([] : List Item))
      else
        some (0, y4)) fun k1 =>
  loopN (diary_plan_add_L1 a0 a1 k1) n 0
def diary_plan_add_2_L1 (a7 : List Item) (a8 : Item) (k1 : (Nat → Option (Int × (List (Int × List (Arr2_Str × Int))) × (List Item)))) (back : Nat → Option (Int × (List (Int × List (Arr2_Str × Int))) × (List Item))) : Nat → Option (Int × (List (Int × List (Arr2_Str × Int))) × (List Item))
  | v1 =>
  bif (decide (v1 < a7.length)) && (decide (((ix a7 v1).From) ≤ a8.From)) then
    chk (nI (v1 + 1)) <|
    back (v1 + 1)
  else
    k1 v1
def diary_plan_add_2 (n : Nat) (a0 : List Str) (a1 : List Str) (a2 : List Road) (a3 : List Grand) (a4 : Int) (a5 : Int) (a6 : List (Int × List (Arr2_Str × Int))) (a7 : List Item) (a8 : Item) : Option (Int × (List (Int × List (Arr2_Str × Int))) × (List Item)) :=
  withK (fun (v2 : Nat) =>
      (slices_Clone_Item n a7).bind fun y3 =>
      (slices_Insert_Item n y3 ((v2 : Nat) : Int) ([a8] : List Item)).bind fun y4 =>
      (diary_plan_accept_2 n a0 a1 a2 a3 a4 a5 a6 y4).bind fun y5 =>
      bif (y5.2.1 != (0 : Int)) then
        some (y5.2.1, y5.2.2, ([] : List Item))
      else
        some (0, y5.2.2, y4)) fun k1 =>
  loopN (diary_plan_add_2_L1 a7 a8 k1) n 0
def diary_FreeFrom_L2 (n : Nat) (a1 : List Item) (a2 : Item) (y7 : Nat × (List Int)) (k4 : (Unit → Option (Int × Int))) (back : Nat → Option (Int × Int)) : Nat → Option (Int × Int)
  | v9 =>
  bif decide (v9 < y7.1) then
    withK (fun (_ : Unit) =>
        chk (nI (v9 + 1)) <|
        back (v9 + 1)) fun k3 =>
    chk (decide (v9 < y7.2.length)) <|
    chk (!(!(decide ((ix y7.2 v9) < a2.From))) || inI ((ix y7.2 v9) + (a2.To - a2.From))) <|
    bif (decide ((ix y7.2 v9) < a2.From)) || (decide ((1000000 : Int) < ((ix y7.2 v9) + (a2.To - a2.From)))) then
      k3 ()
    else
      chk (inI ((ix y7.2 v9) + (a2.To - a2.From))) <|
      (diary_plan_add n a1 (Item.mk a2.Kind (ix y7.2 v9) ((ix y7.2 v9) + (a2.To - a2.From)) a2.Grand a2.Place a2.Who a2.Deposit)).bind fun y10 =>
      bif (y10.1 == (0 : Int)) then
        some (0, (ix y7.2 v9))
      else
        k3 ()
  else
    k4 ()
def diary_FreeFrom_L1 (a0 : Diary) (a1 : List Item) (a2 : Item) (k2 : (Unit → Option (Int × Int))) (back : Unit → Option (Int × Int)) : Unit → Option (Int × Int)
  | _ =>
  bif decide (0 < a1.length) then
    chk (inI (((ix a1 0).To) + a0.Change)) <|
    chk (room 8 (([a2.From] : List Int) ++ ([(ix a1 0).From, (ix a1 0).To, ((ix a1 0).To) + a0.Change] : List Int)).length) <|
    none
  else
    k2 ()
def diary_FreeFrom_L4 (n : Nat) (a0 : Diary) (a1 : List Item) (a2 : Item) (y26 : Nat × (List Int)) (k9 : (Unit → Option (Int × Int))) (back : Nat × (List (Int × List (Arr2_Str × Int))) → Option (Int × Int)) : Nat × (List (Int × List (Arr2_Str × Int))) → Option (Int × Int)
  | (v29, v30) =>
  bif decide (v29 < y26.1) then
    withK (fun (v32 : (List (Int × List (Arr2_Str × Int)))) =>
        chk (nI (v29 + 1)) <|
        back (v29 + 1, v32)) fun k8 =>
    chk (decide (v29 < y26.2.length)) <|
    chk (!(!(decide ((ix y26.2 v29) < a2.From))) || inI ((ix y26.2 v29) + (a2.To - a2.From))) <|
    bif (decide ((ix y26.2 v29) < a2.From)) || (decide ((1000000 : Int) < ((ix y26.2 v29) + (a2.To - a2.From)))) then
      k8 v30
    else
      chk (inI ((ix y26.2 v29) + (a2.To - a2.From))) <|
      (diary_plan_add_2 n a0.Places a0.Technicians a0.Roads a0.Grands a0.Change a0.Lasts v30 a1 (Item.mk a2.Kind (ix y26.2 v29) ((ix y26.2 v29) + (a2.To - a2.From)) a2.Grand a2.Place a2.Who a2.Deposit)).bind fun y31 =>
      bif (y31.1 == (0 : Int)) then
        some (0, (ix y26.2 v29))
      else
        k8 y31.2.1
  else
    k9 ()
def diary_FreeFrom_L3 (n : Nat) (a0 : Diary) (a1 : List Item) (a2 : Item) (k7 : ((List Int) × (List (Int × List (Arr2_Str × Int))) → Option (Int × Int))) (back : Nat × (List Int) × (List (Int × List (Arr2_Str × Int))) → Option (Int × Int)) : Nat × (List Int) × (List (Int × List (Arr2_Str × Int))) → Option (Int × Int)
  | (v17, v18, v19) =>
  bif decide (v17 < a1.length) then
    withK (fun (v21, v22) =>
        chk (nI (v17 + 1)) <|
        back (v17 + 1, v21, v22)) fun k6 =>
    chk (inI (((ix a1 v17).To) + a0.Change)) <|
    chk (room 8 (v18 ++ ([(ix a1 v17).From, (ix a1 v17).To, ((ix a1 v17).To) + a0.Change] : List Int)).length) <|
    (diary_plan_distance n a0.Places a0.Technicians a0.Roads a0.Grands a0.Change a0.Lasts v19 ((ix a1 v17).Place) a2.Place 1).bind fun y20 =>
    bif y20.2.1 then
      chk (inI (((ix a1 v17).To) + y20.1)) <|
      chk (room 8 ((v18 ++ ([(ix a1 v17).From, (ix a1 v17).To, ((ix a1 v17).To) + a0.Change] : List Int)) ++ ([((ix a1 v17).To) + y20.1] : List Int)).length) <|
      k6 (((v18 ++ ([(ix a1 v17).From, (ix a1 v17).To, ((ix a1 v17).To) + a0.Change] : List Int)) ++ ([((ix a1 v17).To) + y20.1] : List Int)), y20.2.2)
    else
      k6 ((v18 ++ ([(ix a1 v17).From, (ix a1 v17).To, ((ix a1 v17).To) + a0.Change] : List Int)), y20.2.2)
  else
    k7 (v18, v19)
def diary_FreeFrom (n : Nat) (a0 : Diary) (a1 : List Item) (a2 : Item) : Option (Int × Int) :=
  withK (fun (v4 : Int) =>
      bif (v4 != (0 : Int)) then
        some (v4, 0)
      else
        bif decide (100 ≤ a1.length) then
          some (8, 0)
        else
          (diary_checkItem n a0 a2).bind fun y5 =>
          bif (y5 != (0 : Int)) then
            some (y5, 0)
          else
            withK (fun (_ : Unit) =>
                (slices_Sort_int n ([a2.From] : List Int)).bind fun y6 =>
                chk (inI (a2.To - a2.From)) <|
                withK (fun (_ : Unit) =>
                    some (12, 0)) fun k4 =>
                (slices_Compact_int n y6 0 1).bind fun y7 =>
                loopN (diary_FreeFrom_L2 n a1 a2 y7 k4) n 0) fun k2 =>
            loopN (diary_FreeFrom_L1 a0 a1 a2 k2) n ()) fun k1 =>
  withK (fun (v11, v12) =>
      bif (v11 != (0 : Int)) then
        some (v11, 0)
      else
        bif decide (100 ≤ a1.length) then
          some (8, 0)
        else
          (diary_checkItem n a0 a2).bind fun y13 =>
          bif (y13 != (0 : Int)) then
            some (y13, 0)
          else
            withK (fun (v23, v24) =>
                (slices_Sort_int n v23).bind fun y25 =>
                chk (decide (v23.length = y25.length)) <|
                chk (inI (a2.To - a2.From)) <|
                withK (fun (_ : Unit) =>
                    some (12, 0)) fun k9 =>
                (slices_Compact_int n y25 0 y25.length).bind fun y26 =>
                chk (decide (y25.length = y26.2.length)) <|
                loopN (diary_FreeFrom_L4 n a0 a1 a2 y26 k9) n (0, v24)) fun k7 =>
            loopN (diary_FreeFrom_L3 n a0 a1 a2 k7) n (0, ([a2.From] : List Int), v12)) fun k5 =>
  (diary_read n a0 a1).bind fun y1 =>
  match y1 with
  | .inl y1 =>
    k1 y1
  | .inr y1 =>
    k5 (y1.1, y1.2)
def diary_CheckWindows_L1 (n : Nat) (a0 : List Window) (k1 : (Unit → Option Int)) (back : Nat → Option Int) : Nat → Option Int
  | v3 =>
  bif decide (v3 < a0.length) then
    (diary_within n ((ix a0 v3).From) 0 1000).bind fun y4 =>
    (gcall (!(!((decide (0 ≤ ((ix a0 v3).From))) && (decide (((ix a0 v3).From) ≤ 1000))))) (diary_within n ((ix a0 v3).To) 0 1000)).bind fun y5 =>
    bif (!((decide (0 ≤ ((ix a0 v3).From))) && (decide (((ix a0 v3).From) ≤ 1000)))) || (!((decide (0 ≤ ((ix a0 v3).To))) && (decide (((ix a0 v3).To) ≤ 1000)))) then
      some 2
    else
      bif decide (((ix a0 v3).To) ≤ ((ix a0 v3).From)) then
        some 9
      else
        chk (nI (v3 + 1)) <|
        back (v3 + 1)
  else
    k1 ()
def diary_CheckWindows (n : Nat) (a0 : List Window) : Option Int :=
  bif decide (60 < a0.length) then
    some 8
  else
    withK (fun (_ : Unit) =>
        some 0) fun k1 =>
    loopN (diary_CheckWindows_L1 n a0 k1) n 0
def math_bits_Mul64 (n : Nat) (a0 : Int) (a1 : Int) : Option Unit :=
  some ()
def math_bits_Mul (n : Nat) (a0 : Int) (a1 : Int) : Option Unit :=
  (math_bits_Mul64 n a0 a1).bind fun y1 =>
  some ()
def slices_Repeat_int_L1 (a0 : List Int) (a1 : Int) (k1 : ((List Int) → Option (List Int))) (back : Nat × (List Int) → Option (List Int)) : Nat × (List Int) → Option (List Int)
  | (v2, v3) =>
  bif decide (v2 < ((List.replicate ((IntKind.u64.wrap ((IntKind.u64.wrap ((a0.length : Nat) : Int)) * (IntKind.u64.wrap a1))).toNat) (0 : Int)).length)) then
    chk (decide (v2 ≤ ((List.replicate ((IntKind.u64.wrap ((IntKind.u64.wrap ((a0.length : Nat) : Int)) * (IntKind.u64.wrap a1))).toNat) (0 : Int)).length))) <|
    chk (decide (v2 + (((List.replicate ((IntKind.u64.wrap ((IntKind.u64.wrap ((a0.length : Nat) : Int)) * (IntKind.u64.wrap a1))).toNat) (0 : Int)).length) - v2) ≤ v3.length)) <|
    chk (decide (0 + v2 ≤ v3.length)) <|
    chk (nI (v2 + (Nat.min (List.take v2 (List.drop 0 v3)).length (((List.replicate ((IntKind.u64.wrap ((IntKind.u64.wrap ((a0.length : Nat) : Int)) * (IntKind.u64.wrap a1))).toNat) (0 : Int)).length) - v2)))) <|
    back (v2 + (Nat.min (List.take v2 (List.drop 0 v3)).length (((List.replicate ((IntKind.u64.wrap ((IntKind.u64.wrap ((a0.length : Nat) : Int)) * (IntKind.u64.wrap a1))).toNat) (0 : Int)).length) - v2)), (cpyP v3 v2 (List.take (Nat.min (List.take v2 (List.drop 0 v3)).length (((List.replicate ((IntKind.u64.wrap ((IntKind.u64.wrap ((a0.length : Nat) : Int)) * (IntKind.u64.wrap a1))).toNat) (0 : Int)).length) - v2)) (List.take v2 (List.drop 0 v3)))))
  else
    k1 v3
def slices_Repeat_int (n : Nat) (a0 : List Int) (a1 : Int) : Option (List Int) :=
  bif decide (a1 < (0 : Int)) then
    none
  else
    (math_bits_Mul n (IntKind.u64.wrap ((a0.length : Nat) : Int)) (IntKind.u64.wrap a1)).bind fun y1 =>
    bif (decide ((0 : Int) < (IntKind.u64.wrap ((IntKind.u64.wrap ((IntKind.u64.wrap ((Int.fdiv (IntKind.u64.wrap ((a0.length : Nat) : Int)) (2 ^ (min 32 64))) * (Int.fdiv (IntKind.u64.wrap a1) (2 ^ (min 32 64))))) + (Int.fdiv (IntKind.u64.wrap ((IntKind.u64.wrap ((Int.fdiv (IntKind.u64.wrap ((a0.length : Nat) : Int)) (2 ^ (min 32 64))) * (iAnd .u64 (IntKind.u64.wrap a1) 4294967295))) + (Int.fdiv (IntKind.u64.wrap ((iAnd .u64 (IntKind.u64.wrap ((a0.length : Nat) : Int)) 4294967295) * (iAnd .u64 (IntKind.u64.wrap a1) 4294967295))) (2 ^ (min 32 64))))) (2 ^ (min 32 64))))) + (Int.fdiv (IntKind.u64.wrap ((iAnd .u64 (IntKind.u64.wrap ((IntKind.u64.wrap ((Int.fdiv (IntKind.u64.wrap ((a0.length : Nat) : Int)) (2 ^ (min 32 64))) * (iAnd .u64 (IntKind.u64.wrap a1) 4294967295))) + (Int.fdiv (IntKind.u64.wrap ((iAnd .u64 (IntKind.u64.wrap ((a0.length : Nat) : Int)) 4294967295) * (iAnd .u64 (IntKind.u64.wrap a1) 4294967295))) (2 ^ (min 32 64))))) 4294967295) + (IntKind.u64.wrap ((iAnd .u64 (IntKind.u64.wrap ((a0.length : Nat) : Int)) 4294967295) * (Int.fdiv (IntKind.u64.wrap a1) (2 ^ (min 32 64))))))) (2 ^ (min 32 64))))))) || (decide ((9223372036854775807 : Int) < (IntKind.u64.wrap ((IntKind.u64.wrap ((a0.length : Nat) : Int)) * (IntKind.u64.wrap a1))))) then
      none
    else
      chk (inI (IntKind.u64.wrap ((IntKind.u64.wrap ((a0.length : Nat) : Int)) * (IntKind.u64.wrap a1)))) <|
      chk (decide (0 ≤ (IntKind.u64.wrap ((IntKind.u64.wrap ((a0.length : Nat) : Int)) * (IntKind.u64.wrap a1))))) <|
      chk (mkroom 8 ((IntKind.u64.wrap ((IntKind.u64.wrap ((a0.length : Nat) : Int)) * (IntKind.u64.wrap a1))).toNat)) <|
      chk (decide (0 + ((List.replicate ((IntKind.u64.wrap ((IntKind.u64.wrap ((a0.length : Nat) : Int)) * (IntKind.u64.wrap a1))).toNat) (0 : Int)).length) ≤ (List.replicate ((IntKind.u64.wrap ((IntKind.u64.wrap ((a0.length : Nat) : Int)) * (IntKind.u64.wrap a1))).toNat) (0 : Int)).length)) <|
      chk (decide (0 + a0.length ≤ a0.length)) <|
      withK (fun (v4 : (List Int)) =>
          some v4) fun k1 =>
      loopN (slices_Repeat_int_L1 a0 a1 k1) n (Nat.min (List.take a0.length (List.drop 0 a0)).length ((List.replicate ((IntKind.u64.wrap ((IntKind.u64.wrap ((a0.length : Nat) : Int)) * (IntKind.u64.wrap a1))).toNat) (0 : Int)).length), (cpyP (List.replicate ((IntKind.u64.wrap ((IntKind.u64.wrap ((a0.length : Nat) : Int)) * (IntKind.u64.wrap a1))).toNat) (0 : Int)) 0 (List.take (Nat.min (List.take a0.length (List.drop 0 a0)).length ((List.replicate ((IntKind.u64.wrap ((IntKind.u64.wrap ((a0.length : Nat) : Int)) * (IntKind.u64.wrap a1))).toNat) (0 : Int)).length)) (List.take a0.length (List.drop 0 a0)))))
def diary_schedule_L1 (a0 : List Window) (v8 : Nat) (v9 : List Int) (k2 : (Int → Option (List Int))) (back : Int × Nat → Option (List Int)) : Int × Nat → Option (List Int)
  | (v11, v12) =>
  bif decide (v12 < a0.length) then
    withK (fun (v13 : Int) =>
        chk (nI (v12 + 1)) <|
        back (v13, v12 + 1)) fun k1 =>
    chk (decide (v12 < ((List.replicate ((IntKind.u64.wrap ((IntKind.u64.wrap ((([(-1)] : List Int).length : Nat) : Int)) * (IntKind.u64.wrap ((a0.length : Nat) : Int)))).toNat) (0 : Int)).length))) <|
    chk (decide (v12 < v9.length)) <|
    chk (!((((decide ((ix v9 v12) < (0 : Int))) && (decide (((ix a0 v12).From) ≤ ((v8 : Nat) : Int)))) && (decide (((v8 : Nat) : Int) < ((ix a0 v12).To)))) && !(decide (v11 < (0 : Int)))) || inB v11 a0.length) <|
    chk (!((((decide ((ix v9 v12) < (0 : Int))) && (decide (((ix a0 v12).From) ≤ ((v8 : Nat) : Int)))) && (decide (((v8 : Nat) : Int) < ((ix a0 v12).To)))) && !(decide (v11 < (0 : Int)))) || decide (v11.toNat < a0.length)) <|
    bif (((decide ((ix v9 v12) < (0 : Int))) && (decide (((ix a0 v12).From) ≤ ((v8 : Nat) : Int)))) && (decide (((v8 : Nat) : Int) < ((ix a0 v12).To)))) && ((decide (v11 < (0 : Int))) || (decide (((ix a0 v12).To) < ((ix a0 v11.toNat).To)))) then
      k1 ((v12 : Nat) : Int)
    else
      k1 v11
  else
    k2 v11
def diary_schedule_L2 (n : Nat) (a0 : List Window) (k4 : ((List Int) → Option (List Int))) (back : Nat × (List Int) → Option (List Int)) : Nat × (List Int) → Option (List Int)
  | (v8, v9) =>
  bif decide (v8 < 1000) then
    withK (fun (v15 : (List Int)) =>
        chk (nI (v8 + 1)) <|
        back (v8 + 1, v15)) fun k3 =>
    withK (fun (v14 : Int) =>
        bif decide ((0 : Int) ≤ v14) then
          chk (inB v14 ((List.replicate ((IntKind.u64.wrap ((IntKind.u64.wrap ((([(-1)] : List Int).length : Nat) : Int)) * (IntKind.u64.wrap ((a0.length : Nat) : Int)))).toNat) (0 : Int)).length)) <|
          chk (decide (v14.toNat < v9.length)) <|
          k3 (List.set v9 v14.toNat ((v8 : Nat) : Int))
        else
          k3 v9) fun k2 =>
    loopN (diary_schedule_L1 a0 v8 v9 k2) n ((-1), 0)
  else
    k4 v9
def diary_schedule (n : Nat) (a0 : List Window) : Option (List Int) :=
  (slices_Repeat_int n ([(-1)] : List Int) ((a0.length : Nat) : Int)).bind fun y1 =>
  withK (fun (v16 : (List Int)) =>
      some v16) fun k4 =>
  loopN (diary_schedule_L2 n a0 k4) n (0, y1)
def diary_Most (n : Nat) (a0 : List Window) : Option (Int ⊕ (List Int)) :=
  (diary_CheckWindows n a0).bind fun y1 =>
  bif (y1 != (0 : Int)) then
    some (.inl y1)
  else
    (diary_schedule n a0).bind fun y2 =>
    some (.inr y2)
def agraffebase_Ints_L1 (a0 : List Int) (a1 : List Int) (k1 : (Unit → Option Bool)) (back : Nat → Option Bool) : Nat → Option Bool
  | v1 =>
  bif decide (v1 < a0.length) then
    chk (decide (v1 < a1.length)) <|
    bif ((ix a0 v1) != (ix a1 v1)) then
      some false
    else
      chk (nI (v1 + 1)) <|
      back (v1 + 1)
  else
    k1 ()
def agraffebase_Ints (n : Nat) (a0 : List Int) (a1 : List Int) : Option Bool :=
  bif !decide (a0.length = a1.length) then
    some false
  else
    withK (fun (_ : Unit) =>
        some true) fun k1 =>
    loopN (agraffebase_Ints_L1 a0 a1 k1) n 0
def agraffebase_Ints_2_L1 (a0 : List Int) (a1 : Nat) (a2 : Nat) (a3 : List Int) (k1 : (Unit → Option Bool)) (back : Nat → Option Bool) : Nat → Option Bool
  | v1 =>
  bif decide (v1 < a2) then
    chk (decide (a1 + v1 < a0.length)) <|
    chk (decide (v1 < a3.length)) <|
    bif ((ix a0 (a1 + v1)) != (ix a3 v1)) then
      some false
    else
      chk (nI (v1 + 1)) <|
      back (v1 + 1)
  else
    k1 ()
def agraffebase_Ints_2 (n : Nat) (a0 : List Int) (a1 : Nat) (a2 : Nat) (a3 : List Int) : Option Bool :=
  bif !decide (a2 = a3.length) then
    some false
  else
    withK (fun (_ : Unit) =>
        some true) fun k1 =>
    loopN (agraffebase_Ints_2_L1 a0 a1 a2 a3 k1) n 0
def agraffelaw09_awake (n : Nat)  : Option Bool :=
  (agraffelaw09_Town n).bind fun y1 =>
  (diary_Distances n (Diary.mk ([([115, 104, 111, 112] : Str), ([104, 97, 108, 108] : Str), ([104, 111, 109, 101] : Str)] : List Str) ([([97, 110, 110] : Str), ([98, 111, 98] : Str)] : List Str) ([(Road.mk ([115, 104, 111, 112] : Str) ([104, 97, 108, 108] : Str) 30 200), (Road.mk ([104, 97, 108, 108] : Str) ([104, 111, 109, 101] : Str) 20 100), (Road.mk ([115, 104, 111, 112] : Str) ([104, 111, 109, 101] : Str) 60 150)] : List Road) ([(Grand.mk ([103] : Str) ([115, 104, 111, 112] : Str) 150), (Grand.mk ([117] : Str) ([104, 111, 109, 101] : Str) 100)] : List Grand) 10 300) ([115, 104, 111, 112] : Str) 100).bind fun y2 =>
  (agraffelaw09_Town n).bind fun y3 =>
  (agraffelaw09_Evening n).bind fun y4 =>
  (diary_Accept n (Diary.mk ([([115, 104, 111, 112] : Str), ([104, 97, 108, 108] : Str), ([104, 111, 109, 101] : Str)] : List Str) ([([97, 110, 110] : Str), ([98, 111, 98] : Str)] : List Str) ([(Road.mk ([115, 104, 111, 112] : Str) ([104, 97, 108, 108] : Str) 30 200), (Road.mk ([104, 97, 108, 108] : Str) ([104, 111, 109, 101] : Str) 20 100), (Road.mk ([115, 104, 111, 112] : Str) ([104, 111, 109, 101] : Str) 60 150)] : List Road) ([(Grand.mk ([103] : Str) ([115, 104, 111, 112] : Str) 150), (Grand.mk ([117] : Str) ([104, 111, 109, 101] : Str) 100)] : List Grand) 10 300) ([(Item.mk 1 0 40 ([103] : Str) ([104, 97, 108, 108] : Str) ([] : Str) 0), (Item.mk 0 50 110 ([103] : Str) ([104, 97, 108, 108] : Str) ([97, 110, 110] : Str) 0), (Item.mk 2 200 300 ([103] : Str) ([104, 97, 108, 108] : Str) ([] : Str) 0)] : List Item)).bind fun y5 =>
  (agraffelaw09_Town n).bind fun y6 =>
  (agraffelaw09_Evening n).bind fun y7 =>
  (diary_FreeFrom n (Diary.mk ([([115, 104, 111, 112] : Str), ([104, 97, 108, 108] : Str), ([104, 111, 109, 101] : Str)] : List Str) ([([97, 110, 110] : Str), ([98, 111, 98] : Str)] : List Str) ([(Road.mk ([115, 104, 111, 112] : Str) ([104, 97, 108, 108] : Str) 30 200), (Road.mk ([104, 97, 108, 108] : Str) ([104, 111, 109, 101] : Str) 20 100), (Road.mk ([115, 104, 111, 112] : Str) ([104, 111, 109, 101] : Str) 60 150)] : List Road) ([(Grand.mk ([103] : Str) ([115, 104, 111, 112] : Str) 150), (Grand.mk ([117] : Str) ([104, 111, 109, 101] : Str) 100)] : List Grand) 10 300) ([(Item.mk 1 0 40 ([103] : Str) ([104, 97, 108, 108] : Str) ([] : Str) 0), (Item.mk 0 50 110 ([103] : Str) ([104, 97, 108, 108] : Str) ([97, 110, 110] : Str) 0), (Item.mk 2 200 300 ([103] : Str) ([104, 97, 108, 108] : Str) ([] : Str) 0)] : List Item) (Item.mk 0 120 180 ([117] : Str) ([104, 111, 109, 101] : Str) ([97, 110, 110] : Str) 0)).bind fun y8 =>
  withK (fun (v12 : Int) =>
      withK (fun (v16 : Bool) =>
          some v16) fun k2 =>
      bif (y2.1 == (0 : Int)) then
        (agraffebase_Ints n y2.2 ([0, 30, 50] : List Int)).bind fun y13 =>
        bif ((((((y2.1 == (0 : Int)) && y13) && (y5.1 == (0 : Int))) && (y5.2 == ((-1) : Int))) && (y8.1 == (0 : Int))) && (y8.2 == (130 : Int))) && (v12 == (0 : Int)) then
          (agraffebase_Ints n ([] : List Int) ([0, 1, 2, (-1)] : List Int)).bind fun y14 =>
          k2 ((((((((y2.1 == (0 : Int)) && y13) && (y5.1 == (0 : Int))) && (y5.2 == ((-1) : Int))) && (y8.1 == (0 : Int))) && (y8.2 == (130 : Int))) && (v12 == (0 : Int))) && y14)
        else
          k2 ((((((((y2.1 == (0 : Int)) && y13) && (y5.1 == (0 : Int))) && (y5.2 == ((-1) : Int))) && (y8.1 == (0 : Int))) && (y8.2 == (130 : Int))) && (v12 == (0 : Int))) && false)
      else
        bif ((((((y2.1 == (0 : Int)) && false) && (y5.1 == (0 : Int))) && (y5.2 == ((-1) : Int))) && (y8.1 == (0 : Int))) && (y8.2 == (130 : Int))) && (v12 == (0 : Int)) then
          (agraffebase_Ints n ([] : List Int) ([0, 1, 2, (-1)] : List Int)).bind fun y15 =>
          k2 ((((((((y2.1 == (0 : Int)) && false) && (y5.1 == (0 : Int))) && (y5.2 == ((-1) : Int))) && (y8.1 == (0 : Int))) && (y8.2 == (130 : Int))) && (v12 == (0 : Int))) && y15)
        else
          k2 ((((((((y2.1 == (0 : Int)) && false) && (y5.1 == (0 : Int))) && (y5.2 == ((-1) : Int))) && (y8.1 == (0 : Int))) && (y8.2 == (130 : Int))) && (v12 == (0 : Int))) && false)) fun k1 =>
  withK (fun (v17 : (List Int)) =>
      withK (fun (v21 : Bool) =>
          some v21) fun k4 =>
      bif (y2.1 == (0 : Int)) then
        (agraffebase_Ints n y2.2 ([0, 30, 50] : List Int)).bind fun y18 =>
        bif ((((((y2.1 == (0 : Int)) && y18) && (y5.1 == (0 : Int))) && (y5.2 == ((-1) : Int))) && (y8.1 == (0 : Int))) && (y8.2 == (130 : Int))) && true then
          (agraffebase_Ints_2 n v17 0 ((List.replicate ((IntKind.u64.wrap ((IntKind.u64.wrap ((([(-1)] : List Int).length : Nat) : Int)) * (IntKind.u64.wrap ((([(Window.mk 0 2), (Window.mk 0 2), (Window.mk 1 3), (Window.mk 2 3)] : List Window).length : Nat) : Int)))).toNat) (0 : Int)).length) ([0, 1, 2, (-1)] : List Int)).bind fun y19 =>
          k4 ((((((((y2.1 == (0 : Int)) && y18) && (y5.1 == (0 : Int))) && (y5.2 == ((-1) : Int))) && (y8.1 == (0 : Int))) && (y8.2 == (130 : Int))) && true) && y19)
        else
          k4 ((((((((y2.1 == (0 : Int)) && y18) && (y5.1 == (0 : Int))) && (y5.2 == ((-1) : Int))) && (y8.1 == (0 : Int))) && (y8.2 == (130 : Int))) && true) && false)
      else
        bif ((((((y2.1 == (0 : Int)) && false) && (y5.1 == (0 : Int))) && (y5.2 == ((-1) : Int))) && (y8.1 == (0 : Int))) && (y8.2 == (130 : Int))) && true then
          (agraffebase_Ints_2 n v17 0 ((List.replicate ((IntKind.u64.wrap ((IntKind.u64.wrap ((([(-1)] : List Int).length : Nat) : Int)) * (IntKind.u64.wrap ((([(Window.mk 0 2), (Window.mk 0 2), (Window.mk 1 3), (Window.mk 2 3)] : List Window).length : Nat) : Int)))).toNat) (0 : Int)).length) ([0, 1, 2, (-1)] : List Int)).bind fun y20 =>
          k4 ((((((((y2.1 == (0 : Int)) && false) && (y5.1 == (0 : Int))) && (y5.2 == ((-1) : Int))) && (y8.1 == (0 : Int))) && (y8.2 == (130 : Int))) && true) && y20)
        else
          k4 ((((((((y2.1 == (0 : Int)) && false) && (y5.1 == (0 : Int))) && (y5.2 == ((-1) : Int))) && (y8.1 == (0 : Int))) && (y8.2 == (130 : Int))) && true) && false)) fun k3 =>
  (diary_Most n ([(Window.mk 0 2), (Window.mk 0 2), (Window.mk 1 3), (Window.mk 2 3)] : List Window)).bind fun y9 =>
  match y9 with
  | .inl y9 =>
    k1 y9
  | .inr y9 =>
    k3 y9
def agraffebase_Within (n : Nat) (a0 : Int) (a1 : Int) (a2 : Int) : Option Unit :=
  some ()
def agraffelaw09_some (n : Nat) (a0 : List Window) : Option Unit :=
  some ()
def agraffelaw09_windows (n : Nat) (a0 : List Window) : Option Unit :=
  chk (room 16 a0.length) <|
  some ()
def diary_crowded_L1 (a0 : List Window) (a1 : Int) (a2 : Int) (k2 : (Nat → Option Bool)) (back : Nat × Nat → Option Bool) : Nat × Nat → Option Bool
  | (v2, v3) =>
  bif decide (v3 < a0.length) then
    withK (fun (v4 : Nat) =>
        chk (nI (v3 + 1)) <|
        back (v4, v3 + 1)) fun k1 =>
    bif (decide (a1 ≤ ((ix a0 v3).From))) && (decide (((ix a0 v3).To) ≤ a2)) then
      chk (nI (v2 + 1)) <|
      k1 (v2 + 1)
    else
      k1 v2
  else
    k2 v2
def diary_crowded (n : Nat) (a0 : List Window) (a1 : Int) (a2 : Int) : Option Bool :=
  withK (fun (v5 : Nat) =>
      chk (inI (a2 - a1)) <|
      some (decide ((a2 - a1) < ((v5 : Nat) : Int)))) fun k2 =>
  loopN (diary_crowded_L1 a0 a1 a2 k2) n (0, 0)
def agrafferef09_CheckWindows_L1 (n : Nat) (a0 : List Window) (k1 : (Unit → Option Int)) (back : Nat → Option Int) : Nat → Option Int
  | v3 =>
  bif decide (v3 < a0.length) then
    (agraffebase_Within n ((ix a0 v3).From) 0 1000).bind fun y4 =>
    (gcall (!(!((decide (0 ≤ ((ix a0 v3).From))) && (decide (((ix a0 v3).From) ≤ 1000))))) (agraffebase_Within n ((ix a0 v3).To) 0 1000)).bind fun y5 =>
    bif (!((decide (0 ≤ ((ix a0 v3).From))) && (decide (((ix a0 v3).From) ≤ 1000)))) || (!((decide (0 ≤ ((ix a0 v3).To))) && (decide (((ix a0 v3).To) ≤ 1000)))) then
      some 2
    else
      bif decide (((ix a0 v3).To) ≤ ((ix a0 v3).From)) then
        some 9
      else
        chk (nI (v3 + 1)) <|
        back (v3 + 1)
  else
    k1 ()
def agrafferef09_CheckWindows (n : Nat) (a0 : List Window) : Option Int :=
  bif decide (60 < a0.length) then
    some 8
  else
    withK (fun (_ : Unit) =>
        some 0) fun k1 =>
    loopN (agrafferef09_CheckWindows_L1 n a0 k1) n 0
def agraffebase_Has_L1 (a0 : List Int) (a1 : Int) (k1 : (Unit → Option Bool)) (back : Nat → Option Bool) : Nat → Option Bool
  | v1 =>
  bif decide (v1 < a0.length) then
    bif ((ix a0 v1) == a1) then
      some true
    else
      chk (nI (v1 + 1)) <|
      back (v1 + 1)
  else
    k1 ()
def agraffebase_Has (n : Nat) (a0 : List Int) (a1 : Int) : Option Bool :=
  withK (fun (_ : Unit) =>
      some false) fun k1 =>
  loopN (agraffebase_Has_L1 a0 a1 k1) n 0
def agrafferef09_IsCrowd_L1 (a0 : List Window) (a1 : Int) (a2 : Int) (k2 : (Nat → Option Bool)) (back : Nat × Nat → Option Bool) : Nat × Nat → Option Bool
  | (v2, v3) =>
  bif decide (v3 < a0.length) then
    withK (fun (v4 : Nat) =>
        chk (nI (v3 + 1)) <|
        back (v4, v3 + 1)) fun k1 =>
    bif (decide (a1 ≤ ((ix a0 v3).From))) && (decide (((ix a0 v3).To) ≤ a2)) then
      chk (nI (v2 + 1)) <|
      k1 (v2 + 1)
    else
      k1 v2
  else
    k2 v2
def agrafferef09_IsCrowd (n : Nat) (a0 : List Window) (a1 : Int) (a2 : Int) : Option Bool :=
  withK (fun (v5 : Nat) =>
      chk (inI (a2 - a1)) <|
      some (decide ((a2 - a1) < ((v5 : Nat) : Int)))) fun k2 =>
  loopN (agrafferef09_IsCrowd_L1 a0 a1 a2 k2) n (0, 0)
def agraffebase_CopyInts (n : Nat) (a0 : List Int) : Option Unit :=
  chk (room 8 a0.length) <|
  some ()
def diary_CheckSlots_L1 (a0 : List Window) (a1 : List Int) (k2 : ((List (Int × Bool)) → Option (Int × Int))) (back : Nat × (List (Int × Bool)) → Option (Int × Int)) : Nat × (List (Int × Bool)) → Option (Int × Int)
  | (v3, v4) =>
  bif decide (v3 < a1.length) then
    withK (fun (v5 : (List (Int × Bool))) =>
        chk (nI (v3 + 1)) <|
        back (v3 + 1, v5)) fun k1 =>
    bif ((ix a1 v3) == ((-1) : Int)) then
      k1 v4
    else
      chk (decide (v3 < a0.length)) <|
      bif (decide ((ix a1 v3) < ((ix a0 v3).From))) || (decide (((ix a0 v3).To) ≤ (ix a1 v3))) then
        some (2, 0)
      else
        bif (Option.getD (List.lookup (ix a1 v3) v4) false) then
          some (5, 0)
        else
          k1 (mPut (ix a1 v3) true v4)
  else
    k2 v4
def diary_CheckSlots (n : Nat) (a0 : List Window) (a1 : List Int) : Option (Int × Int) :=
  (diary_CheckWindows n a0).bind fun y1 =>
  bif (y1 != (0 : Int)) then
    some (y1, 0)
  else
    bif !decide (a1.length = a0.length) then
      some (10, 0)
    else
      withK (fun (v6 : (List (Int × Bool))) =>
          some (0, ((v6.length : Nat) : Int))) fun k2 =>
      loopN (diary_CheckSlots_L1 a0 a1 k2) n (0, ([] : List (Int × Bool)))
def agraffelaw09_windows_2 (n : Nat) (a0 : List Window) : Option Unit :=
  chk (room 16 a0.length) <|
  some ()
def diary_CheckCrowd (n : Nat) (a0 : List Window) (a1 : Arr2_Int) : Option Int :=
  (diary_CheckWindows n a0).bind fun y1 =>
  bif (y1 != (0 : Int)) then
    some y1
  else
    (diary_within n a1.a0 0 1000).bind fun y2 =>
    (gcall (!(!((decide (0 ≤ a1.a0)) && (decide (a1.a0 ≤ 1000))))) (diary_within n a1.a1 0 1000)).bind fun y3 =>
    bif (!((decide (0 ≤ a1.a0)) && (decide (a1.a0 ≤ 1000)))) || (!((decide (0 ≤ a1.a1)) && (decide (a1.a1 ≤ 1000)))) then
      some 2
    else
      bif decide (a1.a1 ≤ a1.a0) then
        some 9
      else
        (diary_crowded n a0 a1.a0 a1.a1).bind fun y4 =>
        bif !y4 then
          some 22
        else
          some 0
def agrafferef09_CheckSlots_L1 (n : Nat) (a0 : List Window) (a1 : List Int) (k2 : (Nat → Option (Int × Int))) (back : Nat × Nat → Option (Int × Int)) : Nat × Nat → Option (Int × Int)
  | (v4, v5) =>
  bif decide (v5 < a0.length) then
    withK (fun (v8 : Nat) =>
        chk (nI (v5 + 1)) <|
        back (v8, v5 + 1)) fun k1 =>
    chk (decide (v5 < a1.length)) <|
    bif ((ix a1 v5) == ((-1) : Int)) then
      k1 v4
    else
      chk (inI (((ix a0 v5).To) - 1)) <|
      (agraffebase_Within n (ix a1 v5) ((ix a0 v5).From) (((ix a0 v5).To) - 1)).bind fun y6 =>
      bif !((decide (((ix a0 v5).From) ≤ (ix a1 v5))) && (decide ((ix a1 v5) ≤ (((ix a0 v5).To) - 1)))) then
        some (2, 0)
      else
        chk (decide (v5 ≤ a1.length)) <|
        (agraffebase_Has n (List.take v5 a1) (ix a1 v5)).bind fun y7 =>
        bif y7 then
          some (5, 0)
        else
          chk (nI (v4 + 1)) <|
          k1 (v4 + 1)
  else
    k2 v4
def agrafferef09_CheckSlots (n : Nat) (a0 : List Window) (a1 : List Int) : Option (Int × Int) :=
  bif !decide (a1.length = a0.length) then
    some (10, 0)
  else
    withK (fun (v9 : Nat) =>
        some (0, ((v9 : Nat) : Int))) fun k2 =>
    loopN (agrafferef09_CheckSlots_L1 n a0 a1 k2) n (0, 0)
def agraffelaw09_DiarySlots (n : Nat) (a0 : List Window) (a1 : List Int) (a2 : Arr2_Int) : Option Bool :=
  (agraffelaw09_awake n).bind fun y1 =>
  bif !y1 then
    some false
  else
    (agraffelaw09_some n a0).bind fun y2 =>
    bif (!((decide (a0.length ≤ 10)) || ((decide (60 < a0.length)) && (decide (a0.length ≤ 63))))) || (decide (20 < a1.length)) then
      some true
    else
      (agraffelaw09_windows n a0).bind fun y3 =>
      (agraffebase_CopyInts n a1).bind fun y4 =>
      (diary_CheckSlots n a0 a1).bind fun y5 =>
      (agraffelaw09_windows_2 n a0).bind fun y6 =>
      (diary_CheckCrowd n a0 a2).bind fun y7 =>
      (agrafferef09_CheckWindows n a0).bind fun y8 =>
      bif (y8 != (0 : Int)) then
        some (((y5.1 == y8) && (y7 == y8)) && (y5.2 == (0 : Int)))
      else
        (agrafferef09_CheckSlots n a0 a1).bind fun y9 =>
        bif (y5.1 != y9.1) || (y5.2 != y9.2) then
          some false
        else
          (agraffebase_Within n a2.a0 0 1000).bind fun y10 =>
          (gcall (!(!((decide (0 ≤ a2.a0)) && (decide (a2.a0 ≤ 1000))))) (agraffebase_Within n a2.a1 0 1000)).bind fun y11 =>
          bif (!((decide (0 ≤ a2.a0)) && (decide (a2.a0 ≤ 1000)))) || (!((decide (0 ≤ a2.a1)) && (decide (a2.a1 ≤ 1000)))) then
            some (y7 == (2 : Int))
          else
            bif decide (a2.a1 ≤ a2.a0) then
              some (y7 == (9 : Int))
            else
              (agrafferef09_IsCrowd n a0 a2.a0 a2.a1).bind fun y12 =>
              bif !y12 then
                some (y7 == (22 : Int))
              else
                some (y7 == (0 : Int))
end
section
set_option maxRecDepth 4000
open Go
theorem loopN_s {α β : Type} (F : (α → Option β) → α → Option β) (n : Nat) (t : α) : loopN F (n + 1) t = F (loopN F n) t := rfl
@[simp] theorem chk_t {α : Type} (k : Option α) : chk true k = k := rfl
@[simp] theorem withK_eq {α β : Type} (j : α → Option β) (f : (α → Option β) → Option β) : withK j f = f j := rfl
@[simp] theorem gcall_some_ {α : Type} [Inhabited α] (g : Bool) (x : α) : (gcall g (some x)) = some (bif g then x else default) := by cases g <;> rfl
theorem nI_of {n : Nat} (h : n ≤ 9223372036854775807) : nI n = true := by simp [nI, h]
theorem inI_of {n : Int} (h : -9223372036854775808 ≤ n) (h2 : n ≤ 9223372036854775807) : inI n = true := by simp [inI, h, h2]
theorem room_of {b n : Nat} (h : n * b ≤ 140737488355328) (h2 : n ≤ 9223372036854775807) : room b n = true := by simp [room, h, h2]
theorem drop_ix {α : Type} [Inhabited α] {l : List α} {v : Nat} (h : v < l.length) : l.drop v = ix l v :: l.drop (v + 1) := by
  rw [ix_eq h]; exact List.drop_eq_getElem_cons h
theorem drop_nil {α : Type} {l : List α} {v : Nat} (h : ¬ v < l.length) : l.drop v = [] := List.drop_eq_nil_of_le (by omega)
end
section
set_option maxRecDepth 4000
open Go
theorem bne_t {x : Int} (h : ¬ x = 0) : (x != 0) = true := by simp [bne, h]
def firstE (E : Nat → Int) : Nat → Nat → Int
  | _, 0 => 0
  | v, m + 1 => bif E v != 0 then E v else firstE E (v + 1) m
theorem firstE_zero {E : Nat → Int} : ∀ {m v : Nat}, firstE E v m = 0 → ∀ j, v ≤ j → j < v + m → E j = 0
  | 0, v, _, j, h1, h2 => by omega
  | m + 1, v, h, j, h1, h2 => by
    unfold firstE at h
    by_cases e : E v = 0
    · simp [e] at h
      by_cases hj : j = v
      · rw [hj]; exact e
      · exact firstE_zero h j (by omega) (by omega)
    · rw [bne_t e, cond_true] at h; exact absurd h e
theorem loop_first {σ R : Type} {F : (σ → Option R) → σ → Option R} {st : Nat → σ} {E : Nat → Int} {err : Int → Option R} {k : Option R} {len : Nat}
    (h1 : ∀ back v, v < len → (∀ j, j < v → E j = 0) → F back (st v) = bif E v != 0 then err (E v) else back (st (v + 1)))
    (h2 : ∀ back, (∀ j, j < len → E j = 0) → F back (st len) = k) : ∀ n v, len - v < n → v ≤ len → (∀ j, j < v → E j = 0) → loopN F n (st v) = bif firstE E v (len - v) != 0 then err (firstE E v (len - v)) else k := by
  intro n
  induction n with
  | zero => intro v h; omega
  | succ n ih =>
    intro v hn hv hz
    rw [loopN_s]
    by_cases h : v < len
    · rw [h1 _ v h hz, show len - v = (len - (v + 1)) + 1 by omega]
      unfold firstE
      by_cases e : E v = 0
      · simp only [e, bne_self_eq_false, cond_false]
        exact ih (v + 1) (by omega) (by omega) fun j hj => by
          by_cases hjv : j = v
          · rw [hjv]; exact e
          · exact hz j (by omega)
      · rw [bne_t e, cond_true, cond_true, bne_t e, cond_true]
    · have : v = len := by omega
      subst this
      rw [h2 _ hz, Nat.sub_self]
      simp [firstE]
theorem loop_through {σ R : Type} {F : (σ → Option R) → σ → Option R} {st : Nat → σ} {k : Option R} {len : Nat} (h1 : ∀ back v, v < len → F back (st v) = back (st (v + 1))) (h2 : ∀ back, F back (st len) = k) : ∀ n, len < n → loopN F n (st 0) = k := by
  intro n hn
  have := loop_first (F := F) (st := st) (E := fun _ => 0) (err := fun _ => none) (k := k) (len := len) (fun back v hv _ => by simp [h1 back v hv]) (fun back _ => h2 back) n 0 (by omega) (by omega) (fun _ _ => rfl)
  rw [this, Nat.sub_zero]
  have : firstE (fun _ => (0 : Int)) 0 len = 0 := by
    have : ∀ m v, firstE (fun _ => (0 : Int)) v m = 0 := by
      intro m
      induction m with
      | zero => intro v; rfl
      | succ m ih => intro v; simp [firstE, ih]
    exact this _ _
  rw [this]; rfl
end
section
set_option maxRecDepth 4000
open Go
theorem loop_find' {α R : Type} [Inhabited α] {l : List α} {p : α → Bool} {F : (Nat → Option R) → Nat → Option R} {yes : Nat → Option R} {no : Option R}
    (h1 : ∀ back v, v < l.length → F back v = bif p (ix l v) then yes v else back (v + 1)) (h2 : ∀ back, F back l.length = no) :
    ∀ n v, v ≤ l.length → l.length - v < n → loopN F n v = match (l.drop v).findIdx? p with | some i => yes (v + i) | none => no := by
  intro n
  induction n with
  | zero => intro v _ h; omega
  | succ n ih =>
    intro v hv hn
    rw [loopN_s]
    by_cases h : v < l.length
    · rw [h1 _ v h, drop_ix h, List.findIdx?_cons]
      cases hp : p (ix l v) with
      | true => simp
      | false =>
        simp only [cond_false, Bool.false_eq_true, if_false]
        rw [ih (v + 1) (by omega) (by omega)]
        cases hh : (l.drop (v + 1)).findIdx? p with
        | none => simp
        | some i => simp [Nat.add_assoc, Nat.add_comm 1 i]
    · have : v = l.length := by omega
      subst this
      rw [h2, drop_nil h]
      simp
theorem any_findIdx {α : Type} (p : α → Bool) (l : List α) : (l.findIdx? p).isSome = l.any p := by
  induction l with
  | nil => rfl
  | cons x l ih =>
    rw [List.findIdx?_cons, List.any_cons]
    cases p x <;> simp [ih]
theorem loop_any' {α R : Type} [Inhabited α] {l : List α} {p : α → Bool} {F : (Nat → Option R) → Nat → Option R} {bad no : Option R}
    (h1 : ∀ back v, v < l.length → F back v = bif p (ix l v) then bad else back (v + 1)) (h2 : ∀ back, F back l.length = no) (n : Nat) (hn : l.length < n) : loopN F n 0 = bif l.any p then bad else no := by
  rw [loop_find' (yes := fun _ => bad) h1 h2 n 0 (by omega) (by omega), List.drop_zero, ← any_findIdx]
  cases l.findIdx? p <;> rfl
theorem loop_fold {σ R : Type} {F : (σ × Nat → Option R) → σ × Nat → Option R} {st : Nat → σ} {k : Option R} {len : Nat} (h1 : ∀ back v, v < len → F back (st v, v) = back (st (v + 1), v + 1)) (h2 : ∀ back, F back (st len, len) = k) (n : Nat) (hn : len < n) {s0 : σ} (h0 : st 0 = s0) : loopN F n (s0, 0) = k := by
  subst h0
  exact loop_through (st := fun v => (st v, v)) h1 h2 n hn
end
section
set_option maxRecDepth 4000
open Go
variable {n : Nat}
def isS (s : Str) (x : Str) : Bool := x == s
theorem loop_errs {F : (Nat → Option Int) → Nat → Option Int} {E : Nat → Int} {k : Int} {len : Nat}
    (h1 : ∀ back v, v < len → F back v = bif E v != 0 then some (E v) else back (v + 1)) (h2 : ∀ back, F back len = some k) (hn : len < n) :
    loopN F n 0 = some (bif firstE E 0 len != 0 then firstE E 0 len else k) := by
  rw [loop_first (st := fun v => v) (E := E) (err := some) (k := some k) (len := len) (fun back v hv _ => h1 back v hv) (fun back _ => h2 back) n 0 (by omega) (by omega) (fun j h => by omega), Nat.sub_zero]
  cases firstE E 0 len != 0 <;> rfl
theorem bif_int {x : Int} : (bif x != 0 then x else 0) = x := by
  by_cases h : x = 0
  · simp [h]
  · rw [bne_t h]; rfl
end
section
set_option maxRecDepth 4000
open Go
variable {n : Nat}
def isBet (a b w : Int) : Bool := (decide (a ≤ w)) && (decide (w ≤ b))
end
section
set_option maxRecDepth 4000
open Go
set_option maxRecDepth 100000 in
theorem awake_ok (m : Nat) : agraffelaw09_awake (m + 2000) = some true := by kernel_rfl
end
section
set_option maxRecDepth 4000
open Go
theorem lookup_mPut {α β : Type} [BEq α] [LawfulBEq α] (x : α) (v : β) (y : α) : ∀ m : List (α × β), List.lookup y (mPut x v m) = bif y == x then some v else List.lookup y m := by
  intro m
  induction m with
  | nil =>
    simp only [mPut, List.lookup]
    cases y == x <;> rfl
  | cons p m ih =>
    obtain ⟨k, u⟩ := p
    simp only [mPut]
    by_cases h : x = k
    · subst h
      simp only [beq_self_eq_true, List.lookup]
      cases y == x <;> rfl
    · have e : (x == k) = false := by simpa using h
      rw [e]
      simp only [List.lookup]
      cases hy : y == k
      · exact ih
      · have : y = k := eq_of_beq hy
        have : (y == x) = false := by rw [this]; simpa using Ne.symm h
        rw [this]; rfl
theorem length_mPut {α β : Type} [BEq α] [LawfulBEq α] (x : α) (v : β) : ∀ m : List (α × β), List.lookup x m = none → (mPut x v m).length = m.length + 1 := by
  intro m
  induction m with
  | nil => intro _; rfl
  | cons p m ih =>
    obtain ⟨k, u⟩ := p
    intro h
    simp only [List.lookup] at h
    simp only [mPut]
    cases e : x == k with
    | true => rw [e] at h; cases h
    | false => rw [e] at h; simp [ih h]
theorem take_snoc {α : Type} [Inhabited α] {l : List α} {v : Nat} (h : v < l.length) : l.take (v + 1) = l.take v ++ [ix l v] := by
  rw [List.take_succ_eq_append_getElem h, ix_eq h]
end
section
set_option maxRecDepth 4000
open Go
variable {n : Nat}
def winE (l : List Window) (v : Nat) : Int :=
  bif (!isBet 0 1000 (ix l v).From) || (!isBet 0 1000 (ix l v).To) then 2 else bif decide ((ix l v).To ≤ (ix l v).From) then 9 else 0
def winD (l : List Window) : Int := bif decide (60 < l.length) then 8 else firstE (winE l) 0 l.length
theorem CheckWindows_eq (l : List Window) (hn : 1000 < n) (hl : l.length ≤ 900) : diary_CheckWindows n l = some (winD l) := by
  rw [diary_CheckWindows, winD]
  cases decide (60 < l.length) with
  | true => rfl
  | false =>
    simp only [cond_false, withK_eq]
    rw [loop_errs (E := winE l) (k := 0) (fun back v hv => ?_) (fun back => ?_) (by omega : l.length < n), bif_int]
    · rw [diary_CheckWindows_L1]
      simp only [hv, decide_true, cond_true, diary_within, gcall_some_, Option.bind_some, nI_of (by omega : v + 1 ≤ 9223372036854775807), chk_t, winE, isBet]
      cases decide (0 ≤ (ix l v).From) && decide ((ix l v).From ≤ 1000) <;> cases decide (0 ≤ (ix l v).To) && decide ((ix l v).To ≤ 1000) <;> cases decide ((ix l v).To ≤ (ix l v).From) <;> rfl
    · rw [diary_CheckWindows_L1]; simp
theorem CheckWindows_ref (l : List Window) (hn : 1000 < n) (hl : l.length ≤ 900) : agrafferef09_CheckWindows n l = some (winD l) := by
  rw [agrafferef09_CheckWindows, winD]
  cases decide (60 < l.length) with
  | true => rfl
  | false =>
    simp only [cond_false, withK_eq]
    rw [loop_errs (E := winE l) (k := 0) (fun back v hv => ?_) (fun back => ?_) (by omega : l.length < n), bif_int]
    · rw [agrafferef09_CheckWindows_L1]
      simp only [hv, decide_true, cond_true, agraffebase_Within, gcall_some_, Option.bind_some, nI_of (by omega : v + 1 ≤ 9223372036854775807), chk_t, winE, isBet]
      cases decide (0 ≤ (ix l v).From) && decide ((ix l v).From ≤ 1000) <;> cases decide (0 ≤ (ix l v).To) && decide ((ix l v).To ≤ 1000) <;> cases decide ((ix l v).To ≤ (ix l v).From) <;> rfl
    · rw [agrafferef09_CheckWindows_L1]; simp
structure OkW (l : List Window) : Prop where
  len : l.length ≤ 60
  lo : ∀ x ∈ l, 0 ≤ x.From
  hi : ∀ x ∈ l, x.To ≤ 1000
  lt : ∀ x ∈ l, x.From < x.To
theorem winD_zero {l : List Window} (h : winD l = 0) : OkW l := by
  rw [winD] at h
  cases hm : decide (60 < l.length) with
  | true => rw [hm] at h; simp at h
  | false =>
    rw [hm, cond_false] at h
    have hz : ∀ x ∈ l, isBet 0 1000 x.From = true ∧ isBet 0 1000 x.To = true ∧ x.From < x.To := fun x hx => by
      obtain ⟨i, hi, rfl⟩ := List.mem_iff_getElem.1 hx
      have := firstE_zero h i (by omega) (by omega)
      rw [winE, ix_eq hi] at this
      cases h1 : isBet 0 1000 l[i].From with
      | false => rw [h1] at this; simp at this
      | true =>
        cases h2 : isBet 0 1000 l[i].To with
        | false => rw [h1, h2] at this; simp at this
        | true =>
          refine ⟨rfl, rfl, ?_⟩
          by_cases h3 : l[i].To ≤ l[i].From
          · rw [h1, h2, decide_eq_true h3] at this; simp at this
          · omega
    exact ⟨by simp at hm; omega, fun x hx => by have := (hz x hx).1; simp [isBet] at this; omega, fun x hx => by have := (hz x hx).2.1; simp [isBet] at this; omega, fun x hx => (hz x hx).2.2⟩
def inW (a b : Int) (x : Window) : Bool := (decide (a ≤ x.From)) && (decide (x.To ≤ b))
def crowdB (l : List Window) (a b : Int) : Bool := decide (b - a < ((l.countP (inW a b) : Nat) : Int))
theorem countP_take (l : List Window) (a b : Int) {v : Nat} (h : v < l.length) : (l.take (v + 1)).countP (inW a b) = bif inW a b (ix l v) then (l.take v).countP (inW a b) + 1 else (l.take v).countP (inW a b) := by
  rw [take_snoc h, List.countP_append, List.countP_singleton]
  cases inW a b (ix l v) <;> rfl
theorem countP_takeLe (l : List Window) (a b : Int) (v : Nat) : (l.take v).countP (inW a b) ≤ v := Nat.le_trans List.countP_le_length (by simp; omega)
theorem crowded_eq (l : List Window) (a b : Int) (hn : 1000 < n) (hl : l.length ≤ 900) (ha : 0 ≤ a) (ha2 : a ≤ 10000) (hb : 0 ≤ b) (hb2 : b ≤ 10000) : diary_crowded n l a b = some (crowdB l a b) := by
  rw [diary_crowded, withK_eq]
  refine loop_fold (st := fun v => (l.take v).countP (inW a b)) (len := l.length) (fun back v hv => ?_) (fun back => ?_) n (by omega) (by simp)
  · have h1 := countP_takeLe l a b v
    rw [diary_crowded_L1]
    simp only [hv, decide_true, cond_true, withK_eq, nI_of (by omega : v + 1 ≤ 9223372036854775807), nI_of (by omega : (l.take v).countP (inW a b) + 1 ≤ 9223372036854775807), chk_t, countP_take l a b hv]
    show (bif inW a b (ix l v) then _ else _) = _
    cases inW a b (ix l v) <;> rfl
  · rw [diary_crowded_L1]
    simp only [Nat.lt_irrefl, decide_false, cond_false, List.take_length, inI_of (by omega : -9223372036854775808 ≤ b - a) (by omega), chk_t, crowdB]
theorem IsCrowd_ref (l : List Window) (a b : Int) (hn : 1000 < n) (hl : l.length ≤ 900) (ha : 0 ≤ a) (ha2 : a ≤ 10000) (hb : 0 ≤ b) (hb2 : b ≤ 10000) : agrafferef09_IsCrowd n l a b = some (crowdB l a b) := by
  rw [agrafferef09_IsCrowd, withK_eq]
  refine loop_fold (st := fun v => (l.take v).countP (inW a b)) (len := l.length) (fun back v hv => ?_) (fun back => ?_) n (by omega) (by simp)
  · have h1 := countP_takeLe l a b v
    rw [agrafferef09_IsCrowd_L1]
    simp only [hv, decide_true, cond_true, withK_eq, nI_of (by omega : v + 1 ≤ 9223372036854775807), nI_of (by omega : (l.take v).countP (inW a b) + 1 ≤ 9223372036854775807), chk_t, countP_take l a b hv]
    show (bif inW a b (ix l v) then _ else _) = _
    cases inW a b (ix l v) <;> rfl
  · rw [agrafferef09_IsCrowd_L1]
    simp only [Nat.lt_irrefl, decide_false, cond_false, List.take_length, inI_of (by omega : -9223372036854775808 ≤ b - a) (by omega), chk_t, crowdB]
def crowdD (l : List Window) (a b : Int) : Int :=
  bif (!isBet 0 1000 a) || (!isBet 0 1000 b) then 2 else bif decide (b ≤ a) then 9 else bif !crowdB l a b then 22 else 0
theorem CheckCrowd_eq (l : List Window) (p : Arr2_Int) (hn : 1000 < n) (hl : l.length ≤ 900) : diary_CheckCrowd n l p = some (bif winD l != 0 then winD l else crowdD l p.a0 p.a1) := by
  rw [diary_CheckCrowd, CheckWindows_eq l hn hl]
  simp only [Option.bind_some, diary_within, gcall_some_]
  cases winD l != 0 with
  | true => rfl
  | false =>
    simp only [cond_false, crowdD]
    show (bif (!isBet 0 1000 p.a0) || (!isBet 0 1000 p.a1) then _ else _) = _
    cases h : (!isBet 0 1000 p.a0) || (!isBet 0 1000 p.a1) with
    | true => rfl
    | false =>
      have h2 : (0 ≤ p.a0 ∧ p.a0 ≤ 1000) ∧ 0 ≤ p.a1 ∧ p.a1 ≤ 1000 := by simpa [isBet] using h
      simp only [cond_false]
      cases decide (p.a1 ≤ p.a0) with
      | true => rfl
      | false =>
        rw [cond_false, crowded_eq l p.a0 p.a1 hn hl (by omega) (by omega) (by omega) (by omega)]
        simp only [Option.bind_some, cond_false]
        cases crowdB l p.a0 p.a1 <;> rfl
def isI (s : Int) (x : Int) : Bool := x == s
theorem Has_eq (l : List Int) (s : Int) (hn : l.length < n) (hl : l.length < 9223372036854775807) : agraffebase_Has n l s = some (l.any (isI s)) := by
  rw [agraffebase_Has, withK_eq, loop_any' (p := isI s) (fun back v hv => ?_) (fun back => ?_) n hn]
  · cases l.any (isI s) <;> rfl
  · rw [agraffebase_Has_L1]; simp only [hv, decide_true, cond_true, nI_of (by omega : v + 1 ≤ 9223372036854775807), chk_t]; rfl
  · rw [agraffebase_Has_L1]; simp
def slotE (l : List Window) (s : List Int) (v : Nat) : Int :=
  bif ix s v == (-1) then 0 else bif (decide (ix s v < (ix l v).From)) || (decide ((ix l v).To ≤ ix s v)) then 2 else bif (s.take v).any (isI (ix s v)) then 5 else 0
def putS (s : List Int) (v : Nat) : List (Int × Bool) := (s.take v).foldl (fun m x => bif x == (-1) then m else mPut x true m) []
def cntS (s : List Int) (v : Nat) : Nat := (s.take v).countP fun x => !(x == (-1))
theorem putS_succ (s : List Int) {v : Nat} (h : v < s.length) : putS s (v + 1) = bif ix s v == (-1) then putS s v else mPut (ix s v) true (putS s v) := by
  rw [putS, take_snoc h, List.foldl_append]; rfl
theorem cntS_succ (s : List Int) {v : Nat} (h : v < s.length) : cntS s (v + 1) = bif ix s v == (-1) then cntS s v else cntS s v + 1 := by
  rw [cntS, take_snoc h, List.countP_append, List.countP_singleton]
  cases ix s v == (-1) <;> rfl
theorem putS_lookup (s : List Int) (x : Int) (hx : (x == (-1)) = false) : ∀ v, v ≤ s.length → List.lookup x (putS s v) = bif (s.take v).any (isI x) then some true else none := by
  intro v
  induction v with
  | zero => intro _; rfl
  | succ v ih =>
    intro h
    have hv : v < s.length := by omega
    rw [putS_succ s hv, take_snoc hv, List.any_append]
    simp only [List.any_cons, List.any_nil, Bool.or_false]
    cases e : ix s v == (-1) with
    | true =>
      have e' : ix s v = -1 := by simpa using e
      have : isI x (ix s v) = false := by
        rw [isI, e']
        have : ¬ x = -1 := beq_eq_false_iff_ne.1 hx
        exact beq_eq_false_iff_ne.2 fun h => this h.symm
      rw [cond_true, ih (by omega), this, Bool.or_false]
    | false =>
      rw [cond_false, lookup_mPut, ih (by omega)]
      have : (x == ix s v) = isI x (ix s v) := by
        rw [isI, Bool.eq_iff_iff]; rw [beq_iff_eq, beq_iff_eq]; exact eq_comm
      rw [this]
      cases isI x (ix s v) <;> cases (s.take v).any (isI x) <;> rfl
theorem putS_length (l : List Window) (s : List Int) : ∀ v, v ≤ s.length → (∀ j, j < v → slotE l s j = 0) → (putS s v).length = cntS s v := by
  intro v
  induction v with
  | zero => intro _ _; rfl
  | succ v ih =>
    intro h hz
    have hv : v < s.length := by omega
    have h0 := hz v (by omega)
    have h1 := ih (by omega) fun j hj => hz j (by omega)
    rw [putS_succ s hv, cntS_succ s hv]
    rw [slotE] at h0
    cases e : ix s v == (-1) with
    | true => rw [cond_true, cond_true]; exact h1
    | false =>
      rw [e, cond_false] at h0
      cases e2 : (decide (ix s v < (ix l v).From)) || (decide ((ix l v).To ≤ ix s v)) with
      | true => rw [e2] at h0; simp at h0
      | false =>
        rw [e2, cond_false] at h0
        cases e3 : (s.take v).any (isI (ix s v)) with
        | true => rw [e3] at h0; simp at h0
        | false =>
          rw [cond_false, cond_false, length_mPut _ _ _ (by rw [putS_lookup s _ e v (by omega), e3]; rfl), h1]
def slotsD (l : List Window) (s : List Int) : Int × Int :=
  bif !decide (s.length = l.length) then (10, 0) else bif firstE (slotE l s) 0 s.length != 0 then (firstE (slotE l s) 0 s.length, 0) else (0, ((cntS s s.length : Nat) : Int))
theorem CheckSlots_eq (l : List Window) (s : List Int) (hn : 1000 < n) (hl : l.length ≤ 900) : diary_CheckSlots n l s = some (bif winD l != 0 then (winD l, 0) else slotsD l s) := by
  rw [diary_CheckSlots, CheckWindows_eq l hn hl, slotsD]
  simp only [Option.bind_some]
  cases winD l != 0 with
  | true => rfl
  | false =>
    simp only [cond_false]
    cases hlen : decide (s.length = l.length) with
    | false => rfl
    | true =>
      have hlen : s.length = l.length := of_decide_eq_true hlen
      simp only [Bool.not_true, cond_false, withK_eq]
      have := loop_first (F := diary_CheckSlots_L1 l s fun v6 => some (0, ((v6.length : Nat) : Int))) (st := fun v => (v, putS s v)) (E := slotE l s) (err := fun e => some (e, 0)) (k := some (0, ((cntS s s.length : Nat) : Int))) (len := s.length) (fun back v hv hz => ?_) (fun back hz => ?_) n 0 (by omega) (by omega) (fun j h => by omega)
      · rw [Nat.sub_zero] at this
        refine Eq.trans this ?_
        cases firstE (slotE l s) 0 s.length != 0 <;> rfl
      · rw [diary_CheckSlots_L1]
        simp only [hv, (by omega : v < l.length), decide_true, cond_true, withK_eq, nI_of (by omega : v + 1 ≤ 9223372036854775807), chk_t, slotE, putS_succ s hv]
        cases e : ix s v == (-1) with
        | true => rfl
        | false =>
          rw [putS_lookup s _ e v (by omega)]
          cases (decide (ix s v < (ix l v).From)) || (decide ((ix l v).To ≤ ix s v)) <;> cases (s.take v).any (isI (ix s v)) <;> rfl
      · rw [diary_CheckSlots_L1]
        simp only [Nat.lt_irrefl, decide_false, cond_false, putS_length l s s.length (by omega) hz]
theorem CheckSlots_ref (l : List Window) (s : List Int) (hn : 1000 < n) (hl : l.length ≤ 900) (hw : ∀ x ∈ l, x.To ≤ 1000 ∧ 0 ≤ x.To) : agrafferef09_CheckSlots n l s = some (slotsD l s) := by
  rw [agrafferef09_CheckSlots, slotsD]
  cases hlen : decide (s.length = l.length) with
  | false => rfl
  | true =>
    have hlen : s.length = l.length := of_decide_eq_true hlen
    simp only [Bool.not_true, cond_false, withK_eq]
    have := loop_first (F := agrafferef09_CheckSlots_L1 n l s fun v9 => some (0, ((v9 : Nat) : Int))) (st := fun v => (cntS s v, v)) (E := slotE l s) (err := fun e => some (e, 0)) (k := some (0, ((cntS s s.length : Nat) : Int))) (len := s.length) (fun back v hv hz => ?_) (fun back hz => ?_) n 0 (by omega) (by omega) (fun j h => by omega)
    · rw [Nat.sub_zero] at this
      refine Eq.trans this ?_
      cases firstE (slotE l s) 0 s.length != 0 <;> rfl
    · have hvl : v < l.length := by omega
      have hb := hw _ (ix_mem hvl)
      have hc : cntS s v ≤ v := Nat.le_trans List.countP_le_length (by simp; omega)
      have hi : inI ((ix l v).To - 1) = true := inI_of (by omega) (by omega)
      have hle : v ≤ s.length := by omega
      have hneg : (!((decide ((ix l v).From ≤ ix s v)) && (decide (ix s v ≤ (ix l v).To - 1)))) = ((decide (ix s v < (ix l v).From)) || (decide ((ix l v).To ≤ ix s v))) := by
        rw [Bool.eq_iff_iff]; simp; omega
      rw [agrafferef09_CheckSlots_L1]
      simp only [hv, hvl, hle, hi, decide_true, cond_true, withK_eq, nI_of (by omega : v + 1 ≤ 9223372036854775807), nI_of (by omega : cntS s v + 1 ≤ 9223372036854775807), chk_t, slotE, cntS_succ s hv, agraffebase_Within, Option.bind_some, hneg, Has_eq (n := n) (s.take v) (ix s v) (by simp; omega) (by simp; omega)]
      cases ix s v == (-1) <;> cases (decide (ix s v < (ix l v).From)) || (decide ((ix l v).To ≤ ix s v)) <;> cases (s.take v).any (isI (ix s v)) <;> rfl
    · rw [agrafferef09_CheckSlots_L1]
      simp only [hlen, Nat.lt_irrefl, decide_false, cond_false]
theorem pure_DiarySlots (a0 : List Window) (a1 : List Int) (a2 : Arr2_Int) : agraffelaw09_DiarySlots 2000 a0 a1 a2 = some true := by
  have hn : 1000 < 2000 := by omega
  rw [agraffelaw09_DiarySlots, awake_ok 0]
  simp only [Option.bind_some, Bool.not_true, cond_false, agraffelaw09_some]
  cases hs : (!((decide (a0.length ≤ 10)) || ((decide (60 < a0.length)) && (decide (a0.length ≤ 63))))) || (decide (20 < a1.length)) with
  | true => rfl
  | false =>
    have hl : a0.length ≤ 63 ∧ a1.length ≤ 20 := by
      simp at hs; omega
    have r1 : room 16 a0.length = true := room_of (by omega) (by omega)
    have r2 : room 8 a1.length = true := room_of (by omega) (by omega)
    simp only [cond_false, agraffelaw09_windows, agraffelaw09_windows_2, agraffebase_CopyInts, r1, r2, chk_t, Option.bind_some, CheckSlots_eq a0 a1 hn (by omega), CheckCrowd_eq a0 a2 hn (by omega), CheckWindows_ref a0 hn (by omega), agraffebase_Within, gcall_some_]
    by_cases hw : winD a0 = 0
    · have hok := winD_zero hw
      simp only [hw, bne_self_eq_false, cond_false, CheckSlots_ref a0 a1 hn (by omega) (fun x hx => ⟨hok.hi x hx, by have := hok.lo x hx; have := hok.lt x hx; omega⟩), Option.bind_some, Bool.or_self, crowdD]
      show (bif (!isBet 0 1000 a2.a0) || (!isBet 0 1000 a2.a1) then _ else _) = _
      cases h : (!isBet 0 1000 a2.a0) || (!isBet 0 1000 a2.a1) with
      | true => rfl
      | false =>
        have h2 : (0 ≤ a2.a0 ∧ a2.a0 ≤ 1000) ∧ 0 ≤ a2.a1 ∧ a2.a1 ≤ 1000 := by simpa [isBet] using h
        simp only [cond_false]
        cases decide (a2.a1 ≤ a2.a0) with
        | true => rfl
        | false =>
          rw [cond_false, IsCrowd_ref a0 a2.a0 a2.a1 hn (by omega) (by omega) (by omega) (by omega) (by omega)]
          simp only [Option.bind_some, cond_false]
          cases crowdB a0 a2.a0 a2.a1 <;> rfl
    · simp [bne_t hw]
end
end Go.Proofs.Ytkfoapcmkpddjaa.As
