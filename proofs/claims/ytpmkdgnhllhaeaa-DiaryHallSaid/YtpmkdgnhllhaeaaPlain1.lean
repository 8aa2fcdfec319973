/- What the functions compute, on plain data, and what follows from it, part 1: no condition. -/
import Derived.Test.YtpmkdgnhllhaeaaGround3
namespace Go.Proofs.Ytpmkdgnhllhaeaa.As
open Go
section
set_option maxRecDepth 4000
open Go
structure Road where
  A : Str
  B : Str
  Minutes : Int
  Width : Int
  deriving Inhabited, DecidableEq
def eRoad (x : Road) : V := .agg [vt x.A, vt x.B, vi x.Minutes, vi x.Width]
structure Grand where
  Name : Str
  Place : Str
  Width : Int
  deriving Inhabited, DecidableEq
def eGrand (x : Grand) : V := .agg [vt x.Name, vt x.Place, vi x.Width]
structure Diary where
  Places : List Str
  Technicians : List Str
  Roads : List Road
  Grands : List Grand
  Change : Int
  Lasts : Int
  deriving Inhabited, DecidableEq
structure Item where
  Kind : Int
  From : Int
  To : Int
  Grand : Str
  Place : Str
  Who : Str
  Deposit : Int
  deriving Inhabited, DecidableEq
def eItem (x : Item) : V := .agg [vi x.Kind, vi x.From, vi x.To, vt x.Grand, vt x.Place, vt x.Who, vi x.Deposit]
theorem eItem_frz (x : Item) : (eItem x).frz = true := rfl
theorem eItem_frzE (x : Item) : frzE (eItem x) = true := rfl
structure Arr2_Str where
  a0 : Str
  a1 : Str
  deriving Inhabited, DecidableEq
def eArr2_Str (x : Arr2_Str) : V := .agg [vt x.a0, vt x.a1]
theorem eArr2_Str_frz (x : Arr2_Str) : (eArr2_Str x).frz = true := rfl
theorem eArr2_Str_key : KeyAB eArr2_Str (fun x => x.a0) (fun x => x.a1) := ⟨fun _ => rfl, fun ⟨a, b⟩ ⟨c, d⟩ => keyab_dec ⟨fun h => by cases h; exact ⟨rfl, rfl⟩, fun h => by cases h.1; cases h.2; rfl⟩⟩
def tunStop (x : Item) (lasts : Int) (y : Item) : Bool := (y.Grand == x.Grand) && ((y.Kind == 1) || ((y.Kind == 0) && (decide (y.To ≤ x.From) && decide (IntKind.i64.wrap (x.From - y.To) ≤ lasts))))
def tuneL (x : Item) (lasts : Int) (l : List Item) : Nat → Int
  | 0 => -1
  | k + 1 => bif tunStop x lasts (ix l k) then (bif (ix l k).Kind == 1 then -1 else ((k : Nat) : Int)) else tuneL x lasts l k
def sortIns (x : Int) : List Int → List Int
  | [] => [x]
  | y :: l => bif decide (x ≤ y) then x :: y :: l else y :: sortIns x l
def sortI : List Int → List Int
  | [] => []
  | x :: l => sortIns x (sortI l)
def insL {α : Type} (l : List α) (i : Nat) (x : α) : List α := l.take i ++ x :: l.drop i
structure Window where
  From : Int
  To : Int
  deriving Inhabited, DecidableEq
def eWindow (x : Window) : V := .agg [vi x.From, vi x.To]
theorem eWindow_frz (x : Window) : (eWindow x).frz = true := rfl
theorem eWindow_frzE (x : Window) : frzE (eWindow x) = true := rfl
structure Arr2_Int where
  a0 : Int
  a1 : Int
  deriving Inhabited, DecidableEq
def agraffelaw09_Town (n : Nat)  : Option Unit :=
  some ()
def diary_isName_L1 (a0 : Str) (k1 : (Unit → Option Bool)) (back : Nat → Option Bool) : Nat → Option Bool
  | v1 =>
  bif decide (v1 < a0.length) then
    bif (!(((decide ((97 : Int) ≤ (((List.getD a0 v1 0).toNat : Nat) : Int))) && (decide ((((List.getD a0 v1 0).toNat : Nat) : Int) ≤ (122 : Int)))) || ((decide ((65 : Int) ≤ (((List.getD a0 v1 0).toNat : Nat) : Int))) && (decide ((((List.getD a0 v1 0).toNat : Nat) : Int) ≤ (90 : Int)))))) && ((decide (v1 = 0)) || (((((List.getD a0 v1 0).toNat : Nat) : Int) != (45 : Int)) && ((decide ((((List.getD a0 v1 0).toNat : Nat) : Int) < (48 : Int))) || (decide ((57 : Int) < (((List.getD a0 v1 0).toNat : Nat) : Int)))))) then
      some false
    else
      chk (nI (v1 + 1)) <|
      back (v1 + 1)
  else
    k1 ()
def diary_isName (n : Nat) (a0 : Str) : Option Bool :=
  withK (fun (_ : Unit) =>
      some ((!(a0 == ([] : Str))) && (decide (a0.length ≤ 12)))) fun k1 =>
  loopN (diary_isName_L1 a0 k1) n 0
def slices_Index_string_L1 (a0 : List Str) (a1 : Str) (k1 : (Unit → Option Int)) (back : Nat → Option Int) : Nat → Option Int
  | v1 =>
  bif decide (v1 < a0.length) then
    bif (a1 == (ix a0 v1)) then
      some ((v1 : Nat) : Int)
    else
      chk (nI (v1 + 1)) <|
      back (v1 + 1)
  else
    k1 ()
def slices_Index_string (n : Nat) (a0 : List Str) (a1 : Str) : Option Int :=
  withK (fun (_ : Unit) =>
      some (-1)) fun k1 =>
  loopN (slices_Index_string_L1 a0 a1 k1) n 0
def slices_Contains_string (n : Nat) (a0 : List Str) (a1 : Str) : Option Bool :=
  (slices_Index_string n a0 a1).bind fun y1 =>
  some (decide ((0 : Int) ≤ y1))
def diary_checkName (n : Nat) (a0 : Str) (a1 : List Str) : Option Int :=
  (diary_isName n a0).bind fun y1 =>
  bif !y1 then
    some 4
  else
    (slices_Contains_string n a1 a0).bind fun y2 =>
    bif y2 then
      some 5
    else
      some 0
def diary_checkNames_L1 (n : Nat) (a0 : List Str) (k1 : (Unit → Option Int)) (back : Nat → Option Int) : Nat → Option Int
  | v2 =>
  bif decide (v2 < a0.length) then
    chk (decide (v2 ≤ a0.length)) <|
    (diary_checkName n (ix a0 v2) (List.take v2 a0)).bind fun y3 =>
    bif (y3 != (0 : Int)) then
      some y3
    else
      chk (nI (v2 + 1)) <|
      back (v2 + 1)
  else
    k1 ()
def diary_checkNames (n : Nat) (a0 : List Str) (a1 : Int) : Option Int :=
  bif decide (a1 < ((a0.length : Nat) : Int)) then
    some 8
  else
    withK (fun (_ : Unit) =>
        some 0) fun k1 =>
    loopN (diary_checkNames_L1 n a0 k1) n 0
def diary_within (n : Nat) (a0 : Int) (a1 : Int) (a2 : Int) : Option Unit :=
  some ()
def diary_isWidth (n : Nat) (a0 : Int) : Option Unit :=
  (diary_within n a0 1 10000).bind fun y1 =>
  some ()
def diary_checkRoads_L1 (n : Nat) (a0 : Diary) (k1 : (Unit → Option Int)) (back : Nat → Option Int) : Nat → Option Int
  | v5 =>
  bif decide (v5 < a0.Roads.length) then
    (slices_Contains_string n a0.Places ((ix a0.Roads v5).A)).bind fun y6 =>
    (gcall (!(!y6)) (slices_Contains_string n a0.Places ((ix a0.Roads v5).B))).bind fun y7 =>
    bif (!y6) || (!y7) then
      some 6
    else
      bif (((ix a0.Roads v5).A) == ((ix a0.Roads v5).B)) then
        some 3
      else
        (diary_within n ((ix a0.Roads v5).Minutes) 1 10000).bind fun y8 =>
        (gcall (!(!((decide (1 ≤ ((ix a0.Roads v5).Minutes))) && (decide (((ix a0.Roads v5).Minutes) ≤ 10000))))) (diary_isWidth n ((ix a0.Roads v5).Width))).bind fun y9 =>
        bif (!((decide (1 ≤ ((ix a0.Roads v5).Minutes))) && (decide (((ix a0.Roads v5).Minutes) ≤ 10000)))) || (!((decide (1 ≤ ((ix a0.Roads v5).Width))) && (decide (((ix a0.Roads v5).Width) ≤ 10000)))) then
          some 2
        else
          chk (nI (v5 + 1)) <|
          back (v5 + 1)
  else
    k1 ()
def diary_checkRoads (n : Nat) (a0 : Diary) : Option Int :=
  bif decide (60 < a0.Roads.length) then
    some 8
  else
    withK (fun (_ : Unit) =>
        some 0) fun k1 =>
    loopN (diary_checkRoads_L1 n a0 k1) n 0
def slices_Index_string_2_L1 (a0 : List Str) (a1 : Str) (k1 : (Unit → Option Int)) (back : Nat → Option Int) : Nat → Option Int
  | v1 =>
  bif decide (v1 < a0.length) then
    bif (a1 == (ix a0 v1)) then
      some ((v1 : Nat) : Int)
    else
      chk (nI (v1 + 1)) <|
      back (v1 + 1)
  else
    k1 ()
def slices_Index_string_2 (n : Nat) (a0 : List Str) (a1 : Str) : Option Int :=
  withK (fun (_ : Unit) =>
      some (-1)) fun k1 =>
  loopN (slices_Index_string_2_L1 a0 a1 k1) n 0
def slices_Contains_string_2 (n : Nat) (a0 : List Str) (a1 : Str) : Option Bool :=
  (slices_Index_string_2 n a0 a1).bind fun y1 =>
  some (decide ((0 : Int) ≤ y1))
def diary_checkName_2 (n : Nat) (a0 : Str) (a1 : List Str) : Option Int :=
  (diary_isName n a0).bind fun y1 =>
  bif !y1 then
    some 4
  else
    (slices_Contains_string_2 n a1 a0).bind fun y2 =>
    bif y2 then
      some 5
    else
      some 0
def diary_checkGrands_L1 (n : Nat) (a0 : Diary) (k1 : (Unit → Option Int)) (back : (List Str) × Nat → Option Int) : (List Str) × Nat → Option Int
  | (v4, v5) =>
  bif decide (v5 < a0.Grands.length) then
    (diary_checkName_2 n ((ix a0.Grands v5).Name) v4).bind fun y6 =>
    bif (y6 != (0 : Int)) then
      some y6
    else
      (slices_Contains_string n a0.Places ((ix a0.Grands v5).Place)).bind fun y7 =>
      bif !y7 then
        some 6
      else
        (diary_isWidth n ((ix a0.Grands v5).Width)).bind fun y8 =>
        bif !((decide (1 ≤ ((ix a0.Grands v5).Width))) && (decide (((ix a0.Grands v5).Width) ≤ 10000))) then
          some 2
        else
          chk (room 16 (v4 ++ ([(ix a0.Grands v5).Name] : List Str)).length) <|
          chk (nI (v5 + 1)) <|
          back ((v4 ++ ([(ix a0.Grands v5).Name] : List Str)), v5 + 1)
  else
    k1 ()
def diary_checkGrands (n : Nat) (a0 : Diary) : Option Int :=
  bif decide (12 < a0.Grands.length) then
    some 8
  else
    withK (fun (_ : Unit) =>
        some 0) fun k1 =>
    loopN (diary_checkGrands_L1 n a0 k1) n (([] : List Str), 0)
def diary_CheckDiary (n : Nat) (a0 : Diary) : Option Int :=
  (diary_checkNames n a0.Places 20).bind fun y1 =>
  bif (y1 != (0 : Int)) then
    some y1
  else
    (diary_checkRoads n a0).bind fun y2 =>
    bif (y2 != (0 : Int)) then
      some y2
    else
      (diary_checkGrands n a0).bind fun y3 =>
      bif (y3 != (0 : Int)) then
        some y3
      else
        (diary_checkNames n a0.Technicians 12).bind fun y4 =>
        bif (y4 != (0 : Int)) then
          some y4
        else
          (diary_within n a0.Change 0 1000).bind fun y5 =>
          (gcall (!(!((decide (0 ≤ a0.Change)) && (decide (a0.Change ≤ 1000))))) (diary_within n a0.Lasts 0 100000)).bind fun y6 =>
          bif (!((decide (0 ≤ a0.Change)) && (decide (a0.Change ≤ 1000)))) || (!((decide (0 ≤ a0.Lasts)) && (decide (a0.Lasts ≤ 100000)))) then
            some 2
          else
            some 0
def diary_open (n : Nat) (a0 : Diary) : Option (Int ⊕ Unit) :=
  (diary_CheckDiary n a0).bind fun y1 =>
  bif (y1 != (0 : Int)) then
    some (.inl y1)
  else
    some (.inr ())
def diary_plan_isPlace_2 (n : Nat) (a0 : List Str) (a1 : List Str) (a2 : List Road) (a3 : List Grand) (a4 : Int) (a5 : Int) (a6 : List (Int × List (Arr2_Str × Int))) (a7 : Str) : Option Bool :=
  (slices_Contains_string n a0 a7).bind fun y1 =>
  some y1
def diary_plan_joined_L1 (a2 : List Road) (a7 : Str) (a8 : Str) (a9 : Int) (k2 : (Int × Bool → Option (Int × Bool))) (back : Int × Bool × Nat → Option (Int × Bool)) : Int × Bool × Nat → Option (Int × Bool)
  | (v3, v4, v5) =>
  bif decide (v5 < a2.length) then
    withK (fun (v6, v7) =>
        chk (nI (v5 + 1)) <|
        back (v6, v7, v5 + 1)) fun k1 =>
    bif ((((((ix a2 v5).A) == a7) && (((ix a2 v5).B) == a8)) || ((((ix a2 v5).A) == a8) && (((ix a2 v5).B) == a7))) && (decide (a9 ≤ ((ix a2 v5).Width)))) && ((!v4) || (decide (((ix a2 v5).Minutes) < v3))) then
      k1 ((ix a2 v5).Minutes, true)
    else
      k1 (v3, v4)
  else
    k2 (v3, v4)
def diary_plan_joined (n : Nat) (a0 : List Str) (a1 : List Str) (a2 : List Road) (a3 : List Grand) (a4 : Int) (a5 : Int) (a6 : List (Int × List (Arr2_Str × Int))) (a7 : Str) (a8 : Str) (a9 : Int) : Option (Int × Bool) :=
  withK (fun (v8, v9) =>
      some (v8, v9)) fun k2 =>
  loopN (diary_plan_joined_L1 a2 a7 a8 a9 k2) n (0, false, 0)
def diary_plan_distances_L3 (a0 : List Str) (v31 : Nat) (v38 : Nat) (k7 : ((List (Arr2_Str × Int)) → Option ((List (Arr2_Str × Int)) × (List (Int × List (Arr2_Str × Int)))))) (back : Nat × (List (Arr2_Str × Int)) → Option ((List (Arr2_Str × Int)) × (List (Int × List (Arr2_Str × Int))))) : Nat × (List (Arr2_Str × Int)) → Option ((List (Arr2_Str × Int)) × (List (Int × List (Arr2_Str × Int))))
  | (v41, v42) =>
  bif decide (v41 < a0.length) then
    withK (fun (v43 : (List (Arr2_Str × Int))) =>
        chk (nI (v41 + 1)) <|
        back (v41 + 1, v43)) fun k6 =>
    chk (!(((Option.isSome (List.lookup (Arr2_Str.mk (ix a0 v38) (ix a0 v31)) v42)) && (Option.isSome (List.lookup (Arr2_Str.mk (ix a0 v31) (ix a0 v41)) v42))) && !(!(Option.isSome (List.lookup (Arr2_Str.mk (ix a0 v38) (ix a0 v41)) v42)))) || inI ((Option.getD (List.lookup (Arr2_Str.mk (ix a0 v38) (ix a0 v31)) v42) (0 : Int)) + (Option.getD (List.lookup (Arr2_Str.mk (ix a0 v31) (ix a0 v41)) v42) (0 : Int)))) <|
    bif ((Option.isSome (List.lookup (Arr2_Str.mk (ix a0 v38) (ix a0 v31)) v42)) && (Option.isSome (List.lookup (Arr2_Str.mk (ix a0 v31) (ix a0 v41)) v42))) && ((!(Option.isSome (List.lookup (Arr2_Str.mk (ix a0 v38) (ix a0 v41)) v42))) || (decide (((Option.getD (List.lookup (Arr2_Str.mk (ix a0 v38) (ix a0 v31)) v42) (0 : Int)) + (Option.getD (List.lookup (Arr2_Str.mk (ix a0 v31) (ix a0 v41)) v42) (0 : Int))) < (Option.getD (List.lookup (Arr2_Str.mk (ix a0 v38) (ix a0 v41)) v42) (0 : Int))))) then
      chk (inI ((Option.getD (List.lookup (Arr2_Str.mk (ix a0 v38) (ix a0 v31)) v42) (0 : Int)) + (Option.getD (List.lookup (Arr2_Str.mk (ix a0 v31) (ix a0 v41)) v42) (0 : Int)))) <|
      k6 (mPut (Arr2_Str.mk (ix a0 v38) (ix a0 v41)) ((Option.getD (List.lookup (Arr2_Str.mk (ix a0 v38) (ix a0 v31)) v42) (0 : Int)) + (Option.getD (List.lookup (Arr2_Str.mk (ix a0 v31) (ix a0 v41)) v42) (0 : Int))) v42)
    else
      k6 v42
  else
    k7 v42
def diary_plan_distances_L4 (n : Nat) (a0 : List Str) (v31 : Nat) (k8 : ((List (Arr2_Str × Int)) → Option ((List (Arr2_Str × Int)) × (List (Int × List (Arr2_Str × Int)))))) (back : Nat × (List (Arr2_Str × Int)) → Option ((List (Arr2_Str × Int)) × (List (Int × List (Arr2_Str × Int))))) : Nat × (List (Arr2_Str × Int)) → Option ((List (Arr2_Str × Int)) × (List (Int × List (Arr2_Str × Int))))
  | (v38, v39) =>
  bif decide (v38 < a0.length) then
    withK (fun (v44 : (List (Arr2_Str × Int))) =>
        chk (nI (v38 + 1)) <|
        back (v38 + 1, v44)) fun k7 =>
    loopN (diary_plan_distances_L3 a0 v31 v38 k7) n (0, v39)
  else
    k8 v39
def diary_plan_distances_L5 (n : Nat) (a0 : List Str) (k9 : ((List (Arr2_Str × Int)) → Option ((List (Arr2_Str × Int)) × (List (Int × List (Arr2_Str × Int)))))) (back : Nat × (List (Arr2_Str × Int)) → Option ((List (Arr2_Str × Int)) × (List (Int × List (Arr2_Str × Int))))) : Nat × (List (Arr2_Str × Int)) → Option ((List (Arr2_Str × Int)) × (List (Int × List (Arr2_Str × Int))))
  | (v31, v32) =>
  bif decide (v31 < a0.length) then
    withK (fun (v45 : (List (Arr2_Str × Int))) =>
        chk (nI (v31 + 1)) <|
        back (v31 + 1, v45)) fun k8 =>
    loopN (diary_plan_distances_L4 n a0 v31 k8) n (0, v32)
  else
    k9 v32
def diary_plan_distances_L1 (n : Nat) (a0 : List Str) (a1 : List Str) (a2 : List Road) (a3 : List Grand) (a4 : Int) (a5 : Int) (a6 : List (Int × List (Arr2_Str × Int))) (a7 : Int) (v8 : Nat) (k4 : ((List (Arr2_Str × Int)) → Option ((List (Arr2_Str × Int)) × (List (Int × List (Arr2_Str × Int)))))) (back : Nat × (List (Arr2_Str × Int)) → Option ((List (Arr2_Str × Int)) × (List (Int × List (Arr2_Str × Int))))) : Nat × (List (Arr2_Str × Int)) → Option ((List (Arr2_Str × Int)) × (List (Int × List (Arr2_Str × Int))))
  | (v12, v13) =>
  bif decide (v12 < a0.length) then
    withK (fun (v15 : (List (Arr2_Str × Int))) =>
        chk (nI (v12 + 1)) <|
        back (v12 + 1, v15)) fun k3 =>
    (diary_plan_joined n a0 a1 a2 a3 a4 a5 a6 (ix a0 v8) (ix a0 v12) a7).bind fun y14 =>
    bif y14.2 && (!((ix a0 v8) == (ix a0 v12))) then
      k3 (mPut (Arr2_Str.mk (ix a0 v8) (ix a0 v12)) y14.1 v13)
    else
      k3 v13
  else
    k4 v13
def diary_plan_distances_L2 (n : Nat) (a0 : List Str) (a1 : List Str) (a2 : List Road) (a3 : List Grand) (a4 : Int) (a5 : Int) (a6 : List (Int × List (Arr2_Str × Int))) (a7 : Int) (k5 : ((List (Arr2_Str × Int)) → Option ((List (Arr2_Str × Int)) × (List (Int × List (Arr2_Str × Int)))))) (back : Nat × (List (Arr2_Str × Int)) → Option ((List (Arr2_Str × Int)) × (List (Int × List (Arr2_Str × Int))))) : Nat × (List (Arr2_Str × Int)) → Option ((List (Arr2_Str × Int)) × (List (Int × List (Arr2_Str × Int))))
  | (v8, v9) =>
  bif decide (v8 < a0.length) then
    withK (fun (v16 : (List (Arr2_Str × Int))) =>
        chk (nI (v8 + 1)) <|
        back (v8 + 1, v16)) fun k4 =>
    loopN (diary_plan_distances_L1 n a0 a1 a2 a3 a4 a5 a6 a7 v8 k4) n (0, (mPut (Arr2_Str.mk (ix a0 v8) (ix a0 v8)) 0 v9))
  else
    k5 v9
def diary_plan_distances (n : Nat) (a0 : List Str) (a1 : List Str) (a2 : List Road) (a3 : List Grand) (a4 : Int) (a5 : Int) (a6 : List (Int × List (Arr2_Str × Int))) (a7 : Int) : Option ((List (Arr2_Str × Int)) × (List (Int × List (Arr2_Str × Int)))) :=
  withK (fun (_ : Unit) =>
      some ((Option.getD (List.lookup a7 a6) ([] : List (Arr2_Str × Int))), a6)) fun k1 =>
  withK (fun (_ : Unit) =>
      withK (fun (v17 : (List (Arr2_Str × Int))) =>
          withK (fun (v46 : (List (Arr2_Str × Int))) =>
              some (v46, (mPut a7 v46 a6))) fun k9 =>
          loopN (diary_plan_distances_L5 n a0 k9) n (0, v17)) fun k5 =>
      loopN (diary_plan_distances_L2 n a0 a1 a2 a3 a4 a5 a6 a7 k5) n (0, ([] : List (Arr2_Str × Int)))) fun k2 =>
  bif (Option.isSome (List.lookup a7 a6)) then
    k1 ()
  else
    k2 ()
def diary_plan_distance (n : Nat) (a0 : List Str) (a1 : List Str) (a2 : List Road) (a3 : List Grand) (a4 : Int) (a5 : Int) (a6 : List (Int × List (Arr2_Str × Int))) (a7 : Str) (a8 : Str) (a9 : Int) : Option (Int × Bool × (List (Int × List (Arr2_Str × Int)))) :=
  (diary_plan_distances n a0 a1 a2 a3 a4 a5 a6 a9).bind fun y1 =>
  some ((Option.getD (List.lookup (Arr2_Str.mk a7 a8) y1.1) (0 : Int)), (Option.isSome (List.lookup (Arr2_Str.mk a7 a8) y1.1)), y1.2)
def diary_Distances_L1 (n : Nat) (a0 : Diary) (a1 : Str) (a2 : Int) (k4 : ((List Int) → Option (Int × (List Int)))) (back : (List Int) × Nat × (List (Int × List (Arr2_Str × Int))) → Option (Int × (List Int))) : (List Int) × Nat × (List (Int × List (Arr2_Str × Int))) → Option (Int × (List Int))
  | (v9, v10, v11) =>
  bif decide (v10 < a0.Places.length) then
    (diary_plan_distance n a0.Places a0.Technicians a0.Roads a0.Grands a0.Change a0.Lasts v11 a1 (ix a0.Places v10) a2).bind fun y12 =>
    withK (fun (v13 : Int) =>
        chk (room 8 (v9 ++ ([v13] : List Int)).length) <|
        chk (nI (v10 + 1)) <|
        back ((v9 ++ ([v13] : List Int)), v10 + 1, y12.2.2)) fun k3 =>
    bif !y12.2.1 then
      k3 (-1)
    else
      k3 y12.1
  else
    k4 v9
def diary_Distances (n : Nat) (a0 : Diary) (a1 : Str) (a2 : Int) : Option (Int × (List Int)) :=
  withK (fun (v4 : Int) =>
      bif (v4 != (0 : Int)) then
        some (v4, ([] : List Int))
      else
        none) fun k1 =>
  withK (fun (_ : Unit) =>
      (diary_plan_isPlace_2 n a0.Places a0.Technicians a0.Roads a0.Grands a0.Change a0.Lasts ([] : List (Int × List (Arr2_Str × Int))) a1).bind fun y5 =>
      bif !y5 then
        some (6, ([] : List Int))
      else
        (diary_isWidth n a2).bind fun y6 =>
        bif !((decide (1 ≤ a2)) && (decide (a2 ≤ 10000))) then
          some (2, ([] : List Int))
        else
          withK (fun (v14 : (List Int)) =>
              some (0, v14)) fun k4 =>
          loopN (diary_Distances_L1 n a0 a1 a2 k4) n (([] : List Int), 0, ([] : List (Int × List (Arr2_Str × Int))))) fun k2 =>
  (diary_open n a0).bind fun y1 =>
  match y1 with
  | .inl y1 =>
    k1 y1
  | .inr y1 =>
    k2 ()
def agraffelaw09_Evening (n : Nat)  : Option Unit :=
  some ()
def diary_plan_accept_L1 (a0 : List Item) (k1 : (Unit → Option (Int × Int))) (back : Unit → Option (Int × Int)) : Unit → Option (Int × Int)
  | _ =>
  bif decide (0 < a0.length) then
    none
  else
    k1 ()
def diary_plan_accept (n : Nat) (a0 : List Item) : Option (Int × Int) :=
  bif decide (100 < a0.length) then
    some (0, 8)
  else
    withK (fun (_ : Unit) =>
        some ((-1), 0)) fun k1 =>
    loopN (diary_plan_accept_L1 a0 k1) n ()
def diary_grand_f1 (n : Nat) (a0 : Grand) (a1 : Str) : Option Unit :=
  some ()
def slices_IndexFunc_Grand_L1 (n : Nat) (a0 : List Grand) (a1 : Str) (k1 : (Unit → Option Int)) (back : Nat → Option Int) : Nat → Option Int
  | v2 =>
  bif decide (v2 < a0.length) then
    (diary_grand_f1 n (ix a0 v2) a1).bind fun y3 =>
    bif ((ix a0 v2).Name == a1) then
      some ((v2 : Nat) : Int)
    else
      chk (nI (v2 + 1)) <|
      back (v2 + 1)
  else
    k1 ()
def slices_IndexFunc_Grand (n : Nat) (a0 : List Grand) (a1 : Str) : Option Int :=
  withK (fun (_ : Unit) =>
      some (-1)) fun k1 =>
  loopN (slices_IndexFunc_Grand_L1 n a0 a1 k1) n 0
def diary_grand (n : Nat) (a0 : Diary) (a1 : Str) : Option (Str × Str × Int × Bool) :=
  (slices_IndexFunc_Grand n a0.Grands a1).bind fun y1 =>
  bif decide (y1 < (0 : Int)) then
    some (([] : Str), ([] : Str), 0, false)
  else
    chk (inB y1 a0.Grands.length) <|
    chk (decide (y1.toNat < a0.Grands.length)) <|
    some ((ix a0.Grands y1.toNat).Name, (ix a0.Grands y1.toNat).Place, (ix a0.Grands y1.toNat).Width, true)
def diary_isMinute (n : Nat) (a0 : Int) : Option Unit :=
  (diary_within n a0 0 1000000).bind fun y1 =>
  some ()
def diary_checkItem (n : Nat) (a0 : Diary) (a1 : Item) : Option Int :=
  (diary_grand n a0 a1.Grand).bind fun y1 =>
  (diary_within n a1.Kind 0 3).bind fun y2 =>
  bif !((decide (0 ≤ a1.Kind)) && (decide (a1.Kind ≤ 3))) then
    some 15
  else
    (diary_isMinute n a1.From).bind fun y3 =>
    (gcall (!(!((decide (0 ≤ a1.From)) && (decide (a1.From ≤ 1000000))))) (diary_isMinute n a1.To)).bind fun y4 =>
    bif (!((decide (0 ≤ a1.From)) && (decide (a1.From ≤ 1000000)))) || (!((decide (0 ≤ a1.To)) && (decide (a1.To ≤ 1000000)))) then
      some 2
    else
      bif decide (a1.To ≤ a1.From) then
        some 9
      else
        (gcall (!(!y1.2.2.2)) (slices_Contains_string n a0.Places a1.Place)).bind fun y5 =>
        bif (!y1.2.2.2) || (!y5) then
          some 6
        else
          (gcall (a1.Kind == (0 : Int)) (slices_Contains_string n a0.Technicians a1.Who)).bind fun y6 =>
          bif (a1.Kind == (0 : Int)) && (!y6) then
            some 6
          else
            (gcall (a1.Kind == (3 : Int)) (diary_isName n a1.Who)).bind fun y7 =>
            bif (a1.Kind == (3 : Int)) && (!y7) then
              some 4
            else
              (gcall (a1.Kind == (3 : Int)) (diary_within n a1.Deposit 0 1000000000)).bind fun y8 =>
              bif (a1.Kind == (3 : Int)) && (!((decide (0 ≤ a1.Deposit)) && (decide (a1.Deposit ≤ 1000000000)))) then
                some 2
              else
                withK (fun (v9 : Bool) =>
                    bif v9 then
                      some 3
                    else
                      some 0) fun k1 =>
                bif (a1.Kind != (3 : Int)) && (a1.Deposit != (0 : Int)) then
                  k1 ((a1.Kind != (3 : Int)) && (a1.Deposit != (0 : Int)))
                else
                  k1 (((a1.Kind == (1 : Int)) || (a1.Kind == (2 : Int))) && (!(a1.Who == ([] : Str))))
def diary_plan_changes_f1 (n : Nat) (a0 : Item) (a1 : Int) (a2 : Int) (a3 : Int) (a4 : Str) (a5 : Str) (a6 : Str) (a7 : Int) (a8 : List Str) (a9 : List Str) (a10 : List Road) (a11 : List Grand) (a12 : Int) (a13 : Int) (a14 : List (Int × List (Arr2_Str × Int))) : Option Unit :=
  chk (!(a0.Grand == a4) || inI (a0.To + a12)) <|
  some ()
def slices_IndexFunc_Item_L1 (n : Nat) (a0 : List Item) (a1 : Int) (a2 : Int) (a3 : Int) (a4 : Str) (a5 : Str) (a6 : Str) (a7 : Int) (a8 : List Str) (a9 : List Str) (a10 : List Road) (a11 : List Grand) (a12 : Int) (a13 : Int) (a14 : List (Int × List (Arr2_Str × Int))) (k1 : (Unit → Option Int)) (back : Nat → Option Int) : Nat → Option Int
  | v2 =>
  bif decide (v2 < a0.length) then
    (diary_plan_changes_f1 n (ix a0 v2) a1 a2 a3 a4 a5 a6 a7 a8 a9 a10 a11 a12 a13 a14).bind fun y3 =>
    bif ((ix a0 v2).Grand == a4) && (decide (a2 < ((ix a0 v2).To + a12))) then
      some ((v2 : Nat) : Int)
    else
      chk (nI (v2 + 1)) <|
      back (v2 + 1)
  else
    k1 ()
def slices_IndexFunc_Item (n : Nat) (a0 : List Item) (a1 : Int) (a2 : Int) (a3 : Int) (a4 : Str) (a5 : Str) (a6 : Str) (a7 : Int) (a8 : List Str) (a9 : List Str) (a10 : List Road) (a11 : List Grand) (a12 : Int) (a13 : Int) (a14 : List (Int × List (Arr2_Str × Int))) : Option Int :=
  withK (fun (_ : Unit) =>
      some (-1)) fun k1 =>
  loopN (slices_IndexFunc_Item_L1 n a0 a1 a2 a3 a4 a5 a6 a7 a8 a9 a10 a11 a12 a13 a14 k1) n 0
def slices_ContainsFunc_Item (n : Nat) (a0 : List Item) (a1 : Int) (a2 : Int) (a3 : Int) (a4 : Str) (a5 : Str) (a6 : Str) (a7 : Int) (a8 : List Str) (a9 : List Str) (a10 : List Road) (a11 : List Grand) (a12 : Int) (a13 : Int) (a14 : List (Int × List (Arr2_Str × Int))) : Option Bool :=
  (slices_IndexFunc_Item n a0 a1 a2 a3 a4 a5 a6 a7 a8 a9 a10 a11 a12 a13 a14).bind fun y1 =>
  some (decide ((0 : Int) ≤ y1))
def diary_plan_changes (n : Nat) (a0 : List Str) (a1 : List Str) (a2 : List Road) (a3 : List Grand) (a4 : Int) (a5 : Int) (a6 : List (Int × List (Arr2_Str × Int))) (a7 : List Item) (a8 : Item) : Option Int :=
  (slices_ContainsFunc_Item n a7 a8.Kind a8.From a8.To a8.Grand a8.Place a8.Who a8.Deposit a0 a1 a2 a3 a4 a5 a6).bind fun y1 =>
  bif y1 then
    some 17
  else
    some 0
def diary_plan_place_L1 (a7 : List Item) (a8 : Str) (a9 : Int) (k2 : (Str → Option Str)) (back : Str × Nat → Option Str) : Str × Nat → Option Str
  | (v3, v4) =>
  bif decide (v4 < a7.length) then
    withK (fun (v5 : Str) =>
        chk (nI (v4 + 1)) <|
        back (v5, v4 + 1)) fun k1 =>
    bif ((((ix a7 v4).Kind) == (1 : Int)) && (((ix a7 v4).Grand) == a8)) && (decide (((ix a7 v4).To) ≤ a9)) then
      k1 ((ix a7 v4).Place)
    else
      k1 v3
  else
    k2 v3
def diary_plan_place (n : Nat) (a0 : List Str) (a1 : List Str) (a2 : List Road) (a3 : List Grand) (a4 : Int) (a5 : Int) (a6 : List (Int × List (Arr2_Str × Int))) (a7 : List Item) (a8 : Str) (a9 : Int) : Option Str :=
  (diary_grand n (Diary.mk a0 a1 a2 a3 a4 a5) a8).bind fun y1 =>
  withK (fun (v6 : Str) =>
      some v6) fun k2 =>
  loopN (diary_plan_place_L1 a7 a8 a9 k2) n (y1.2.1, 0)
def diary_plan_stands (n : Nat) (a0 : List Str) (a1 : List Str) (a2 : List Road) (a3 : List Grand) (a4 : Int) (a5 : Int) (a6 : List (Int × List (Arr2_Str × Int))) (a7 : List Item) (a8 : Item) : Option (Int × (List (Int × List (Arr2_Str × Int)))) :=
  (diary_plan_place n a0 a1 a2 a3 a4 a5 a6 a7 a8.Grand a8.From).bind fun y1 =>
  bif (a8.Kind != (1 : Int)) then
    bif !(y1 == a8.Place) then
      some (13, a6)
    else
      some (0, a6)
  else
    (diary_grand n (Diary.mk a0 a1 a2 a3 a4 a5) a8.Grand).bind fun y2 =>
    (diary_plan_distance n a0 a1 a2 a3 a4 a5 a6 y1 a8.Place y2.2.2.1).bind fun y3 =>
    bif (y1 == a8.Place) then
      some (24, y3.2.2)
    else
      bif !y3.2.1 then
        some (12, y3.2.2)
      else
        chk (inI (a8.To - a8.From)) <|
        bif decide ((a8.To - a8.From) < y3.1) then
          some (18, y3.2.2)
        else
          some (0, y3.2.2)
def diary_plan_travels_L1 (n : Nat) (a0 : List Str) (a1 : List Str) (a2 : List Road) (a3 : List Grand) (a4 : Int) (a5 : Int) (a7 : List Item) (a8 : Item) (k2 : ((List (Int × List (Arr2_Str × Int))) → Option (Int × (List (Int × List (Arr2_Str × Int)))))) (back : Nat × (List (Int × List (Arr2_Str × Int))) → Option (Int × (List (Int × List (Arr2_Str × Int))))) : Nat × (List (Int × List (Arr2_Str × Int))) → Option (Int × (List (Int × List (Arr2_Str × Int))))
  | (v3, v4) =>
  bif decide (v3 < a7.length) then
    withK (fun (v6 : (List (Int × List (Arr2_Str × Int)))) =>
        chk (nI (v3 + 1)) <|
        back (v3 + 1, v6)) fun k1 =>
    bif (((ix a7 v3).Kind) != (0 : Int)) || (!(((ix a7 v3).Who) == a8.Who)) then
      k1 v4
    else
      (diary_plan_distance n a0 a1 a2 a3 a4 a5 v4 ((ix a7 v3).Place) a8.Place 1).bind fun y5 =>
      chk (!(!(!y5.2.1)) || inI (((ix a7 v3).To) + y5.1)) <|
      bif (!y5.2.1) || (decide (a8.From < (((ix a7 v3).To) + y5.1))) then
        some (16, y5.2.2)
      else
        k1 y5.2.2
  else
    k2 v4
def diary_plan_travels (n : Nat) (a0 : List Str) (a1 : List Str) (a2 : List Road) (a3 : List Grand) (a4 : Int) (a5 : Int) (a6 : List (Int × List (Arr2_Str × Int))) (a7 : List Item) (a8 : Item) : Option (Int × (List (Int × List (Arr2_Str × Int)))) :=
  bif (a8.Kind != (0 : Int)) then
    some (0, a6)
  else
    withK (fun (v7 : (List (Int × List (Arr2_Str × Int)))) =>
        some (0, v7)) fun k2 =>
    loopN (diary_plan_travels_L1 n a0 a1 a2 a3 a4 a5 a7 a8 k2) n (0, a6)
def diary_plan_tuning (n : Nat) (a0 : List Str) (a1 : List Str) (a2 : List Road) (a3 : List Grand) (a4 : Int) (a5 : Int) (a6 : List (Int × List (Arr2_Str × Int))) (a7 : List Item) (a8 : Item) : Option Int :=
  chk (decide (a7.length ≤ 4611686018427387904)) <|
  some (tuneL a8 a5 a7 a7.length)
def diary_plan_isTuned (n : Nat) (a0 : List Str) (a1 : List Str) (a2 : List Road) (a3 : List Grand) (a4 : Int) (a5 : Int) (a6 : List (Int × List (Arr2_Str × Int))) (a7 : List Item) (a8 : Item) : Option Int :=
  (gcall (a8.Kind == (2 : Int)) (diary_plan_tuning n a0 a1 a2 a3 a4 a5 a6 a7 a8)).bind fun y1 =>
  bif (a8.Kind == (2 : Int)) && (decide (y1 < (0 : Int))) then
    some 26
  else
    some 0
def diary_plan_accept_2_L1 (n : Nat) (a0 : List Str) (a1 : List Str) (a2 : List Road) (a3 : List Grand) (a4 : Int) (a5 : Int) (a7 : List Item) (k1 : ((List (Int × List (Arr2_Str × Int))) → Option (Int × Int × (List (Int × List (Arr2_Str × Int)))))) (back : Int × (List (Int × List (Arr2_Str × Int))) → Option (Int × Int × (List (Int × List (Arr2_Str × Int))))) : Int × (List (Int × List (Arr2_Str × Int))) → Option (Int × Int × (List (Int × List (Arr2_Str × Int))))
  | (v6, v7) =>
  bif decide (v6 < ((a7.length : Nat) : Int)) then
    chk (inB v6 a7.length) <|
    chk (decide (v6.toNat < a7.length)) <|
    (diary_checkItem n (Diary.mk a0 a1 a2 a3 a4 a5) (ix a7 v6.toNat)).bind fun y8 =>
    bif (y8 != (0 : Int)) then
      some (v6, y8, v7)
    else
      chk (!(decide ((0 : Int) < v6)) || inI (v6 - 1)) <|
      chk (!(decide ((0 : Int) < v6)) || inB (v6 - 1) a7.length) <|
      chk (!(decide ((0 : Int) < v6)) || decide ((v6 - 1).toNat < a7.length)) <|
      bif (decide ((0 : Int) < v6)) && (decide (((ix a7 v6.toNat).From) < ((ix a7 ((v6 - 1).toNat)).From))) then
        some (v6, 9, v7)
      else
        chk (inC v6 a7.length) <|
        (diary_plan_changes n a0 a1 a2 a3 a4 a5 v7 (List.take v6.toNat a7) (ix a7 v6.toNat)).bind fun y9 =>
        bif (y9 != (0 : Int)) then
          some (v6, y9, v7)
        else
          (diary_plan_stands n a0 a1 a2 a3 a4 a5 v7 (List.take v6.toNat a7) (ix a7 v6.toNat)).bind fun y10 =>
          bif (y10.1 != (0 : Int)) then
            some (v6, y10.1, y10.2)
          else
            (diary_plan_travels n a0 a1 a2 a3 a4 a5 y10.2 (List.take v6.toNat a7) (ix a7 v6.toNat)).bind fun y11 =>
            bif (y11.1 != (0 : Int)) then
              some (v6, y11.1, y11.2)
            else
              (diary_plan_isTuned n a0 a1 a2 a3 a4 a5 y11.2 (List.take v6.toNat a7) (ix a7 v6.toNat)).bind fun y12 =>
              bif (y12 != (0 : Int)) then
                some (v6, y12, y11.2)
              else
                chk (inI (v6 + 1)) <|
                back (v6 + 1, y11.2)
  else
    k1 v7
def diary_plan_accept_2 (n : Nat) (a0 : List Str) (a1 : List Str) (a2 : List Road) (a3 : List Grand) (a4 : Int) (a5 : Int) (a6 : List (Int × List (Arr2_Str × Int))) (a7 : List Item) : Option (Int × Int × (List (Int × List (Arr2_Str × Int)))) :=
  bif decide (100 < a7.length) then
    some (0, 8, a6)
  else
    withK (fun (v13 : (List (Int × List (Arr2_Str × Int)))) =>
        some ((-1), 0, v13)) fun k1 =>
    loopN (diary_plan_accept_2_L1 n a0 a1 a2 a3 a4 a5 a7 k1) n (0, a6)
def diary_Accept (n : Nat) (a0 : Diary) (a1 : List Item) : Option (Int × Int) :=
  withK (fun (v4 : Int) =>
      bif (v4 != (0 : Int)) then
        some (v4, 0)
      else
        (diary_plan_accept n a1).bind fun y5 =>
        some (y5.2, y5.1)) fun k1 =>
  withK (fun (_ : Unit) =>
      (diary_plan_accept_2 n a0.Places a0.Technicians a0.Roads a0.Grands a0.Change a0.Lasts ([] : List (Int × List (Arr2_Str × Int))) a1).bind fun y6 =>
      some (y6.2.1, y6.1)) fun k2 =>
  (diary_open n a0).bind fun y1 =>
  match y1 with
  | .inl y1 =>
    k1 y1
  | .inr y1 =>
    k2 ()
def diary_read (n : Nat) (a0 : Diary) (a1 : List Item) : Option (Int ⊕ (Int × (List (Int × List (Arr2_Str × Int))))) :=
  withK (fun (v4 : Int) =>
      bif (v4 != (0 : Int)) then
        some (.inl v4)
      else
        (diary_plan_accept n a1).bind fun y5 =>
        some (.inl y5.2)) fun k1 =>
  withK (fun (_ : Unit) =>
      (diary_plan_accept_2 n a0.Places a0.Technicians a0.Roads a0.Grands a0.Change a0.Lasts ([] : List (Int × List (Arr2_Str × Int))) a1).bind fun y6 =>
      some (.inr (y6.2.1, y6.2.2))) fun k2 =>
  (diary_open n a0).bind fun y1 =>
  match y1 with
  | .inl y1 =>
    k1 y1
  | .inr y1 =>
    k2 ()
def slices_Sort_int (n : Nat) (a0 : List Int) : Option (List Int) :=
  chk (decide (a0.length < 4611686018427387904)) <|
  some (sortI a0)
def slices_Compact_int_L1 (a1 : Nat) (a2 : Nat) (v10 : Nat) (k2 : (Nat × (List Int) → Option (Nat × (List Int)))) (back : Nat × Nat × (List Int) → Option (Nat × (List Int))) : Nat × Nat × (List Int) → Option (Nat × (List Int))
  | (v13, v14, v15) =>
  bif decide (v14 < (a2 - v10)) then
    withK (fun (v16, v17) =>
        chk (nI (v14 + 1)) <|
        back (v16, v14 + 1, v17)) fun k1 =>
    chk (decide ((a1 + v10) + v14 < v15.length)) <|
    chk (inI (((v14 : Nat) : Int) - 1)) <|
    chk (inB (((v14 : Nat) : Int) - 1) (a2 - v10)) <|
    chk (decide ((a1 + v10) + ((((v14 : Nat) : Int) - 1).toNat) < v15.length)) <|
    bif ((ix v15 ((a1 + v10) + v14)) != (ix v15 ((a1 + v10) + ((((v14 : Nat) : Int) - 1).toNat)))) then
      chk (decide (v13 < a2)) <|
      chk (decide (a1 + v13 < v15.length)) <|
      chk (nI (v13 + 1)) <|
      k1 (v13 + 1, (List.set v15 (a1 + v13) (ix v15 ((a1 + v10) + v14))))
    else
      k1 (v13, v15)
  else
    k2 (v13, v15)
def slices_Compact_int_L2 (n : Nat) (a0 : List Int) (a1 : Nat) (a2 : Nat) (k3 : (Unit → Option (Nat × (List Int)))) (back : Nat → Option (Nat × (List Int))) : Nat → Option (Nat × (List Int))
  | v10 =>
  bif decide (v10 < a2) then
    chk (decide (a1 + v10 < a0.length)) <|
    chk (inI (((v10 : Nat) : Int) - 1)) <|
    chk (inB (((v10 : Nat) : Int) - 1) a2) <|
    chk (decide (a1 + ((((v10 : Nat) : Int) - 1).toNat) < a0.length)) <|
    bif ((ix a0 (a1 + v10)) == (ix a0 (a1 + ((((v10 : Nat) : Int) - 1).toNat)))) then
      withK (fun (v18, v19) =>
          chk (decide (v18 < a2)) <|
          chk (decide (0 < (a2 - v18))) <|
          chk (decide ((a1 + v18) + (a2 - v18) ≤ v19.length)) <|
          chk (decide (a1 + v18 ≤ (clrP v19 (a1 + v18) (a2 - v18) (0 : Int)).length)) <|
          chk (decide (v18 ≤ a2)) <|
          some (v18, (clrP v19 (a1 + v18) (a2 - v18) (0 : Int)))) fun k2 =>
      loopN (slices_Compact_int_L1 a1 a2 v10 k2) n (v10, 1, a0)
    else
      chk (nI (v10 + 1)) <|
      back (v10 + 1)
  else
    k3 ()
def slices_Compact_int (n : Nat) (a0 : List Int) (a1 : Nat) (a2 : Nat) : Option (Nat × (List Int)) :=
  bif decide (a2 < 2) then
    some (a2, a0)
  else
    withK (fun (_ : Unit) =>
        some (a2, a0)) fun k3 =>
    loopN (slices_Compact_int_L2 n a0 a1 a2 k3) n 1
def slices_Clone_Item (n : Nat) (a0 : List Item) : Option (List Item) :=
  nilK (a0.isEmpty) fun b1 =>
  bif b1 then
    some ([] : List Item)
  else
    chk (room 80 a0.length) <|
    some a0
def slices_Insert_Item (n : Nat) (a0 : List Item) (a1 : Int) (a2 : List Item) : Option (List Item) :=
  chk (inC a1 a0.length) <|
  chk (decide (a2.length = 1)) <|
  chk (room 80 (a0.length + 1)) <|
  some (insL a0 a1.toNat (ix a2 0))
def diary_plan_add_L1 (a0 : List Item) (a1 : Item) (k1 : (Nat → Option (Int × (List Item)))) (back : Nat → Option (Int × (List Item))) : Nat → Option (Int × (List Item))
  | v1 =>
  bif (decide (v1 < a0.length)) && (decide (((ix a0 v1).From) ≤ a1.From)) then
    chk (nI (v1 + 1)) <|
    back (v1 + 1)
  else
    k1 v1
def diary_plan_add (n : Nat) (a0 : List Item) (a1 : Item) : Option (Int × (List Item)) :=
  withK (fun (v2 : Nat) =>
      (slices_Clone_Item n a0).bind fun y3 =>
      (slices_Insert_Item n y3 ((v2 : Nat) : Int) ([a1] : List Item)).bind fun y4 =>
      (diary_plan_accept n y4).bind fun y5 =>
      bif (y5.2 != (0 : Int)) then
        some (y5.2, ([] : List Item))
      else
        some (0, y4)) fun k1 =>
  loopN (diary_plan_add_L1 a0 a1 k1) n 0
def diary_plan_add_2_L1 (a7 : List Item) (a8 : Item) (k1 : (Nat → Option (Int × (List (Int × List (Arr2_Str × Int))) × (List Item)))) (back : Nat → Option (Int × (List (Int × List (Arr2_Str × Int))) × (List Item))) : Nat → Option (Int × (List (Int × List (Arr2_Str × Int))) × (List Item))
  | v1 =>
  bif (decide (v1 < a7.length)) && (decide (((ix a7 v1).From) ≤ a8.From)) then
    chk (nI (v1 + 1)) <|
    back (v1 + 1)
  else
    k1 v1
def diary_plan_add_2 (n : Nat) (a0 : List Str) (a1 : List Str) (a2 : List Road) (a3 : List Grand) (a4 : Int) (a5 : Int) (a6 : List (Int × List (Arr2_Str × Int))) (a7 : List Item) (a8 : Item) : Option (Int × (List (Int × List (Arr2_Str × Int))) × (List Item)) :=
  withK (fun (v2 : Nat) =>
      (slices_Clone_Item n a7).bind fun y3 =>
      (slices_Insert_Item n y3 ((v2 : Nat) : Int) ([a8] : List Item)).bind fun y4 =>
      (diary_plan_accept_2 n a0 a1 a2 a3 a4 a5 a6 y4).bind fun y5 =>
      bif (y5.2.1 != (0 : Int)) then
        some (y5.2.1, y5.2.2, ([] : List Item))
      else
        some (0, y5.2.2, y4)) fun k1 =>
  loopN (diary_plan_add_2_L1 a7 a8 k1) n 0
def diary_FreeFrom_L2 (n : Nat) (a1 : List Item) (a2 : Item) (y7 : Nat × (List Int)) (k4 : (Unit → Option (Int × Int))) (back : Nat → Option (Int × Int)) : Nat → Option (Int × Int)
  | v9 =>
  bif decide (v9 < y7.1) then
    withK (fun (_ : Unit) =>
        chk (nI (v9 + 1)) <|
        back (v9 + 1)) fun k3 =>
    chk (decide (v9 < y7.2.length)) <|
    chk (!(!(decide ((ix y7.2 v9) < a2.From))) || inI ((ix y7.2 v9) + (a2.To - a2.From))) <|
    bif (decide ((ix y7.2 v9) < a2.From)) || (decide ((1000000 : Int) < ((ix y7.2 v9) + (a2.To - a2.From)))) then
      k3 ()
    else
      chk (inI ((ix y7.2 v9) + (a2.To - a2.From))) <|
      (diary_plan_add n a1 (Item.mk a2.Kind (ix y7.2 v9) ((ix y7.2 v9) + (a2.To - a2.From)) a2.Grand a2.Place a2.Who a2.Deposit)).bind fun y10 =>
      bif (y10.1 == (0 : Int)) then
        some (0, (ix y7.2 v9))
      else
        k3 ()
  else
    k4 ()
def diary_FreeFrom_L1 (a0 : Diary) (a1 : List Item) (a2 : Item) (k2 : (Unit → Option (Int × Int))) (back : Unit → Option (Int × Int)) : Unit → Option (Int × Int)
  | _ =>
  bif decide (0 < a1.length) then
    chk (inI (((ix a1 0).To) + a0.Change)) <|
    chk (room 8 (([a2.From] : List Int) ++ ([(ix a1 0).From, (ix a1 0).To, ((ix a1 0).To) + a0.Change] : List Int)).length) <|
    none
  else
    k2 ()
def diary_FreeFrom_L4 (n : Nat) (a0 : Diary) (a1 : List Item) (a2 : Item) (y26 : Nat × (List Int)) (k9 : (Unit → Option (Int × Int))) (back : Nat × (List (Int × List (Arr2_Str × Int))) → Option (Int × Int)) : Nat × (List (Int × List (Arr2_Str × Int))) → Option (Int × Int)
  | (v29, v30) =>
  bif decide (v29 < y26.1) then
    withK (fun (v32 : (List (Int × List (Arr2_Str × Int)))) =>
        chk (nI (v29 + 1)) <|
        back (v29 + 1, v32)) fun k8 =>
    chk (decide (v29 < y26.2.length)) <|
    chk (!(!(decide ((ix y26.2 v29) < a2.From))) || inI ((ix y26.2 v29) + (a2.To - a2.From))) <|
    bif (decide ((ix y26.2 v29) < a2.From)) || (decide ((1000000 : Int) < ((ix y26.2 v29) + (a2.To - a2.From)))) then
      k8 v30
    else
      chk (inI ((ix y26.2 v29) + (a2.To - a2.From))) <|
      (diary_plan_add_2 n a0.Places a0.Technicians a0.Roads a0.Grands a0.Change a0.Lasts v30 a1 (Item.mk a2.Kind (ix y26.2 v29) ((ix y26.2 v29) + (a2.To - a2.From)) a2.Grand a2.Place a2.Who a2.Deposit)).bind fun y31 =>
      bif (y31.1 == (0 : Int)) then
        some (0, (ix y26.2 v29))
      else
        k8 y31.2.1
  else
    k9 ()
def diary_FreeFrom_L3 (n : Nat) (a0 : Diary) (a1 : List Item) (a2 : Item) (k7 : ((List Int) × (List (Int × List (Arr2_Str × Int))) → Option (Int × Int))) (back : Nat × (List Int) × (List (Int × List (Arr2_Str × Int))) → Option (Int × Int)) : Nat × (List Int) × (List (Int × List (Arr2_Str × Int))) → Option (Int × Int)
  | (v17, v18, v19) =>
  bif decide (v17 < a1.length) then
    withK (fun (v21, v22) =>
        chk (nI (v17 + 1)) <|
        back (v17 + 1, v21, v22)) fun k6 =>
    chk (inI (((ix a1 v17).To) + a0.Change)) <|
    chk (room 8 (v18 ++ ([(ix a1 v17).From, (ix a1 v17).To, ((ix a1 v17).To) + a0.Change] : List Int)).length) <|
    (diary_plan_distance n a0.Places a0.Technicians a0.Roads a0.Grands a0.Change a0.Lasts v19 ((ix a1 v17).Place) a2.Place 1).bind fun y20 =>
    bif y20.2.1 then
      chk (inI (((ix a1 v17).To) + y20.1)) <|
      chk (room 8 ((v18 ++ ([(ix a1 v17).From, (ix a1 v17).To, ((ix a1 v17).To) + a0.Change] : List Int)) ++ ([((ix a1 v17).To) + y20.1] : List Int)).length) <|
      k6 (((v18 ++ ([(ix a1 v17).From, (ix a1 v17).To, ((ix a1 v17).To) + a0.Change] : List Int)) ++ ([((ix a1 v17).To) + y20.1] : List Int)), y20.2.2)
    else
      k6 ((v18 ++ ([(ix a1 v17).From, (ix a1 v17).To, ((ix a1 v17).To) + a0.Change] : List Int)), y20.2.2)
  else
    k7 (v18, v19)
def diary_FreeFrom (n : Nat) (a0 : Diary) (a1 : List Item) (a2 : Item) : Option (Int × Int) :=
  withK (fun (v4 : Int) =>
      bif (v4 != (0 : Int)) then
        some (v4, 0)
      else
        bif decide (100 ≤ a1.length) then
          some (8, 0)
        else
          (diary_checkItem n a0 a2).bind fun y5 =>
          bif (y5 != (0 : Int)) then
            some (y5, 0)
          else
            withK (fun (_ : Unit) =>
                (slices_Sort_int n ([a2.From] : List Int)).bind fun y6 =>
                chk (inI (a2.To - a2.From)) <|
                withK (fun (_ : Unit) =>
                    some (12, 0)) fun k4 =>
                (slices_Compact_int n y6 0 1).bind fun y7 =>
                loopN (diary_FreeFrom_L2 n a1 a2 y7 k4) n 0) fun k2 =>
            loopN (diary_FreeFrom_L1 a0 a1 a2 k2) n ()) fun k1 =>
  withK (fun (v11, v12) =>
      bif (v11 != (0 : Int)) then
        some (v11, 0)
      else
        bif decide (100 ≤ a1.length) then
          some (8, 0)
        else
          (diary_checkItem n a0 a2).bind fun y13 =>
          bif (y13 != (0 : Int)) then
            some (y13, 0)
          else
            withK (fun (v23, v24) =>
                (slices_Sort_int n v23).bind fun y25 =>
                chk (decide (v23.length = y25.length)) <|
                chk (inI (a2.To - a2.From)) <|
                withK (fun (_ : Unit) =>
                    some (12, 0)) fun k9 =>
                (slices_Compact_int n y25 0 y25.length).bind fun y26 =>
                chk (decide (y25.length = y26.2.length)) <|
                loopN (diary_FreeFrom_L4 n a0 a1 a2 y26 k9) n (0, v24)) fun k7 =>
            loopN (diary_FreeFrom_L3 n a0 a1 a2 k7) n (0, ([a2.From] : List Int), v12)) fun k5 =>
  (diary_read n a0 a1).bind fun y1 =>
  match y1 with
  | .inl y1 =>
    k1 y1
  | .inr y1 =>
    k5 (y1.1, y1.2)
def diary_CheckWindows_L1 (n : Nat) (a0 : List Window) (k1 : (Unit → Option Int)) (back : Nat → Option Int) : Nat → Option Int
  | v3 =>
  bif decide (v3 < a0.length) then
    (diary_within n ((ix a0 v3).From) 0 1000).bind fun y4 =>
    (gcall (!(!((decide (0 ≤ ((ix a0 v3).From))) && (decide (((ix a0 v3).From) ≤ 1000))))) (diary_within n ((ix a0 v3).To) 0 1000)).bind fun y5 =>
    bif (!((decide (0 ≤ ((ix a0 v3).From))) && (decide (((ix a0 v3).From) ≤ 1000)))) || (!((decide (0 ≤ ((ix a0 v3).To))) && (decide (((ix a0 v3).To) ≤ 1000)))) then
      some 2
    else
      bif decide (((ix a0 v3).To) ≤ ((ix a0 v3).From)) then
        some 9
      else
        chk (nI (v3 + 1)) <|
        back (v3 + 1)
  else
    k1 ()
def diary_CheckWindows (n : Nat) (a0 : List Window) : Option Int :=
  bif decide (60 < a0.length) then
    some 8
  else
    withK (fun (_ : Unit) =>
        some 0) fun k1 =>
    loopN (diary_CheckWindows_L1 n a0 k1) n 0
def math_bits_Mul64 (n : Nat) (a0 : Int) (a1 : Int) : Option Unit :=
  some ()
def math_bits_Mul (n : Nat) (a0 : Int) (a1 : Int) : Option Unit :=
  (math_bits_Mul64 n a0 a1).bind fun y1 =>
  some ()
def slices_Repeat_int_L1 (a0 : List Int) (a1 : Int) (k1 : ((List Int) → Option (List Int))) (back : Nat × (List Int) → Option (List Int)) : Nat × (List Int) → Option (List Int)
  | (v2, v3) =>
  bif decide (v2 < ((List.replicate ((IntKind.u64.wrap ((IntKind.u64.wrap ((a0.length : Nat) : Int)) * (IntKind.u64.wrap a1))).toNat) (0 : Int)).length)) then
    chk (decide (v2 ≤ ((List.replicate ((IntKind.u64.wrap ((IntKind.u64.wrap ((a0.length : Nat) : Int)) * (IntKind.u64.wrap a1))).toNat) (0 : Int)).length))) <|
    chk (decide (v2 + (((List.replicate ((IntKind.u64.wrap ((IntKind.u64.wrap ((a0.length : Nat) : Int)) * (IntKind.u64.wrap a1))).toNat) (0 : Int)).length) - v2) ≤ v3.length)) <|
    chk (decide (0 + v2 ≤ v3.length)) <|
    chk (nI (v2 + (Nat.min (List.take v2 (List.drop 0 v3)).length (((List.replicate ((IntKind.u64.wrap ((IntKind.u64.wrap ((a0.length : Nat) : Int)) * (IntKind.u64.wrap a1))).toNat) (0 : Int)).length) - v2)))) <|
    back (v2 + (Nat.min (List.take v2 (List.drop 0 v3)).length (((List.replicate ((IntKind.u64.wrap ((IntKind.u64.wrap ((a0.length : Nat) : Int)) * (IntKind.u64.wrap a1))).toNat) (0 : Int)).length) - v2)), (cpyP v3 v2 (List.take (Nat.min (List.take v2 (List.drop 0 v3)).length (((List.replicate ((IntKind.u64.wrap ((IntKind.u64.wrap ((a0.length : Nat) : Int)) * (IntKind.u64.wrap a1))).toNat) (0 : Int)).length) - v2)) (List.take v2 (List.drop 0 v3)))))
  else
    k1 v3
def slices_Repeat_int (n : Nat) (a0 : List Int) (a1 : Int) : Option (List Int) :=
  bif decide (a1 < (0 : Int)) then
    none
  else
    (math_bits_Mul n (IntKind.u64.wrap ((a0.length : Nat) : Int)) (IntKind.u64.wrap a1)).bind fun y1 =>
    bif (decide ((0 : Int) < (IntKind.u64.wrap ((IntKind.u64.wrap ((IntKind.u64.wrap ((Int.fdiv (IntKind.u64.wrap ((a0.length : Nat) : Int)) (2 ^ (min 32 64))) * (Int.fdiv (IntKind.u64.wrap a1) (2 ^ (min 32 64))))) + (Int.fdiv (IntKind.u64.wrap ((IntKind.u64.wrap ((Int.fdiv (IntKind.u64.wrap ((a0.length : Nat) : Int)) (2 ^ (min 32 64))) * (iAnd .u64 (IntKind.u64.wrap a1) 4294967295))) + (Int.fdiv (IntKind.u64.wrap ((iAnd .u64 (IntKind.u64.wrap ((a0.length : Nat) : Int)) 4294967295) * (iAnd .u64 (IntKind.u64.wrap a1) 4294967295))) (2 ^ (min 32 64))))) (2 ^ (min 32 64))))) + (Int.fdiv (IntKind.u64.wrap ((iAnd .u64 (IntKind.u64.wrap ((IntKind.u64.wrap ((Int.fdiv (IntKind.u64.wrap ((a0.length : Nat) : Int)) (2 ^ (min 32 64))) * (iAnd .u64 (IntKind.u64.wrap a1) 4294967295))) + (Int.fdiv (IntKind.u64.wrap ((iAnd .u64 (IntKind.u64.wrap ((a0.length : Nat) : Int)) 4294967295) * (iAnd .u64 (IntKind.u64.wrap a1) 4294967295))) (2 ^ (min 32 64))))) 4294967295) + (IntKind.u64.wrap ((iAnd .u64 (IntKind.u64.wrap ((a0.length : Nat) : Int)) 4294967295) * (Int.fdiv (IntKind.u64.wrap a1) (2 ^ (min 32 64))))))) (2 ^ (min 32 64))))))) || (decide ((9223372036854775807 : Int) < (IntKind.u64.wrap ((IntKind.u64.wrap ((a0.length : Nat) : Int)) * (IntKind.u64.wrap a1))))) then
      none
    else
      chk (inI (IntKind.u64.wrap ((IntKind.u64.wrap ((a0.length : Nat) : Int)) * (IntKind.u64.wrap a1)))) <|
      chk (decide (0 ≤ (IntKind.u64.wrap ((IntKind.u64.wrap ((a0.length : Nat) : Int)) * (IntKind.u64.wrap a1))))) <|
      chk (mkroom 8 ((IntKind.u64.wrap ((IntKind.u64.wrap ((a0.length : Nat) : Int)) * (IntKind.u64.wrap a1))).toNat)) <|
      chk (decide (0 + ((List.replicate ((IntKind.u64.wrap ((IntKind.u64.wrap ((a0.length : Nat) : Int)) * (IntKind.u64.wrap a1))).toNat) (0 : Int)).length) ≤ (List.replicate ((IntKind.u64.wrap ((IntKind.u64.wrap ((a0.length : Nat) : Int)) * (IntKind.u64.wrap a1))).toNat) (0 : Int)).length)) <|
      chk (decide (0 + a0.length ≤ a0.length)) <|
      withK (fun (v4 : (List Int)) =>
          some v4) fun k1 =>
      loopN (slices_Repeat_int_L1 a0 a1 k1) n (Nat.min (List.take a0.length (List.drop 0 a0)).length ((List.replicate ((IntKind.u64.wrap ((IntKind.u64.wrap ((a0.length : Nat) : Int)) * (IntKind.u64.wrap a1))).toNat) (0 : Int)).length), (cpyP (List.replicate ((IntKind.u64.wrap ((IntKind.u64.wrap ((a0.length : Nat) : Int)) * (IntKind.u64.wrap a1))).toNat) (0 : Int)) 0 (List.take (Nat.min (List.take a0.length (List.drop 0 a0)).length ((List.replicate ((IntKind.u64.wrap ((IntKind.u64.wrap ((a0.length : Nat) : Int)) * (IntKind.u64.wrap a1))).toNat) (0 : Int)).length)) (List.take a0.length (List.drop 0 a0)))))
def diary_schedule_L1 (a0 : List Window) (v8 : Nat) (v9 : List Int) (k2 : (Int → Option (List Int))) (back : Int × Nat → Option (List Int)) : Int × Nat → Option (List Int)
  | (v11, v12) =>
  bif decide (v12 < a0.length) then
    withK (fun (v13 : Int) =>
        chk (nI (v12 + 1)) <|
        back (v13, v12 + 1)) fun k1 =>
    chk (decide (v12 < ((List.replicate ((IntKind.u64.wrap ((IntKind.u64.wrap ((([(-1)] : List Int).length : Nat) : Int)) * (IntKind.u64.wrap ((a0.length : Nat) : Int)))).toNat) (0 : Int)).length))) <|
    chk (decide (v12 < v9.length)) <|
    chk (!((((decide ((ix v9 v12) < (0 : Int))) && (decide (((ix a0 v12).From) ≤ ((v8 : Nat) : Int)))) && (decide (((v8 : Nat) : Int) < ((ix a0 v12).To)))) && !(decide (v11 < (0 : Int)))) || inB v11 a0.length) <|
    chk (!((((decide ((ix v9 v12) < (0 : Int))) && (decide (((ix a0 v12).From) ≤ ((v8 : Nat) : Int)))) && (decide (((v8 : Nat) : Int) < ((ix a0 v12).To)))) && !(decide (v11 < (0 : Int)))) || decide (v11.toNat < a0.length)) <|
    bif (((decide ((ix v9 v12) < (0 : Int))) && (decide (((ix a0 v12).From) ≤ ((v8 : Nat) : Int)))) && (decide (((v8 : Nat) : Int) < ((ix a0 v12).To)))) && ((decide (v11 < (0 : Int))) || (decide (((ix a0 v12).To) < ((ix a0 v11.toNat).To)))) then
      k1 ((v12 : Nat) : Int)
    else
      k1 v11
  else
    k2 v11
def diary_schedule_L2 (n : Nat) (a0 : List Window) (k4 : ((List Int) → Option (List Int))) (back : Nat × (List Int) → Option (List Int)) : Nat × (List Int) → Option (List Int)
  | (v8, v9) =>
  bif decide (v8 < 1000) then
    withK (fun (v15 : (List Int)) =>
        chk (nI (v8 + 1)) <|
        back (v8 + 1, v15)) fun k3 =>
    withK (fun (v14 : Int) =>
        bif decide ((0 : Int) ≤ v14) then
          chk (inB v14 ((List.replicate ((IntKind.u64.wrap ((IntKind.u64.wrap ((([(-1)] : List Int).length : Nat) : Int)) * (IntKind.u64.wrap ((a0.length : Nat) : Int)))).toNat) (0 : Int)).length)) <|
          chk (decide (v14.toNat < v9.length)) <|
          k3 (List.set v9 v14.toNat ((v8 : Nat) : Int))
        else
          k3 v9) fun k2 =>
    loopN (diary_schedule_L1 a0 v8 v9 k2) n ((-1), 0)
  else
    k4 v9
def diary_schedule (n : Nat) (a0 : List Window) : Option (List Int) :=
  (slices_Repeat_int n ([(-1)] : List Int) ((a0.length : Nat) : Int)).bind fun y1 =>
  withK (fun (v16 : (List Int)) =>
      some v16) fun k4 =>
  loopN (diary_schedule_L2 n a0 k4) n (0, y1)
def diary_Most (n : Nat) (a0 : List Window) : Option (Int ⊕ (List Int)) :=
  (diary_CheckWindows n a0).bind fun y1 =>
  bif (y1 != (0 : Int)) then
    some (.inl y1)
  else
    (diary_schedule n a0).bind fun y2 =>
    some (.inr y2)
def agraffebase_Ints_L1 (a0 : List Int) (a1 : List Int) (k1 : (Unit → Option Bool)) (back : Nat → Option Bool) : Nat → Option Bool
  | v1 =>
  bif decide (v1 < a0.length) then
    chk (decide (v1 < a1.length)) <|
    bif ((ix a0 v1) != (ix a1 v1)) then
      some false
    else
      chk (nI (v1 + 1)) <|
      back (v1 + 1)
  else
    k1 ()
def agraffebase_Ints (n : Nat) (a0 : List Int) (a1 : List Int) : Option Bool :=
  bif !decide (a0.length = a1.length) then
    some false
  else
    withK (fun (_ : Unit) =>
        some true) fun k1 =>
    loopN (agraffebase_Ints_L1 a0 a1 k1) n 0
def agraffebase_Ints_2_L1 (a0 : List Int) (a1 : Nat) (a2 : Nat) (a3 : List Int) (k1 : (Unit → Option Bool)) (back : Nat → Option Bool) : Nat → Option Bool
  | v1 =>
  bif decide (v1 < a2) then
    chk (decide (a1 + v1 < a0.length)) <|
    chk (decide (v1 < a3.length)) <|
    bif ((ix a0 (a1 + v1)) != (ix a3 v1)) then
      some false
    else
      chk (nI (v1 + 1)) <|
      back (v1 + 1)
  else
    k1 ()
def agraffebase_Ints_2 (n : Nat) (a0 : List Int) (a1 : Nat) (a2 : Nat) (a3 : List Int) : Option Bool :=
  bif !decide (a2 = a3.length) then
    some false
  else
    withK (fun (_ : Unit) =>
        some true) fun k1 =>
    loopN (agraffebase_Ints_2_L1 a0 a1 a2 a3 k1) n 0
def agraffelaw09_awake (n : Nat)  : Option Bool :=
  (agraffelaw09_Town n).bind fun y1 =>
  (diary_Distances n (Diary.mk ([([115, 104, 111, 112] : Str), ([104, 97, 108, 108] : Str), ([104, 111, 109, 101] : Str)] : List Str) ([([97, 110, 110] : Str), ([98, 111, 98] : Str)] : List Str) ([(Road.mk ([115, 104, 111, 112] : Str) ([104, 97, 108, 108] : Str) 30 200), (Road.mk ([104, 97, 108, 108] : Str) ([104, 111, 109, 101] : Str) 20 100), (Road.mk ([115, 104, 111, 112] : Str) ([104, 111, 109, 101] : Str) 60 150)] : List Road) ([(Grand.mk ([103] : Str) ([115, 104, 111, 112] : Str) 150), (Grand.mk ([117] : Str) ([104, 111, 109, 101] : Str) 100)] : List Grand) 10 300) ([115, 104, 111, 112] : Str) 100).bind fun y2 =>
  (agraffelaw09_Town n).bind fun y3 =>
  (agraffelaw09_Evening n).bind fun y4 =>
  (diary_Accept n (Diary.mk ([([115, 104, 111, 112] : Str), ([104, 97, 108, 108] : Str), ([104, 111, 109, 101] : Str)] : List Str) ([([97, 110, 110] : Str), ([98, 111, 98] : Str)] : List Str) ([(Road.mk ([115, 104, 111, 112] : Str) ([104, 97, 108, 108] : Str) 30 200), (Road.mk ([104, 97, 108, 108] : Str) ([104, 111, 109, 101] : Str) 20 100), (Road.mk ([115, 104, 111, 112] : Str) ([104, 111, 109, 101] : Str) 60 150)] : List Road) ([(Grand.mk ([103] : Str) ([115, 104, 111, 112] : Str) 150), (Grand.mk ([117] : Str) ([104, 111, 109, 101] : Str) 100)] : List Grand) 10 300) ([(Item.mk 1 0 40 ([103] : Str) ([104, 97, 108, 108] : Str) ([] : Str) 0), (Item.mk 0 50 110 ([103] : Str) ([104, 97, 108, 108] : Str) ([97, 110, 110] : Str) 0), (Item.mk 2 200 300 ([103] : Str) ([104, 97, 108, 108] : Str) ([] : Str) 0)] : List Item)).bind fun y5 =>
  (agraffelaw09_Town n).bind fun y6 =>
  (agraffelaw09_Evening n).bind fun y7 =>
  (diary_FreeFrom n (Diary.mk ([([115, 104, 111, 112] : Str), ([104, 97, 108, 108] : Str), ([104, 111, 109, 101] : Str)] : List Str) ([([97, 110, 110] : Str), ([98, 111, 98] : Str)] : List Str) ([(Road.mk ([115, 104, 111, 112] : Str) ([104, 97, 108, 108] : Str) 30 200), (Road.mk ([104, 97, 108, 108] : Str) ([104, 111, 109, 101] : Str) 20 100), (Road.mk ([115, 104, 111, 112] : Str) ([104, 111, 109, 101] : Str) 60 150)] : List Road) ([(Grand.mk ([103] : Str) ([115, 104, 111, 112] : Str) 150), (Grand.mk ([117] : Str) ([104, 111, 109, 101] : Str) 100)] : List Grand) 10 300) ([(Item.mk 1 0 40 ([103] : Str) ([104, 97, 108, 108] : Str) ([] : Str) 0), (Item.mk 0 50 110 ([103] : Str) ([104, 97, 108, 108] : Str) ([97, 110, 110] : Str) 0), (Item.mk 2 200 300 ([103] : Str) ([104, 97, 108, 108] : Str) ([] : Str) 0)] : List Item) (Item.mk 0 120 180 ([117] : Str) ([104, 111, 109, 101] : Str) ([97, 110, 110] : Str) 0)).bind fun y8 =>
  withK (fun (v12 : Int) =>
      withK (fun (v16 : Bool) =>
          some v16) fun k2 =>
      bif (y2.1 == (0 : Int)) then
        (agraffebase_Ints n y2.2 ([0, 30, 50] : List Int)).bind fun y13 =>
        bif ((((((y2.1 == (0 : Int)) && y13) && (y5.1 == (0 : Int))) && (y5.2 == ((-1) : Int))) && (y8.1 == (0 : Int))) && (y8.2 == (130 : Int))) && (v12 == (0 : Int)) then
          (agraffebase_Ints n ([] : List Int) ([0, 1, 2, (-1)] : List Int)).bind fun y14 =>
          k2 ((((((((y2.1 == (0 : Int)) && y13) && (y5.1 == (0 : Int))) && (y5.2 == ((-1) : Int))) && (y8.1 == (0 : Int))) && (y8.2 == (130 : Int))) && (v12 == (0 : Int))) && y14)
        else
          k2 ((((((((y2.1 == (0 : Int)) && y13) && (y5.1 == (0 : Int))) && (y5.2 == ((-1) : Int))) && (y8.1 == (0 : Int))) && (y8.2 == (130 : Int))) && (v12 == (0 : Int))) && false)
      else
        bif ((((((y2.1 == (0 : Int)) && false) && (y5.1 == (0 : Int))) && (y5.2 == ((-1) : Int))) && (y8.1 == (0 : Int))) && (y8.2 == (130 : Int))) && (v12 == (0 : Int)) then
          (agraffebase_Ints n ([] : List Int) ([0, 1, 2, (-1)] : List Int)).bind fun y15 =>
          k2 ((((((((y2.1 == (0 : Int)) && false) && (y5.1 == (0 : Int))) && (y5.2 == ((-1) : Int))) && (y8.1 == (0 : Int))) && (y8.2 == (130 : Int))) && (v12 == (0 : Int))) && y15)
        else
          k2 ((((((((y2.1 == (0 : Int)) && false) && (y5.1 == (0 : Int))) && (y5.2 == ((-1) : Int))) && (y8.1 == (0 : Int))) && (y8.2 == (130 : Int))) && (v12 == (0 : Int))) && false)) fun k1 =>
  withK (fun (v17 : (List Int)) =>
      withK (fun (v21 : Bool) =>
          some v21) fun k4 =>
      bif (y2.1 == (0 : Int)) then
        (agraffebase_Ints n y2.2 ([0, 30, 50] : List Int)).bind fun y18 =>
        bif ((((((y2.1 == (0 : Int)) && y18) && (y5.1 == (0 : Int))) && (y5.2 == ((-1) : Int))) && (y8.1 == (0 : Int))) && (y8.2 == (130 : Int))) && true then
          (agraffebase_Ints_2 n v17 0 ((List.replicate ((IntKind.u64.wrap ((IntKind.u64.wrap ((([(-1)] : List Int).length : Nat) : Int)) * (IntKind.u64.wrap ((([(Window.mk 0 2), (Window.mk 0 2), (Window.mk 1 3), (Window.mk 2 3)] : List Window).length : Nat) : Int)))).toNat) (0 : Int)).length) ([0, 1, 2, (-1)] : List Int)).bind fun y19 =>
          k4 ((((((((y2.1 == (0 : Int)) && y18) && (y5.1 == (0 : Int))) && (y5.2 == ((-1) : Int))) && (y8.1 == (0 : Int))) && (y8.2 == (130 : Int))) && true) && y19)
        else
          k4 ((((((((y2.1 == (0 : Int)) && y18) && (y5.1 == (0 : Int))) && (y5.2 == ((-1) : Int))) && (y8.1 == (0 : Int))) && (y8.2 == (130 : Int))) && true) && false)
      else
        bif ((((((y2.1 == (0 : Int)) && false) && (y5.1 == (0 : Int))) && (y5.2 == ((-1) : Int))) && (y8.1 == (0 : Int))) && (y8.2 == (130 : Int))) && true then
          (agraffebase_Ints_2 n v17 0 ((List.replicate ((IntKind.u64.wrap ((IntKind.u64.wrap ((([(-1)] : List Int).length : Nat) : Int)) * (IntKind.u64.wrap ((([(Window.mk 0 2), (Window.mk 0 2), (Window.mk 1 3), (Window.mk 2 3)] : List Window).length : Nat) : Int)))).toNat) (0 : Int)).length) ([0, 1, 2, (-1)] : List Int)).bind fun y20 =>
          k4 ((((((((y2.1 == (0 : Int)) && false) && (y5.1 == (0 : Int))) && (y5.2 == ((-1) : Int))) && (y8.1 == (0 : Int))) && (y8.2 == (130 : Int))) && true) && y20)
        else
          k4 ((((((((y2.1 == (0 : Int)) && false) && (y5.1 == (0 : Int))) && (y5.2 == ((-1) : Int))) && (y8.1 == (0 : Int))) && (y8.2 == (130 : Int))) && true) && false)) fun k3 =>
  (diary_Most n ([(Window.mk 0 2), (Window.mk 0 2), (Window.mk 1 3), (Window.mk 2 3)] : List Window)).bind fun y9 =>
  match y9 with
  | .inl y9 =>
    k1 y9
  | .inr y9 =>
    k3 y9
def agraffebase_Within (n : Nat) (a0 : Int) (a1 : Int) (a2 : Int) : Option Unit :=
  some ()
def agraffelaw09_windows (n : Nat) (a0 : List Window) : Option Unit :=
  chk (room 16 a0.length) <|
  some ()
def slices_Index_int_L1 (a0 : List Int) (a1 : Int) (k1 : (Unit → Option Int)) (back : Nat → Option Int) : Nat → Option Int
  | v1 =>
  bif decide (v1 < a0.length) then
    bif (a1 == (ix a0 v1)) then
      some ((v1 : Nat) : Int)
    else
      chk (nI (v1 + 1)) <|
      back (v1 + 1)
  else
    k1 ()
def slices_Index_int (n : Nat) (a0 : List Int) (a1 : Int) : Option Int :=
  withK (fun (_ : Unit) =>
      some (-1)) fun k1 =>
  loopN (slices_Index_int_L1 a0 a1 k1) n 0
def slices_Contains_int (n : Nat) (a0 : List Int) (a1 : Int) : Option Bool :=
  (slices_Index_int n a0 a1).bind fun y1 =>
  some (decide ((0 : Int) ≤ y1))
def slices_Index_int_2_L1 (a0 : List Int) (a1 : Nat) (a2 : Nat) (a3 : Int) (k1 : (Unit → Option Int)) (back : Nat → Option Int) : Nat → Option Int
  | v1 =>
  bif decide (v1 < a2) then
    chk (decide (a1 + v1 < a0.length)) <|
    bif (a3 == (ix a0 (a1 + v1))) then
      some ((v1 : Nat) : Int)
    else
      chk (nI (v1 + 1)) <|
      back (v1 + 1)
  else
    k1 ()
def slices_Index_int_2 (n : Nat) (a0 : List Int) (a1 : Nat) (a2 : Nat) (a3 : Int) : Option Int :=
  withK (fun (_ : Unit) =>
      some (-1)) fun k1 =>
  loopN (slices_Index_int_2_L1 a0 a1 a2 a3 k1) n 0
def slices_Contains_int_2 (n : Nat) (a0 : List Int) (a1 : Nat) (a2 : Nat) (a3 : Int) : Option Bool :=
  (slices_Index_int_2 n a0 a1 a2 a3).bind fun y1 =>
  some (decide ((0 : Int) ≤ y1))
def diary_Slots (n : Nat) (a0 : List Window) : Option (Int ⊕ (List Int)) :=
  withK (fun (v4 : Int) =>
      bif (v4 != (0 : Int)) then
        some (.inl v4)
      else
        (slices_Contains_int n ([] : List Int) (-1)).bind fun y5 =>
        bif y5 then
          some (.inl 16)
        else
          some (.inl 0)) fun k1 =>
  withK (fun (v6 : (List Int)) =>
      (slices_Contains_int_2 n v6 0 ((List.replicate ((IntKind.u64.wrap ((IntKind.u64.wrap ((([(-1)] : List Int).length : Nat) : Int)) * (IntKind.u64.wrap ((a0.length : Nat) : Int)))).toNat) (0 : Int)).length) (-1)).bind fun y7 =>
      bif y7 then
        some (.inl 16)
      else
        some (.inr v6)) fun k2 =>
  (diary_Most n a0).bind fun y1 =>
  match y1 with
  | .inl y1 =>
    k1 y1
  | .inr y1 =>
    k2 y1
def diary_Crowd_f1 (n : Nat) (a0 : Window) (a1 : Int) : Option Unit :=
  some ()
def slices_IndexFunc_Window_L1 (n : Nat) (a0 : List Window) (a1 : Int) (k1 : (Unit → Option Int)) (back : Nat → Option Int) : Nat → Option Int
  | v2 =>
  bif decide (v2 < a0.length) then
    (diary_Crowd_f1 n (ix a0 v2) a1).bind fun y3 =>
    bif ((ix a0 v2).To == a1) then
      some ((v2 : Nat) : Int)
    else
      chk (nI (v2 + 1)) <|
      back (v2 + 1)
  else
    k1 ()
def slices_IndexFunc_Window (n : Nat) (a0 : List Window) (a1 : Int) : Option Int :=
  withK (fun (_ : Unit) =>
      some (-1)) fun k1 =>
  loopN (slices_IndexFunc_Window_L1 n a0 a1 k1) n 0
def slices_ContainsFunc_Window (n : Nat) (a0 : List Window) (a1 : Int) : Option Bool :=
  (slices_IndexFunc_Window n a0 a1).bind fun y1 =>
  some (decide ((0 : Int) ≤ y1))
def diary_crowded_L1 (a0 : List Window) (a1 : Int) (a2 : Int) (k2 : (Nat → Option Bool)) (back : Nat × Nat → Option Bool) : Nat × Nat → Option Bool
  | (v2, v3) =>
  bif decide (v3 < a0.length) then
    withK (fun (v4 : Nat) =>
        chk (nI (v3 + 1)) <|
        back (v4, v3 + 1)) fun k1 =>
    bif (decide (a1 ≤ ((ix a0 v3).From))) && (decide (((ix a0 v3).To) ≤ a2)) then
      chk (nI (v2 + 1)) <|
      k1 (v2 + 1)
    else
      k1 v2
  else
    k2 v2
def diary_crowded (n : Nat) (a0 : List Window) (a1 : Int) (a2 : Int) : Option Bool :=
  withK (fun (v5 : Nat) =>
      chk (inI (a2 - a1)) <|
      some (decide ((a2 - a1) < ((v5 : Nat) : Int)))) fun k2 =>
  loopN (diary_crowded_L1 a0 a1 a2 k2) n (0, 0)
def diary_Crowd_L1 (n : Nat) (a0 : List Window) (v6 : Int) (k1 : (Unit → Option (Int × Int × Int))) (back : Int → Option (Int × Int × Int)) : Int → Option (Int × Int × Int)
  | v9 =>
  bif decide ((0 : Int) ≤ v9) then
    (diary_crowded n a0 v9 v6).bind fun y10 =>
    bif y10 then
      some (0, v9, v6)
    else
      chk (inI (v9 - 1)) <|
      back (v9 - 1)
  else
    k1 ()
def diary_Crowd_L2 (n : Nat) (a0 : List Window) (k2 : (Unit → Option (Int × Int × Int))) (back : Int → Option (Int × Int × Int)) : Int → Option (Int × Int × Int)
  | v6 =>
  bif decide (v6 ≤ (1000 : Int)) then
    withK (fun (_ : Unit) =>
        chk (inI (v6 + 1)) <|
        back (v6 + 1)) fun k1 =>
    (slices_ContainsFunc_Window n a0 v6).bind fun y7 =>
    bif !y7 then
      k1 ()
    else
      chk (inI (v6 - 1)) <|
      loopN (diary_Crowd_L1 n a0 v6 k1) n (v6 - 1)
  else
    k2 ()
def diary_Crowd (n : Nat) (a0 : List Window) : Option (Int × Int × Int) :=
  (diary_CheckWindows n a0).bind fun y1 =>
  bif (y1 != (0 : Int)) then
    some (y1, 0, 0)
  else
    withK (fun (_ : Unit) =>
        some (12, 0, 0)) fun k2 =>
    loopN (diary_Crowd_L2 n a0 k2) n 1
def agrafferef09_CheckWindows_L1 (n : Nat) (a0 : List Window) (k1 : (Unit → Option Int)) (back : Nat → Option Int) : Nat → Option Int
  | v3 =>
  bif decide (v3 < a0.length) then
    (agraffebase_Within n ((ix a0 v3).From) 0 1000).bind fun y4 =>
    (gcall (!(!((decide (0 ≤ ((ix a0 v3).From))) && (decide (((ix a0 v3).From) ≤ 1000))))) (agraffebase_Within n ((ix a0 v3).To) 0 1000)).bind fun y5 =>
    bif (!((decide (0 ≤ ((ix a0 v3).From))) && (decide (((ix a0 v3).From) ≤ 1000)))) || (!((decide (0 ≤ ((ix a0 v3).To))) && (decide (((ix a0 v3).To) ≤ 1000)))) then
      some 2
    else
      bif decide (((ix a0 v3).To) ≤ ((ix a0 v3).From)) then
        some 9
      else
        chk (nI (v3 + 1)) <|
        back (v3 + 1)
  else
    k1 ()
def agrafferef09_CheckWindows (n : Nat) (a0 : List Window) : Option Int :=
  bif decide (60 < a0.length) then
    some 8
  else
    withK (fun (_ : Unit) =>
        some 0) fun k1 =>
    loopN (agrafferef09_CheckWindows_L1 n a0 k1) n 0
def agraffebase_CopyInts (n : Nat) (a0 : List Int) : Option Unit :=
  chk (room 8 a0.length) <|
  some ()
def diary_CheckSlots_L1 (a0 : List Window) (a1 : List Int) (k2 : ((List (Int × Bool)) → Option (Int × Int))) (back : Nat × (List (Int × Bool)) → Option (Int × Int)) : Nat × (List (Int × Bool)) → Option (Int × Int)
  | (v3, v4) =>
  bif decide (v3 < a1.length) then
    withK (fun (v5 : (List (Int × Bool))) =>
        chk (nI (v3 + 1)) <|
        back (v3 + 1, v5)) fun k1 =>
    bif ((ix a1 v3) == ((-1) : Int)) then
      k1 v4
    else
      chk (decide (v3 < a0.length)) <|
      bif (decide ((ix a1 v3) < ((ix a0 v3).From))) || (decide (((ix a0 v3).To) ≤ (ix a1 v3))) then
        some (2, 0)
      else
        bif (Option.getD (List.lookup (ix a1 v3) v4) false) then
          some (5, 0)
        else
          k1 (mPut (ix a1 v3) true v4)
  else
    k2 v4
def diary_CheckSlots (n : Nat) (a0 : List Window) (a1 : List Int) : Option (Int × Int) :=
  (diary_CheckWindows n a0).bind fun y1 =>
  bif (y1 != (0 : Int)) then
    some (y1, 0)
  else
    bif !decide (a1.length = a0.length) then
      some (10, 0)
    else
      withK (fun (v6 : (List (Int × Bool))) =>
          some (0, ((v6.length : Nat) : Int))) fun k2 =>
      loopN (diary_CheckSlots_L1 a0 a1 k2) n (0, ([] : List (Int × Bool)))
def agraffelaw09_windows_2 (n : Nat) (a0 : List Window) : Option Unit :=
  chk (room 16 a0.length) <|
  some ()
def diary_CheckCrowd (n : Nat) (a0 : List Window) (a1 : Arr2_Int) : Option Int :=
  (diary_CheckWindows n a0).bind fun y1 =>
  bif (y1 != (0 : Int)) then
    some y1
  else
    (diary_within n a1.a0 0 1000).bind fun y2 =>
    (gcall (!(!((decide (0 ≤ a1.a0)) && (decide (a1.a0 ≤ 1000))))) (diary_within n a1.a1 0 1000)).bind fun y3 =>
    bif (!((decide (0 ≤ a1.a0)) && (decide (a1.a0 ≤ 1000)))) || (!((decide (0 ≤ a1.a1)) && (decide (a1.a1 ≤ 1000)))) then
      some 2
    else
      bif decide (a1.a1 ≤ a1.a0) then
        some 9
      else
        (diary_crowded n a0 a1.a0 a1.a1).bind fun y4 =>
        bif !y4 then
          some 22
        else
          some 0
def agraffelaw09_done_L1 (a0 : List Int) (k2 : (Nat → Option Int)) (back : Nat × Nat → Option Int) : Nat × Nat → Option Int
  | (v2, v3) =>
  bif decide (v3 < a0.length) then
    withK (fun (v4 : Nat) =>
        chk (nI (v3 + 1)) <|
        back (v4, v3 + 1)) fun k1 =>
    bif ((ix a0 v3) != ((-1) : Int)) then
      chk (nI (v2 + 1)) <|
      k1 (v2 + 1)
    else
      k1 v2
  else
    k2 v2
def agraffelaw09_done (n : Nat) (a0 : List Int) : Option Int :=
  withK (fun (v5 : Nat) =>
      some ((v5 : Nat) : Int)) fun k2 =>
  loopN (agraffelaw09_done_L1 a0 k2) n (0, 0)
def diary_CheckWindows_2_L1 (n : Nat) (a0 : List Window) (k1 : (Unit → Option Int)) (back : Nat → Option Int) : Nat → Option Int
  | v3 =>
  bif decide (v3 < a0.length) then
    (diary_within n ((ix a0 v3).From) 0 1000).bind fun y4 =>
    (gcall (!(!((decide (0 ≤ ((ix a0 v3).From))) && (decide (((ix a0 v3).From) ≤ 1000))))) (diary_within n ((ix a0 v3).To) 0 1000)).bind fun y5 =>
    bif (!((decide (0 ≤ ((ix a0 v3).From))) && (decide (((ix a0 v3).From) ≤ 1000)))) || (!((decide (0 ≤ ((ix a0 v3).To))) && (decide (((ix a0 v3).To) ≤ 1000)))) then
      some 2
    else
      bif decide (((ix a0 v3).To) ≤ ((ix a0 v3).From)) then
        some 9
      else
        chk (nI (v3 + 1)) <|
        back (v3 + 1)
  else
    k1 ()
def diary_CheckWindows_2 (n : Nat) (a0 : List Window) : Option Int :=
  bif decide (60 < a0.length) then
    some 8
  else
    withK (fun (_ : Unit) =>
        some 0) fun k1 =>
    loopN (diary_CheckWindows_2_L1 n a0 k1) n 0
def diary_schedule_2_L1 (a0 : List Window) (v8 : Nat) (v9 : List Int) (k2 : (Int → Option (List Int))) (back : Int × Nat → Option (List Int)) : Int × Nat → Option (List Int)
  | (v11, v12) =>
  bif decide (v12 < a0.length) then
    withK (fun (v13 : Int) =>
        chk (nI (v12 + 1)) <|
        back (v13, v12 + 1)) fun k1 =>
    chk (decide (v12 < ((List.replicate ((IntKind.u64.wrap ((IntKind.u64.wrap ((([(-1)] : List Int).length : Nat) : Int)) * (IntKind.u64.wrap ((a0.length : Nat) : Int)))).toNat) (0 : Int)).length))) <|
    chk (decide (v12 < v9.length)) <|
    chk (!((((decide ((ix v9 v12) < (0 : Int))) && (decide (((ix a0 v12).From) ≤ ((v8 : Nat) : Int)))) && (decide (((v8 : Nat) : Int) < ((ix a0 v12).To)))) && !(decide (v11 < (0 : Int)))) || inB v11 a0.length) <|
    chk (!((((decide ((ix v9 v12) < (0 : Int))) && (decide (((ix a0 v12).From) ≤ ((v8 : Nat) : Int)))) && (decide (((v8 : Nat) : Int) < ((ix a0 v12).To)))) && !(decide (v11 < (0 : Int)))) || decide (v11.toNat < a0.length)) <|
    bif (((decide ((ix v9 v12) < (0 : Int))) && (decide (((ix a0 v12).From) ≤ ((v8 : Nat) : Int)))) && (decide (((v8 : Nat) : Int) < ((ix a0 v12).To)))) && ((decide (v11 < (0 : Int))) || (decide (((ix a0 v12).To) < ((ix a0 v11.toNat).To)))) then
      k1 ((v12 : Nat) : Int)
    else
      k1 v11
  else
    k2 v11
def diary_schedule_2_L2 (n : Nat) (a0 : List Window) (k4 : ((List Int) → Option (List Int))) (back : Nat × (List Int) → Option (List Int)) : Nat × (List Int) → Option (List Int)
  | (v8, v9) =>
  bif decide (v8 < 1000) then
    withK (fun (v15 : (List Int)) =>
        chk (nI (v8 + 1)) <|
        back (v8 + 1, v15)) fun k3 =>
    withK (fun (v14 : Int) =>
        bif decide ((0 : Int) ≤ v14) then
          chk (inB v14 ((List.replicate ((IntKind.u64.wrap ((IntKind.u64.wrap ((([(-1)] : List Int).length : Nat) : Int)) * (IntKind.u64.wrap ((a0.length : Nat) : Int)))).toNat) (0 : Int)).length)) <|
          chk (decide (v14.toNat < v9.length)) <|
          k3 (List.set v9 v14.toNat ((v8 : Nat) : Int))
        else
          k3 v9) fun k2 =>
    loopN (diary_schedule_2_L1 a0 v8 v9 k2) n ((-1), 0)
  else
    k4 v9
def diary_schedule_2 (n : Nat) (a0 : List Window) : Option (List Int) :=
  (slices_Repeat_int n ([(-1)] : List Int) ((a0.length : Nat) : Int)).bind fun y1 =>
  withK (fun (v16 : (List Int)) =>
      some v16) fun k4 =>
  loopN (diary_schedule_2_L2 n a0 k4) n (0, y1)
def diary_Most_2 (n : Nat) (a0 : List Window) : Option (Int ⊕ (List Int)) :=
  (diary_CheckWindows_2 n a0).bind fun y1 =>
  bif (y1 != (0 : Int)) then
    some (.inl y1)
  else
    (diary_schedule_2 n a0).bind fun y2 =>
    some (.inr y2)
def agraffelaw09_done_2_L1 (a0 : List Int) (a1 : Nat) (a2 : Nat) (k2 : (Nat → Option Int)) (back : Nat × Nat → Option Int) : Nat × Nat → Option Int
  | (v2, v3) =>
  bif decide (v3 < a2) then
    withK (fun (v4 : Nat) =>
        chk (nI (v3 + 1)) <|
        back (v4, v3 + 1)) fun k1 =>
    chk (decide (a1 + v3 < a0.length)) <|
    bif ((ix a0 (a1 + v3)) != ((-1) : Int)) then
      chk (nI (v2 + 1)) <|
      k1 (v2 + 1)
    else
      k1 v2
  else
    k2 v2
def agraffelaw09_done_2 (n : Nat) (a0 : List Int) (a1 : Nat) (a2 : Nat) : Option Int :=
  withK (fun (v5 : Nat) =>
      some ((v5 : Nat) : Int)) fun k2 =>
  loopN (agraffelaw09_done_2_L1 a0 a1 a2 k2) n (0, 0)
def agraffelaw09_DiaryHall (n : Nat) (a0 : List Window) (a1 : List Int) (a2 : Window) : Option Bool :=
  (agraffelaw09_awake n).bind fun y1 =>
  bif !y1 then
    some false
  else
    (gcall (!((decide (10 < a0.length)) || (decide (20 < a1.length)))) (agrafferef09_CheckWindows n a0)).bind fun y2 =>
    bif ((decide (10 < a0.length)) || (decide (20 < a1.length))) || (y2 != (0 : Int)) then
      some true
    else
      withK (fun (v5 : Int) =>
          (agraffelaw09_windows n a0).bind fun y6 =>
          (diary_Crowd n a0).bind fun y7 =>
          withK (fun (v12 : Int) =>
              bif ((v12 != (0 : Int)) || (!((v5 == (0 : Int)) == (y7.1 == (12 : Int))))) || ((v5 != (0 : Int)) && (v5 != (16 : Int))) then
                some false
              else
                (gcall (y7.1 == (0 : Int)) (agraffelaw09_windows_2 n a0)).bind fun y13 =>
                (gcall (y7.1 == (0 : Int)) (diary_CheckCrowd n a0 (Arr2_Int.mk y7.2.1 y7.2.2))).bind fun y14 =>
                bif (y7.1 == (0 : Int)) && (y14 != (0 : Int)) then
                  some false
                else
                  (agraffelaw09_windows n a0).bind fun y15 =>
                  (agraffebase_CopyInts n a1).bind fun y16 =>
                  (diary_CheckSlots n a0 a1).bind fun y17 =>
                  (gcall (y17.1 == (0 : Int)) (agraffelaw09_done n ([] : List Int))).bind fun y18 =>
                  bif (y17.1 == (0 : Int)) && (decide (y18 < y17.2)) then
                    some false
                  else
                    withK (fun (v23 : Int) =>
                        (gcall (!(v23 != (0 : Int))) (agraffelaw09_done n ([] : List Int))).bind fun y24 =>
                        (gcall (!(v23 != (0 : Int))) (agraffelaw09_done n ([] : List Int))).bind fun y25 =>
                        some ((v23 != (0 : Int)) || (decide (y25 ≤ y24)))) fun k3 =>
                    withK (fun (v26 : (List Int)) =>
                        (gcall (!false) (agraffelaw09_done_2 n v26 0 ((List.replicate ((IntKind.u64.wrap ((IntKind.u64.wrap ((([(-1)] : List Int).length : Nat) : Int)) * (IntKind.u64.wrap (((a0 ++ ([a2] : List Window)).length : Nat) : Int)))).toNat) (0 : Int)).length))).bind fun y27 =>
                        (gcall (!false) (agraffelaw09_done n ([] : List Int))).bind fun y28 =>
                        some (false || (decide (y28 ≤ y27)))) fun k4 =>
                    (agraffelaw09_windows n a0).bind fun y19 =>
                    chk (room 16 (a0 ++ ([a2] : List Window)).length) <|
                    (diary_Most_2 n (a0 ++ ([a2] : List Window))).bind fun y20 =>
                    match y20 with
                    | .inl y20 =>
                      k3 y20
                    | .inr y20 =>
                      k4 y20) fun k2 =>
          withK (fun (v29 : (List Int)) =>
              bif (false || (!((v5 == (0 : Int)) == (y7.1 == (12 : Int))))) || ((v5 != (0 : Int)) && (v5 != (16 : Int))) then
                some false
              else
                (gcall (y7.1 == (0 : Int)) (agraffelaw09_windows_2 n a0)).bind fun y30 =>
                (gcall (y7.1 == (0 : Int)) (diary_CheckCrowd n a0 (Arr2_Int.mk y7.2.1 y7.2.2))).bind fun y31 =>
                bif (y7.1 == (0 : Int)) && (y31 != (0 : Int)) then
                  some false
                else
                  (agraffelaw09_windows n a0).bind fun y32 =>
                  (agraffebase_CopyInts n a1).bind fun y33 =>
                  (diary_CheckSlots n a0 a1).bind fun y34 =>
                  (gcall (y34.1 == (0 : Int)) (agraffelaw09_done_2 n v29 0 ((List.replicate ((IntKind.u64.wrap ((IntKind.u64.wrap ((([(-1)] : List Int).length : Nat) : Int)) * (IntKind.u64.wrap ((a0.length : Nat) : Int)))).toNat) (0 : Int)).length))).bind fun y35 =>
                  bif (y34.1 == (0 : Int)) && (decide (y35 < y34.2)) then
                    some false
                  else
                    withK (fun (v40 : Int) =>
                        (gcall (!(v40 != (0 : Int))) (agraffelaw09_done n ([] : List Int))).bind fun y41 =>
                        (gcall (!(v40 != (0 : Int))) (agraffelaw09_done_2 n v29 0 ((List.replicate ((IntKind.u64.wrap ((IntKind.u64.wrap ((([(-1)] : List Int).length : Nat) : Int)) * (IntKind.u64.wrap ((a0.length : Nat) : Int)))).toNat) (0 : Int)).length))).bind fun y42 =>
                        some ((v40 != (0 : Int)) || (decide (y42 ≤ y41)))) fun k6 =>
                    withK (fun (v43 : (List Int)) =>
                        (gcall (!false) (agraffelaw09_done_2 n v43 0 ((List.replicate ((IntKind.u64.wrap ((IntKind.u64.wrap ((([(-1)] : List Int).length : Nat) : Int)) * (IntKind.u64.wrap (((a0 ++ ([a2] : List Window)).length : Nat) : Int)))).toNat) (0 : Int)).length))).bind fun y44 =>
                        (gcall (!false) (agraffelaw09_done_2 n v29 0 ((List.replicate ((IntKind.u64.wrap ((IntKind.u64.wrap ((([(-1)] : List Int).length : Nat) : Int)) * (IntKind.u64.wrap ((a0.length : Nat) : Int)))).toNat) (0 : Int)).length))).bind fun y45 =>
                        some (false || (decide (y45 ≤ y44)))) fun k7 =>
                    (agraffelaw09_windows n a0).bind fun y36 =>
                    chk (room 16 (a0 ++ ([a2] : List Window)).length) <|
                    (diary_Most_2 n (a0 ++ ([a2] : List Window))).bind fun y37 =>
                    match y37 with
                    | .inl y37 =>
                      k6 y37
                    | .inr y37 =>
                      k7 y37) fun k5 =>
          (agraffelaw09_windows n a0).bind fun y8 =>
          (diary_Most n a0).bind fun y9 =>
          match y9 with
          | .inl y9 =>
            k2 y9
          | .inr y9 =>
            k5 y9) fun k1 =>
      (agraffelaw09_windows n a0).bind fun y3 =>
      (diary_Slots n a0).bind fun y4 =>
      match y4 with
      | .inl y4 =>
        k1 y4
      | .inr y4 =>
        k1 0
end
section
set_option maxRecDepth 4000
open Go
theorem loopN_s {α β : Type} (F : (α → Option β) → α → Option β) (n : Nat) (t : α) : loopN F (n + 1) t = F (loopN F n) t := rfl
@[simp] theorem chk_t {α : Type} (k : Option α) : chk true k = k := rfl
@[simp] theorem withK_eq {α β : Type} (j : α → Option β) (f : (α → Option β) → Option β) : withK j f = f j := rfl
@[simp] theorem gcall_some_ {α : Type} [Inhabited α] (g : Bool) (x : α) : (gcall g (some x)) = some (bif g then x else default) := by cases g <;> rfl
theorem nI_of {n : Nat} (h : n ≤ 9223372036854775807) : nI n = true := by simp [nI, h]
theorem inI_of {n : Int} (h : -9223372036854775808 ≤ n) (h2 : n ≤ 9223372036854775807) : inI n = true := by simp [inI, h, h2]
theorem room_of {b n : Nat} (h : n * b ≤ 140737488355328) (h2 : n ≤ 9223372036854775807) : room b n = true := by simp [room, h, h2]
theorem inB_of {q : Int} {n : Nat} (h : 0 ≤ q) (h2 : q.toNat < n) : inB q n = true := by simp [inB, h, h2]
theorem drop_ix {α : Type} [Inhabited α] {l : List α} {v : Nat} (h : v < l.length) : l.drop v = ix l v :: l.drop (v + 1) := by
  rw [ix_eq h]; exact List.drop_eq_getElem_cons h
theorem drop_nil {α : Type} {l : List α} {v : Nat} (h : ¬ v < l.length) : l.drop v = [] := List.drop_eq_nil_of_le (by omega)
end
section
set_option maxRecDepth 4000
open Go
theorem bne_t {x : Int} (h : ¬ x = 0) : (x != 0) = true := by simp [bne, h]
def firstE (E : Nat → Int) : Nat → Nat → Int
  | _, 0 => 0
  | v, m + 1 => bif E v != 0 then E v else firstE E (v + 1) m
theorem firstE_zero {E : Nat → Int} : ∀ {m v : Nat}, firstE E v m = 0 → ∀ j, v ≤ j → j < v + m → E j = 0
  | 0, v, _, j, h1, h2 => by omega
  | m + 1, v, h, j, h1, h2 => by
    unfold firstE at h
    by_cases e : E v = 0
    · simp [e] at h
      by_cases hj : j = v
      · rw [hj]; exact e
      · exact firstE_zero h j (by omega) (by omega)
    · rw [bne_t e, cond_true] at h; exact absurd h e
theorem loop_first {σ R : Type} {F : (σ → Option R) → σ → Option R} {st : Nat → σ} {E : Nat → Int} {err : Int → Option R} {k : Option R} {len : Nat}
    (h1 : ∀ back v, v < len → (∀ j, j < v → E j = 0) → F back (st v) = bif E v != 0 then err (E v) else back (st (v + 1)))
    (h2 : ∀ back, (∀ j, j < len → E j = 0) → F back (st len) = k) : ∀ n v, len - v < n → v ≤ len → (∀ j, j < v → E j = 0) → loopN F n (st v) = bif firstE E v (len - v) != 0 then err (firstE E v (len - v)) else k := by
  intro n
  induction n with
  | zero => intro v h; omega
  | succ n ih =>
    intro v hn hv hz
    rw [loopN_s]
    by_cases h : v < len
    · rw [h1 _ v h hz, show len - v = (len - (v + 1)) + 1 by omega]
      unfold firstE
      by_cases e : E v = 0
      · simp only [e, bne_self_eq_false, cond_false]
        exact ih (v + 1) (by omega) (by omega) fun j hj => by
          by_cases hjv : j = v
          · rw [hjv]; exact e
          · exact hz j (by omega)
      · rw [bne_t e, cond_true, cond_true, bne_t e, cond_true]
    · have : v = len := by omega
      subst this
      rw [h2 _ hz, Nat.sub_self]
      simp [firstE]
theorem loop_through {σ R : Type} {F : (σ → Option R) → σ → Option R} {st : Nat → σ} {k : Option R} {len : Nat} (h1 : ∀ back v, v < len → F back (st v) = back (st (v + 1))) (h2 : ∀ back, F back (st len) = k) : ∀ n, len < n → loopN F n (st 0) = k := by
  intro n hn
  have := loop_first (F := F) (st := st) (E := fun _ => 0) (err := fun _ => none) (k := k) (len := len) (fun back v hv _ => by simp [h1 back v hv]) (fun back _ => h2 back) n 0 (by omega) (by omega) (fun _ _ => rfl)
  rw [this, Nat.sub_zero]
  have : firstE (fun _ => (0 : Int)) 0 len = 0 := by
    have : ∀ m v, firstE (fun _ => (0 : Int)) v m = 0 := by
      intro m
      induction m with
      | zero => intro v; rfl
      | succ m ih => intro v; simp [firstE, ih]
    exact this _ _
  rw [this]; rfl
def findI {α : Type} (p : α → Bool) (l : List α) : Int := match l.findIdx? p with
  | some i => ((i : Nat) : Int)
  | none => -1
end
section
set_option maxRecDepth 4000
open Go
theorem loop_find' {α R : Type} [Inhabited α] {l : List α} {p : α → Bool} {F : (Nat → Option R) → Nat → Option R} {yes : Nat → Option R} {no : Option R}
    (h1 : ∀ back v, v < l.length → F back v = bif p (ix l v) then yes v else back (v + 1)) (h2 : ∀ back, F back l.length = no) :
    ∀ n v, v ≤ l.length → l.length - v < n → loopN F n v = match (l.drop v).findIdx? p with | some i => yes (v + i) | none => no := by
  intro n
  induction n with
  | zero => intro v _ h; omega
  | succ n ih =>
    intro v hv hn
    rw [loopN_s]
    by_cases h : v < l.length
    · rw [h1 _ v h, drop_ix h, List.findIdx?_cons]
      cases hp : p (ix l v) with
      | true => simp
      | false =>
        simp only [cond_false, Bool.false_eq_true, if_false]
        rw [ih (v + 1) (by omega) (by omega)]
        cases hh : (l.drop (v + 1)).findIdx? p with
        | none => simp
        | some i => simp [Nat.add_assoc, Nat.add_comm 1 i]
    · have : v = l.length := by omega
      subst this
      rw [h2, drop_nil h]
      simp
theorem any_findIdx {α : Type} (p : α → Bool) (l : List α) : (l.findIdx? p).isSome = l.any p := by
  induction l with
  | nil => rfl
  | cons x l ih =>
    rw [List.findIdx?_cons, List.any_cons]
    cases p x <;> simp [ih]
theorem loop_findI {α : Type} [Inhabited α] {l : List α} {p : α → Bool} {F : (Nat → Option Int) → Nat → Option Int}
    (h1 : ∀ back v, v < l.length → F back v = bif p (ix l v) then some ((v : Nat) : Int) else back (v + 1)) (h2 : ∀ back, F back l.length = some (-1)) (n : Nat) (hn : l.length < n) : loopN F n 0 = some (findI p l) := by
  rw [loop_find' h1 h2 n 0 (by omega) (by omega), List.drop_zero, findI]
  cases l.findIdx? p <;> simp
theorem findI_any {α : Type} (p : α → Bool) (l : List α) : decide ((0 : Int) ≤ findI p l) = l.any p := by
  rw [← any_findIdx, findI]
  cases l.findIdx? p <;> simp
theorem loop_fold {σ R : Type} {F : (σ × Nat → Option R) → σ × Nat → Option R} {st : Nat → σ} {k : Option R} {len : Nat} (h1 : ∀ back v, v < len → F back (st v, v) = back (st (v + 1), v + 1)) (h2 : ∀ back, F back (st len, len) = k) (n : Nat) (hn : len < n) {s0 : σ} (h0 : st 0 = s0) : loopN F n (s0, 0) = k := by
  subst h0
  exact loop_through (st := fun v => (st v, v)) h1 h2 n hn
theorem loop_fold' {σ R : Type} {F : (Nat × σ → Option R) → Nat × σ → Option R} {st : Nat → σ} {k : Option R} {len : Nat} (h1 : ∀ back v, v < len → F back (v, st v) = back (v + 1, st (v + 1))) (h2 : ∀ back, F back (len, st len) = k) (n : Nat) (hn : len < n) {s0 : σ} (h0 : st 0 = s0) : loopN F n (0, s0) = k := by
  subst h0
  exact loop_through (st := fun v => (v, st v)) h1 h2 n hn
theorem ix_take {α : Type} [Inhabited α] {l : List α} {i v : Nat} (h : v < i) (hl : v < l.length) : ix (l.take i) v = ix l v := by
  rw [ix_eq (by simp; omega), ix_eq hl, List.getElem_take]
end
section
set_option maxRecDepth 4000
open Go
variable {n : Nat}
def isS (s : Str) (x : Str) : Bool := x == s
theorem loop_errs {F : (Nat → Option Int) → Nat → Option Int} {E : Nat → Int} {k : Int} {len : Nat}
    (h1 : ∀ back v, v < len → F back v = bif E v != 0 then some (E v) else back (v + 1)) (h2 : ∀ back, F back len = some k) (hn : len < n) :
    loopN F n 0 = some (bif firstE E 0 len != 0 then firstE E 0 len else k) := by
  rw [loop_first (st := fun v => v) (E := E) (err := some) (k := some k) (len := len) (fun back v hv _ => h1 back v hv) (fun back _ => h2 back) n 0 (by omega) (by omega) (fun j h => by omega), Nat.sub_zero]
  cases firstE E 0 len != 0 <;> rfl
theorem bif_int {x : Int} : (bif x != 0 then x else 0) = x := by
  by_cases h : x = 0
  · simp [h]
  · rw [bne_t h]; rfl
end
section
set_option maxRecDepth 4000
open Go
variable {n : Nat}
def isBet (a b w : Int) : Bool := (decide (a ≤ w)) && (decide (w ≤ b))
end
section
set_option maxRecDepth 4000
open Go
set_option maxRecDepth 100000 in
theorem awake_ok (m : Nat) : agraffelaw09_awake (m + 2000) = some true := by kernel_rfl
end
section
set_option maxRecDepth 4000
open Go
theorem lookup_mPut {α β : Type} [BEq α] [LawfulBEq α] (x : α) (v : β) (y : α) : ∀ m : List (α × β), List.lookup y (mPut x v m) = bif y == x then some v else List.lookup y m := by
  intro m
  induction m with
  | nil =>
    simp only [mPut, List.lookup]
    cases y == x <;> rfl
  | cons p m ih =>
    obtain ⟨k, u⟩ := p
    simp only [mPut]
    by_cases h : x = k
    · subst h
      simp only [beq_self_eq_true, List.lookup]
      cases y == x <;> rfl
    · have e : (x == k) = false := by simpa using h
      rw [e]
      simp only [List.lookup]
      cases hy : y == k
      · exact ih
      · have : y = k := eq_of_beq hy
        have : (y == x) = false := by rw [this]; simpa using Ne.symm h
        rw [this]; rfl
theorem length_mPut {α β : Type} [BEq α] [LawfulBEq α] (x : α) (v : β) : ∀ m : List (α × β), List.lookup x m = none → (mPut x v m).length = m.length + 1 := by
  intro m
  induction m with
  | nil => intro _; rfl
  | cons p m ih =>
    obtain ⟨k, u⟩ := p
    intro h
    simp only [List.lookup] at h
    simp only [mPut]
    cases e : x == k with
    | true => rw [e] at h; cases h
    | false => rw [e] at h; simp [ih h]
theorem take_snoc {α : Type} [Inhabited α] {l : List α} {v : Nat} (h : v < l.length) : l.take (v + 1) = l.take v ++ [ix l v] := by
  rw [List.take_succ_eq_append_getElem h, ix_eq h]
end
section
set_option maxRecDepth 4000
open Go
variable {n : Nat}
def winE (l : List Window) (v : Nat) : Int :=
  bif (!isBet 0 1000 (ix l v).From) || (!isBet 0 1000 (ix l v).To) then 2 else bif decide ((ix l v).To ≤ (ix l v).From) then 9 else 0
def winD (l : List Window) : Int := bif decide (60 < l.length) then 8 else firstE (winE l) 0 l.length
theorem CheckWindows_eq (l : List Window) (hn : 1000 < n) (hl : l.length ≤ 900) : diary_CheckWindows n l = some (winD l) := by
  rw [diary_CheckWindows, winD]
  cases decide (60 < l.length) with
  | true => rfl
  | false =>
    simp only [cond_false, withK_eq]
    rw [loop_errs (E := winE l) (k := 0) (fun back v hv => ?_) (fun back => ?_) (by omega : l.length < n), bif_int]
    · rw [diary_CheckWindows_L1]
      simp only [hv, decide_true, cond_true, diary_within, gcall_some_, Option.bind_some, nI_of (by omega : v + 1 ≤ 9223372036854775807), chk_t, winE, isBet]
      cases decide (0 ≤ (ix l v).From) && decide ((ix l v).From ≤ 1000) <;> cases decide (0 ≤ (ix l v).To) && decide ((ix l v).To ≤ 1000) <;> cases decide ((ix l v).To ≤ (ix l v).From) <;> rfl
    · rw [diary_CheckWindows_L1]; simp
theorem CheckWindows_ref (l : List Window) (hn : 1000 < n) (hl : l.length ≤ 900) : agrafferef09_CheckWindows n l = some (winD l) := by
  rw [agrafferef09_CheckWindows, winD]
  cases decide (60 < l.length) with
  | true => rfl
  | false =>
    simp only [cond_false, withK_eq]
    rw [loop_errs (E := winE l) (k := 0) (fun back v hv => ?_) (fun back => ?_) (by omega : l.length < n), bif_int]
    · rw [agrafferef09_CheckWindows_L1]
      simp only [hv, decide_true, cond_true, agraffebase_Within, gcall_some_, Option.bind_some, nI_of (by omega : v + 1 ≤ 9223372036854775807), chk_t, winE, isBet]
      cases decide (0 ≤ (ix l v).From) && decide ((ix l v).From ≤ 1000) <;> cases decide (0 ≤ (ix l v).To) && decide ((ix l v).To ≤ 1000) <;> cases decide ((ix l v).To ≤ (ix l v).From) <;> rfl
    · rw [agrafferef09_CheckWindows_L1]; simp
structure OkW (l : List Window) : Prop where
  len : l.length ≤ 60
  lo : ∀ x ∈ l, 0 ≤ x.From
  hi : ∀ x ∈ l, x.To ≤ 1000
  lt : ∀ x ∈ l, x.From < x.To
theorem winD_zero {l : List Window} (h : winD l = 0) : OkW l := by
  rw [winD] at h
  cases hm : decide (60 < l.length) with
  | true => rw [hm] at h; simp at h
  | false =>
    rw [hm, cond_false] at h
    have hz : ∀ x ∈ l, isBet 0 1000 x.From = true ∧ isBet 0 1000 x.To = true ∧ x.From < x.To := fun x hx => by
      obtain ⟨i, hi, rfl⟩ := List.mem_iff_getElem.1 hx
      have := firstE_zero h i (by omega) (by omega)
      rw [winE, ix_eq hi] at this
      cases h1 : isBet 0 1000 l[i].From with
      | false => rw [h1] at this; simp at this
      | true =>
        cases h2 : isBet 0 1000 l[i].To with
        | false => rw [h1, h2] at this; simp at this
        | true =>
          refine ⟨rfl, rfl, ?_⟩
          by_cases h3 : l[i].To ≤ l[i].From
          · rw [h1, h2, decide_eq_true h3] at this; simp at this
          · omega
    exact ⟨by simp at hm; omega, fun x hx => by have := (hz x hx).1; simp [isBet] at this; omega, fun x hx => by have := (hz x hx).2.1; simp [isBet] at this; omega, fun x hx => (hz x hx).2.2⟩
def inW (a b : Int) (x : Window) : Bool := (decide (a ≤ x.From)) && (decide (x.To ≤ b))
def crowdB (l : List Window) (a b : Int) : Bool := decide (b - a < ((l.countP (inW a b) : Nat) : Int))
theorem countP_take (l : List Window) (a b : Int) {v : Nat} (h : v < l.length) : (l.take (v + 1)).countP (inW a b) = bif inW a b (ix l v) then (l.take v).countP (inW a b) + 1 else (l.take v).countP (inW a b) := by
  rw [take_snoc h, List.countP_append, List.countP_singleton]
  cases inW a b (ix l v) <;> rfl
theorem countP_takeLe (l : List Window) (a b : Int) (v : Nat) : (l.take v).countP (inW a b) ≤ v := Nat.le_trans List.countP_le_length (by simp; omega)
theorem crowded_eq (l : List Window) (a b : Int) (hn : 1000 < n) (hl : l.length ≤ 900) (ha : 0 ≤ a) (ha2 : a ≤ 10000) (hb : 0 ≤ b) (hb2 : b ≤ 10000) : diary_crowded n l a b = some (crowdB l a b) := by
  rw [diary_crowded, withK_eq]
  refine loop_fold (st := fun v => (l.take v).countP (inW a b)) (len := l.length) (fun back v hv => ?_) (fun back => ?_) n (by omega) (by simp)
  · have h1 := countP_takeLe l a b v
    rw [diary_crowded_L1]
    simp only [hv, decide_true, cond_true, withK_eq, nI_of (by omega : v + 1 ≤ 9223372036854775807), nI_of (by omega : (l.take v).countP (inW a b) + 1 ≤ 9223372036854775807), chk_t, countP_take l a b hv]
    show (bif inW a b (ix l v) then _ else _) = _
    cases inW a b (ix l v) <;> rfl
  · rw [diary_crowded_L1]
    simp only [Nat.lt_irrefl, decide_false, cond_false, List.take_length, inI_of (by omega : -9223372036854775808 ≤ b - a) (by omega), chk_t, crowdB]
def crowdD (l : List Window) (a b : Int) : Int :=
  bif (!isBet 0 1000 a) || (!isBet 0 1000 b) then 2 else bif decide (b ≤ a) then 9 else bif !crowdB l a b then 22 else 0
theorem CheckCrowd_eq (l : List Window) (p : Arr2_Int) (hn : 1000 < n) (hl : l.length ≤ 900) : diary_CheckCrowd n l p = some (bif winD l != 0 then winD l else crowdD l p.a0 p.a1) := by
  rw [diary_CheckCrowd, CheckWindows_eq l hn hl]
  simp only [Option.bind_some, diary_within, gcall_some_]
  cases winD l != 0 with
  | true => rfl
  | false =>
    simp only [cond_false, crowdD]
    show (bif (!isBet 0 1000 p.a0) || (!isBet 0 1000 p.a1) then _ else _) = _
    cases h : (!isBet 0 1000 p.a0) || (!isBet 0 1000 p.a1) with
    | true => rfl
    | false =>
      have h2 : (0 ≤ p.a0 ∧ p.a0 ≤ 1000) ∧ 0 ≤ p.a1 ∧ p.a1 ≤ 1000 := by simpa [isBet] using h
      simp only [cond_false]
      cases decide (p.a1 ≤ p.a0) with
      | true => rfl
      | false =>
        rw [cond_false, crowded_eq l p.a0 p.a1 hn hl (by omega) (by omega) (by omega) (by omega)]
        simp only [Option.bind_some, cond_false]
        cases crowdB l p.a0 p.a1 <;> rfl
def isI (s : Int) (x : Int) : Bool := x == s
def slotE (l : List Window) (s : List Int) (v : Nat) : Int :=
  bif ix s v == (-1) then 0 else bif (decide (ix s v < (ix l v).From)) || (decide ((ix l v).To ≤ ix s v)) then 2 else bif (s.take v).any (isI (ix s v)) then 5 else 0
def putS (s : List Int) (v : Nat) : List (Int × Bool) := (s.take v).foldl (fun m x => bif x == (-1) then m else mPut x true m) []
def cntS (s : List Int) (v : Nat) : Nat := (s.take v).countP fun x => !(x == (-1))
theorem putS_succ (s : List Int) {v : Nat} (h : v < s.length) : putS s (v + 1) = bif ix s v == (-1) then putS s v else mPut (ix s v) true (putS s v) := by
  rw [putS, take_snoc h, List.foldl_append]; rfl
theorem cntS_succ (s : List Int) {v : Nat} (h : v < s.length) : cntS s (v + 1) = bif ix s v == (-1) then cntS s v else cntS s v + 1 := by
  rw [cntS, take_snoc h, List.countP_append, List.countP_singleton]
  cases ix s v == (-1) <;> rfl
theorem putS_lookup (s : List Int) (x : Int) (hx : (x == (-1)) = false) : ∀ v, v ≤ s.length → List.lookup x (putS s v) = bif (s.take v).any (isI x) then some true else none := by
  intro v
  induction v with
  | zero => intro _; rfl
  | succ v ih =>
    intro h
    have hv : v < s.length := by omega
    rw [putS_succ s hv, take_snoc hv, List.any_append]
    simp only [List.any_cons, List.any_nil, Bool.or_false]
    cases e : ix s v == (-1) with
    | true =>
      have e' : ix s v = -1 := by simpa using e
      have : isI x (ix s v) = false := by
        rw [isI, e']
        have : ¬ x = -1 := beq_eq_false_iff_ne.1 hx
        exact beq_eq_false_iff_ne.2 fun h => this h.symm
      rw [cond_true, ih (by omega), this, Bool.or_false]
    | false =>
      rw [cond_false, lookup_mPut, ih (by omega)]
      have : (x == ix s v) = isI x (ix s v) := by
        rw [isI, Bool.eq_iff_iff]; rw [beq_iff_eq, beq_iff_eq]; exact eq_comm
      rw [this]
      cases isI x (ix s v) <;> cases (s.take v).any (isI x) <;> rfl
theorem putS_length (l : List Window) (s : List Int) : ∀ v, v ≤ s.length → (∀ j, j < v → slotE l s j = 0) → (putS s v).length = cntS s v := by
  intro v
  induction v with
  | zero => intro _ _; rfl
  | succ v ih =>
    intro h hz
    have hv : v < s.length := by omega
    have h0 := hz v (by omega)
    have h1 := ih (by omega) fun j hj => hz j (by omega)
    rw [putS_succ s hv, cntS_succ s hv]
    rw [slotE] at h0
    cases e : ix s v == (-1) with
    | true => rw [cond_true, cond_true]; exact h1
    | false =>
      rw [e, cond_false] at h0
      cases e2 : (decide (ix s v < (ix l v).From)) || (decide ((ix l v).To ≤ ix s v)) with
      | true => rw [e2] at h0; simp at h0
      | false =>
        rw [e2, cond_false] at h0
        cases e3 : (s.take v).any (isI (ix s v)) with
        | true => rw [e3] at h0; simp at h0
        | false =>
          rw [cond_false, cond_false, length_mPut _ _ _ (by rw [putS_lookup s _ e v (by omega), e3]; rfl), h1]
def slotsD (l : List Window) (s : List Int) : Int × Int :=
  bif !decide (s.length = l.length) then (10, 0) else bif firstE (slotE l s) 0 s.length != 0 then (firstE (slotE l s) 0 s.length, 0) else (0, ((cntS s s.length : Nat) : Int))
theorem CheckSlots_eq (l : List Window) (s : List Int) (hn : 1000 < n) (hl : l.length ≤ 900) : diary_CheckSlots n l s = some (bif winD l != 0 then (winD l, 0) else slotsD l s) := by
  rw [diary_CheckSlots, CheckWindows_eq l hn hl, slotsD]
  simp only [Option.bind_some]
  cases winD l != 0 with
  | true => rfl
  | false =>
    simp only [cond_false]
    cases hlen : decide (s.length = l.length) with
    | false => rfl
    | true =>
      have hlen : s.length = l.length := of_decide_eq_true hlen
      simp only [Bool.not_true, cond_false, withK_eq]
      have := loop_first (F := diary_CheckSlots_L1 l s fun v6 => some (0, ((v6.length : Nat) : Int))) (st := fun v => (v, putS s v)) (E := slotE l s) (err := fun e => some (e, 0)) (k := some (0, ((cntS s s.length : Nat) : Int))) (len := s.length) (fun back v hv hz => ?_) (fun back hz => ?_) n 0 (by omega) (by omega) (fun j h => by omega)
      · rw [Nat.sub_zero] at this
        refine Eq.trans this ?_
        cases firstE (slotE l s) 0 s.length != 0 <;> rfl
      · rw [diary_CheckSlots_L1]
        simp only [hv, (by omega : v < l.length), decide_true, cond_true, withK_eq, nI_of (by omega : v + 1 ≤ 9223372036854775807), chk_t, slotE, putS_succ s hv]
        cases e : ix s v == (-1) with
        | true => rfl
        | false =>
          rw [putS_lookup s _ e v (by omega)]
          cases (decide (ix s v < (ix l v).From)) || (decide ((ix l v).To ≤ ix s v)) <;> cases (s.take v).any (isI (ix s v)) <;> rfl
      · rw [diary_CheckSlots_L1]
        simp only [Nat.lt_irrefl, decide_false, cond_false, putS_length l s s.length (by omega) hz]
end
section
set_option maxRecDepth 4000
open Go
def fitW (l : List Window) (sl : List Int) (s v : Nat) (b : Int) : Bool :=
  (((decide ((ix sl v) < (0 : Int))) && (decide (((ix l v).From) ≤ ((s : Nat) : Int)))) && (decide (((s : Nat) : Int) < ((ix l v).To)))) && ((decide (b < (0 : Int))) || (decide (((ix l v).To) < ((ix l b.toNat).To))))
def bestW (l : List Window) (sl : List Int) (s : Nat) : Nat → Int
  | 0 => -1
  | v + 1 => bif fitW l sl s v (bestW l sl s v) then ((v : Nat) : Int) else bestW l sl s v
theorem bestW_rng (l : List Window) (sl : List Int) (s : Nat) : ∀ v, -1 ≤ bestW l sl s v ∧ bestW l sl s v < ((v : Nat) : Int)
  | 0 => by simp [bestW]
  | v + 1 => by
    have ih := bestW_rng l sl s v
    unfold bestW
    cases fitW l sl s v (bestW l sl s v) <;> simp only [cond_true, cond_false] <;> omega
def slotsW (l : List Window) : Nat → List Int
  | 0 => List.replicate l.length (-1)
  | s + 1 => bif decide ((0 : Int) ≤ bestW l (slotsW l s) s l.length) then (slotsW l s).set (bestW l (slotsW l s) s l.length).toNat ((s : Nat) : Int) else slotsW l s
theorem slotsW_len (l : List Window) : ∀ s, (slotsW l s).length = l.length
  | 0 => by simp [slotsW]
  | s + 1 => by
    unfold slotsW
    cases decide ((0 : Int) ≤ bestW l (slotsW l s) s l.length) <;> simp [slotsW_len l s]
def mostW (l : List Window) : List Int := slotsW l 1000
theorem rep_len : ∀ k, k ≤ 60 → (List.replicate ((IntKind.u64.wrap ((IntKind.u64.wrap ((([(-1)] : List Int).length : Nat) : Int)) * (IntKind.u64.wrap ((k : Nat) : Int)))).toNat) (0 : Int)).length = k := by
  have h : (List.range 61).all (fun k => decide ((IntKind.u64.wrap ((IntKind.u64.wrap ((([(-1)] : List Int).length : Nat) : Int)) * (IntKind.u64.wrap ((k : Nat) : Int)))).toNat = k)) = true := by decide +kernel
  intro k hk
  rw [List.length_replicate]
  rw [List.all_eq_true] at h
  exact of_decide_eq_true (h k (by simp; omega))
theorem rep_eq : ∀ k, k ≤ 60 → slices_Repeat_int 2000 [-1] ((k : Nat) : Int) = some (List.replicate k (-1)) := by
  have h : (List.range 61).all (fun k => decide (slices_Repeat_int 2000 [-1] ((k : Nat) : Int) = some (List.replicate k (-1)))) = true := by decide +kernel
  intro k hk
  rw [List.all_eq_true] at h
  exact of_decide_eq_true (h k (by simp; omega))
theorem schedule_in (l : List Window) (hl : l.length ≤ 60) (s : Nat) (sl : List Int) (hsl : sl.length = l.length) (k : Int → Option (List Int)) : loopN (diary_schedule_L1 l s sl k) 2000 (-1, 0) = k (bestW l sl s l.length) := by
  refine loop_fold (st := fun v => bestW l sl s v) (len := l.length) (fun back v hv => ?_) (fun back => ?_) 2000 (by omega) rfl
  · have hb := bestW_rng l sl s v
    rw [diary_schedule_L1]
    have hB : ∀ g : Bool, (!(g && !(decide (bestW l sl s v < 0))) || inB (bestW l sl s v) l.length) = true := fun g => by
      by_cases h : bestW l sl s v < 0
      · simp [h]
      · rw [inB_of (by omega) (by omega), Bool.or_true]
    have hT : ∀ g : Bool, (!(g && !(decide (bestW l sl s v < 0))) || decide ((bestW l sl s v).toNat < l.length)) = true := fun g => by
      by_cases h : bestW l sl s v < 0
      · simp [h]
      · rw [decide_eq_true (by omega : (bestW l sl s v).toNat < l.length), Bool.or_true]
    simp only [hv, (by omega : v < sl.length), decide_true, cond_true, withK_eq, rep_len l.length hl, nI_of (by omega : v + 1 ≤ 9223372036854775807), chk_t, hB, hT]
    show (bif fitW l sl s v (bestW l sl s v) then _ else _) = _
    simp only [bestW]
    cases fitW l sl s v (bestW l sl s v) <;> rfl
  · rw [diary_schedule_L1]; simp
theorem schedule_eq (l : List Window) (hl : l.length ≤ 60) : diary_schedule 2000 l = some (mostW l) := by
  rw [diary_schedule, rep_eq l.length hl]
  simp only [Option.bind_some, withK_eq]
  refine loop_fold' (st := slotsW l) (len := 1000) (fun back s hs => ?_) (fun back => ?_) 2000 (by omega) rfl
  · have hlen := slotsW_len l s
    have hb := bestW_rng l (slotsW l s) s l.length
    rw [diary_schedule_L2]
    simp only [hs, decide_true, cond_true, withK_eq, schedule_in l hl s (slotsW l s) hlen, nI_of (by omega : s + 1 ≤ 9223372036854775807), chk_t, rep_len l.length hl, slotsW]
    by_cases h : (0 : Int) ≤ bestW l (slotsW l s) s l.length
    · rw [decide_eq_true h, inB_of h (by omega), decide_eq_true (by omega : (bestW l (slotsW l s) s l.length).toNat < (slotsW l s).length)]; rfl
    · rw [decide_eq_false h]; rfl
  · rw [diary_schedule_L2]; simp [mostW]
theorem Most_eq (l : List Window) (hl : l.length ≤ 63) : diary_Most 2000 l = some (bif winD l != 0 then .inl (winD l) else .inr (mostW l)) := by
  rw [diary_Most, CheckWindows_eq l (by omega) (by omega)]
  simp only [Option.bind_some]
  by_cases h : winD l = 0
  · rw [h, schedule_eq l (winD_zero h).len]; rfl
  · rw [bne_t h]; rfl
end
section
set_option maxRecDepth 4000
open Go
def findDown (l : List Window) (t : Int) : Nat → Option Int
  | 0 => none
  | k + 1 => bif crowdB l ((k : Nat) : Int) t then some ((k : Nat) : Int) else findDown l t k
def endsW (l : List Window) (t : Int) : Bool := l.any fun x => x.To == t
def scanC (l : List Window) : Nat → Nat → Option (Int × Int)
  | _, 0 => none
  | t, m + 1 => match (bif endsW l ((t : Nat) : Int) then findDown l ((t : Nat) : Int) t else none) with
    | some a => some (a, ((t : Nat) : Int))
    | none => scanC l (t + 1) m
theorem down_eq (l : List Window) (hl : l.length ≤ 900) (t : Nat) (ht : t ≤ 1000) (k : Unit → Option (Int × Int × Int)) :
    ∀ m n, m ≤ t → m < n → loopN (diary_Crowd_L1 2000 l ((t : Nat) : Int) k) n (((m : Nat) : Int) - 1) = match findDown l ((t : Nat) : Int) m with | some a => some (0, a, ((t : Nat) : Int)) | none => k () := by
  intro m
  induction m with
  | zero =>
    intro n _ hn
    obtain ⟨n, rfl⟩ : ∃ q, n = q + 1 := ⟨n - 1, by omega⟩
    rw [loopN_s, diary_Crowd_L1]; rfl
  | succ m ih =>
    intro n hm hn
    obtain ⟨n, rfl⟩ : ∃ q, n = q + 1 := ⟨n - 1, by omega⟩
    have e : ((m + 1 : Nat) : Int) - 1 = ((m : Nat) : Int) := by omega
    rw [e, loopN_s, diary_Crowd_L1, decide_eq_true (by omega : (0 : Int) ≤ ((m : Nat) : Int)), cond_true, crowded_eq l _ _ (by omega : 1000 < 2000) hl (by omega) (by omega) (by omega) (by omega)]
    simp only [Option.bind_some, findDown, inI_of (by omega : -9223372036854775808 ≤ ((m : Nat) : Int) - 1) (by omega), chk_t]
    cases crowdB l ((m : Nat) : Int) ((t : Nat) : Int) with
    | true => rfl
    | false => exact ih n (by omega) (by omega)
theorem Ends_eq (l : List Window) (t : Int) (hl : l.length ≤ 900) : slices_ContainsFunc_Window 2000 l t = some (endsW l t) := by
  rw [slices_ContainsFunc_Window, slices_IndexFunc_Window, withK_eq, loop_findI (l := l) (p := fun x : Window => x.To == t) (fun back v hv => ?_) (fun back => ?_) 2000 (by omega)]
  · simp only [Option.bind_some, findI_any, endsW]
  · rw [slices_IndexFunc_Window_L1]; simp only [hv, diary_Crowd_f1, Option.bind_some, decide_true, cond_true, nI_of (by omega : v + 1 ≤ 9223372036854775807), chk_t]
  · rw [slices_IndexFunc_Window_L1]; simp
theorem scan_eq (l : List Window) (hl : l.length ≤ 900) : ∀ m n t, t + m = 1001 → m < n → loopN (diary_Crowd_L2 2000 l fun _ => some (12, 0, 0)) n ((t : Nat) : Int) = some (match scanC l t m with | some (a, b) => (0, a, b) | none => (12, 0, 0)) := by
  intro m
  induction m with
  | zero =>
    intro n t ht hn
    obtain ⟨n, rfl⟩ : ∃ q, n = q + 1 := ⟨n - 1, by omega⟩
    rw [loopN_s, diary_Crowd_L2, decide_eq_false (by omega : ¬ ((t : Nat) : Int) ≤ 1000)]; rfl
  | succ m ih =>
    intro n t ht hn
    obtain ⟨n, rfl⟩ : ∃ q, n = q + 1 := ⟨n - 1, by omega⟩
    have ih := ih n (t + 1) (by omega) (by omega)
    rw [show ((t + 1 : Nat) : Int) = ((t : Nat) : Int) + 1 by omega] at ih
    rw [loopN_s, diary_Crowd_L2, decide_eq_true (by omega : ((t : Nat) : Int) ≤ 1000), cond_true, Ends_eq l _ hl]
    simp only [Option.bind_some, withK_eq, inI_of (by omega : -9223372036854775808 ≤ ((t : Nat) : Int) + 1) (by omega), inI_of (by omega : -9223372036854775808 ≤ ((t : Nat) : Int) - 1) (by omega), chk_t, scanC]
    cases he : endsW l ((t : Nat) : Int) with
    | false => exact ih
    | true =>
      simp only [Bool.not_true, cond_false, cond_true]
      rw [down_eq l hl t (by omega) _ t 2000 (by omega) (by omega)]
      cases findDown l ((t : Nat) : Int) t with
      | some a => rfl
      | none => exact ih
theorem Crowd_eq (l : List Window) (hl : l.length ≤ 900) : diary_Crowd 2000 l = some (bif winD l != 0 then (winD l, 0, 0) else match scanC l 1 1000 with | some (a, b) => (0, a, b) | none => (12, 0, 0)) := by
  rw [diary_Crowd, CheckWindows_eq l (by omega) hl]
  simp only [Option.bind_some, withK_eq]
  cases winD l != 0 with
  | true => rfl
  | false => rw [cond_false, cond_false]; exact scan_eq l hl 1000 2000 1 rfl (by omega)
theorem ContainsI2_eq (l : List Int) (hl : l.length ≤ 900) : slices_Contains_int_2 2000 l 0 l.length (-1) = some (l.any (isI (-1))) := by
  rw [slices_Contains_int_2, slices_Index_int_2, withK_eq, loop_findI (l := l) (p := isI (-1)) (fun back v hv => ?_) (fun back => ?_) 2000 (by omega)]
  · simp only [Option.bind_some, findI_any]
  · rw [slices_Index_int_2_L1]
    have : (((-1) : Int) == ix l v) = isI (-1) (ix l v) := by rw [isI, Bool.eq_iff_iff, beq_iff_eq, beq_iff_eq]; exact eq_comm
    simp only [hv, Nat.zero_add, decide_true, cond_true, nI_of (by omega : v + 1 ≤ 9223372036854775807), chk_t, this]
  · rw [slices_Index_int_2_L1]; simp
theorem mostW_len (l : List Window) : (mostW l).length = l.length := slotsW_len l 1000
theorem Slots_eq (l : List Window) (hl : l.length ≤ 63) : diary_Slots 2000 l = some (bif winD l != 0 then .inl (winD l) else bif (mostW l).any (isI (-1)) then .inl 16 else .inr (mostW l)) := by
  rw [diary_Slots, Most_eq l hl]
  simp only [Option.bind_some, withK_eq]
  by_cases h : winD l = 0
  · have hk := (winD_zero h).len
    have hm := mostW_len l
    have hr := rep_len l.length hk
    rw [h]
    simp only [bne_self_eq_false, cond_false, hr]
    rw [← hm, ContainsI2_eq (mostW l) (by omega)]
    simp only [Option.bind_some]
    cases (mostW l).any (isI (-1)) <;> rfl
  · simp only [bne_t h, cond_true]
end
section
set_option maxRecDepth 4000
theorem nodupLen {α : Type} [DecidableEq α] : ∀ (l m : List α), l.Nodup → (∀ x ∈ l, x ∈ m) → l.length ≤ m.length
  | [], _, _, _ => Nat.zero_le _
  | a :: l, m, h, hs => by
    have ha : a ∈ m := hs a (by simp)
    have h2 := List.nodup_cons.1 h
    have := nodupLen l (m.erase a) h2.2 fun x hx => (List.mem_erase_of_ne (by rintro rfl; exact h2.1 hx)).2 (hs x (by simp [hx]))
    rw [List.length_erase_of_mem ha] at this
    have hm := List.length_pos_of_mem ha
    simp only [List.length_cons]; omega
theorem nodupMap {α β : Type} {f : α → β} : ∀ {l : List α}, l.Nodup → (∀ x ∈ l, ∀ y ∈ l, f x = f y → x = y) → (l.map f).Nodup
  | [], _, _ => List.nodup_nil
  | a :: l, h, hf => by
    have h2 := List.nodup_cons.1 h
    rw [List.map_cons, List.nodup_cons]
    refine ⟨fun hm => ?_, nodupMap h2.2 fun x hx y hy => hf x (by simp [hx]) y (by simp [hy])⟩
    obtain ⟨x, hx, e⟩ := List.mem_map.1 hm
    have := hf x (by simp [hx]) a (by simp) e
    subst this
    exact h2.1 hx
theorem injLen {α β : Type} [DecidableEq β] {A : List α} {B : List β} (f : α → β) (hA : A.Nodup) (hf : ∀ x ∈ A, f x ∈ B) (hi : ∀ x ∈ A, ∀ y ∈ A, f x = f y → x = y) : A.length ≤ B.length := by
  have := nodupLen (A.map f) B (nodupMap hA hi) fun y hy => by
    obtain ⟨x, hx, rfl⟩ := List.mem_map.1 hy
    exact hf x hx
  simpa using this
structure Edf (N : Nat) (fr to slot : Nat → Int) : Prop where
  win : ∀ i, i < N → 0 ≤ fr i ∧ fr i < to i
  und : ∀ i, i < N → slot i = -1 ∨ fr i ≤ slot i ∧ slot i < to i
  inj : ∀ i j, i < N → j < N → slot i = slot j → slot i ≠ -1 → i = j
  due : ∀ (s : Int) u, 0 ≤ s → u < N → fr u ≤ s → s < to u → (slot u = -1 ∨ s < slot u) → ∃ i, i < N ∧ slot i = s ∧ to i ≤ to u
structure Slotted (N : Nat) (fr to slot : Nat → Int) : Prop where
  und : ∀ i, i < N → slot i = -1 ∨ fr i ≤ slot i ∧ slot i < to i
  inj : ∀ i j, i < N → j < N → slot i = slot j → slot i ≠ -1 → i = j
variable {N : Nat} {fr to slot : Nat → Int}
theorem least_from (p : Nat → Prop) : ∀ n, p n → ∃ a, a ≤ n ∧ p a ∧ (∀ a', a' + 1 = a → ¬ p a')
  | 0, h => ⟨0, Nat.le_refl _, h, fun _ h => by omega⟩
  | n + 1, h => by
    by_cases hp : p n
    · obtain ⟨a, h1, h2, h3⟩ := least_from p n hp
      exact ⟨a, by omega, h2, h3⟩
    · refine ⟨n + 1, Nat.le_refl _, h, fun a' e => ?_⟩
      have : a' = n := by omega
      rw [this]; exact hp
theorem Edf.block (h : Edf N fr to slot) {t : Nat} (ht : t < N) (hu : slot t = -1) : ∃ a : Nat, (a : Int) ≤ fr t ∧ ∀ s : Int, (a : Int) ≤ s → s < to t → ∃ i, i < N ∧ slot i = s ∧ (a : Int) ≤ fr i ∧ to i ≤ to t := by
  obtain ⟨w1, w2⟩ := h.win t ht
  let good (s : Int) : Prop := ∃ i, i < N ∧ slot i = s ∧ to i ≤ to t
  have hst : ∀ s : Int, (((fr t).toNat : Nat) : Int) ≤ s → s < to t → good s := fun s h1 h2 => h.due s t (by omega) ht (by omega) h2 (.inl hu)
  obtain ⟨a, ha, hp, hmin⟩ := least_from (fun a => ∀ s : Int, (a : Int) ≤ s → s < to t → good s) _ hst
  refine ⟨a, by omega, fun s h1 h2 => ?_⟩
  obtain ⟨i, hi, hs, hto⟩ := hp s h1 h2
  refine ⟨i, hi, hs, ?_, hto⟩
  by_cases c : (a : Int) ≤ fr i
  · exact c
  · exfalso
    have hfi := (h.win i hi).1
    obtain ⟨a', rfl⟩ : ∃ a', a = a' + 1 := ⟨a - 1, by omega⟩
    refine hmin a' rfl fun s' h3 h4 => ?_
    by_cases e : ((a' + 1 : Nat) : Int) ≤ s'
    · exact hp s' e h4
    · have e' : s' = a' := by omega
      subst e'
      have hw := h.und i hi
      obtain ⟨j, hj, hjs, hjt⟩ := h.due (a' : Int) i (by omega) hi (by omega) (by omega) (.inr (by omega))
      exact ⟨j, hj, hjs, by omega⟩
noncomputable def blockA (N : Nat) (fr to slot : Nat → Int) (t : Nat) : Nat := @dite Nat (∃ a : Nat, (a : Int) ≤ fr t ∧ ∀ s : Int, (a : Int) ≤ s → s < to t → ∃ i, i < N ∧ slot i = s ∧ (a : Int) ≤ fr i ∧ to i ≤ to t) (Classical.propDecidable _) (fun h => Classical.choose h) fun _ => 0
theorem Edf.blockA (h : Edf N fr to slot) {t : Nat} (ht : t < N) (hu : slot t = -1) : (As.blockA N fr to slot t : Int) ≤ fr t ∧ ∀ s : Int, (As.blockA N fr to slot t : Int) ≤ s → s < to t → ∃ i, i < N ∧ slot i = s ∧ (As.blockA N fr to slot t : Int) ≤ fr i ∧ to i ≤ to t := by
  unfold As.blockA
  rw [dif_pos (h.block ht hu)]
  exact Classical.choose_spec (h.block ht hu)
def doneL (N : Nat) (slot : Nat → Int) : List Nat := (List.range N).filter fun i => decide (slot i ≠ -1)
theorem mem_doneL {i : Nat} : i ∈ doneL N slot ↔ i < N ∧ slot i ≠ -1 := by simp [doneL]
theorem doneL_nodup : (doneL N slot).Nodup := List.Nodup.sublist List.filter_sublist List.nodup_range
def Tight (N : Nat) (fr to slot : Nat → Int) (s : Int) : Prop := ∃ t, t < N ∧ slot t = -1 ∧ (blockA N fr to slot t : Int) ≤ s ∧ s < to t
def Within (fr to : Nat → Int) (Z : Int → Prop) (i : Nat) : Prop := ∀ s, fr i ≤ s → s < to i → Z s
theorem Edf.tight (h : Edf N fr to slot) {s : Int} (hs : Tight N fr to slot s) : ∃ i, i < N ∧ slot i = s ∧ Within fr to (Tight N fr to slot) i := by
  obtain ⟨t, h1, h2, h3, h4⟩ := hs
  obtain ⟨g1, g2⟩ := h.blockA h1 h2
  obtain ⟨i, hi, e, k1, k2⟩ := g2 s h3 h4
  exact ⟨i, hi, e, fun s' q1 q2 => ⟨t, h1, h2, by omega, by omega⟩⟩
theorem Edf.most (h : Edf N fr to slot) {sl : Nat → Int} (hs : Slotted N fr to sl) : (doneL N sl).length ≤ (doneL N slot).length := by
  classical
  let Z := Tight N fr to slot
  have hex : ∀ s, Z s → ∃ i, i < N ∧ slot i = s ∧ Within fr to Z i := fun s hz => h.tight hz
  let f : Nat → Nat := fun i => if hw : Within fr to Z i ∧ Z (sl i) then Classical.choose (hex (sl i) hw.2) else i
  have fin : ∀ i, i < N → sl i ≠ -1 → Within fr to Z i → f i < N ∧ slot (f i) = sl i ∧ Within fr to Z (f i) := by
    intro i hi hd hw
    have hz : Z (sl i) := by
      rcases hs.und i hi with e | ⟨e1, e2⟩
      · exact absurd e hd
      · exact hw _ e1 e2
    have : f i = Classical.choose (hex (sl i) hz) := by simp only [f]; rw [dif_pos ⟨hw, hz⟩]
    rw [this]
    exact Classical.choose_spec (hex (sl i) hz)
  have fout : ∀ i, ¬ Within fr to Z i → f i = i := by
    intro i hw
    simp only [f]; rw [dif_neg (fun e => hw e.1)]
  refine injLen f doneL_nodup (fun i hi => ?_) (fun i hi j hj e => ?_)
  · obtain ⟨h1, h2⟩ := mem_doneL.1 hi
    rw [mem_doneL]
    by_cases hw : Within fr to Z i
    · obtain ⟨g1, g2, _⟩ := fin i h1 h2 hw
      exact ⟨g1, by rw [g2]; exact h2⟩
    · rw [fout i hw]
      refine ⟨h1, fun e => hw fun s q1 q2 => ⟨i, h1, e, ?_, q2⟩⟩
      have := (h.blockA h1 e).1
      omega
  · obtain ⟨h1, h2⟩ := mem_doneL.1 hi
    obtain ⟨h3, h4⟩ := mem_doneL.1 hj
    by_cases hw : Within fr to Z i
    · obtain ⟨g1, g2, g3⟩ := fin i h1 h2 hw
      by_cases hv : Within fr to Z j
      · obtain ⟨k1, k2, k3⟩ := fin j h3 h4 hv
        rw [e] at g2
        exact hs.inj i j h1 h3 (g2.symm.trans k2) h2
      · rw [fout j hv] at e
        rw [e] at g3
        exact absurd g3 hv
    · rw [fout i hw] at e
      by_cases hv : Within fr to Z j
      · obtain ⟨k1, k2, k3⟩ := fin j h3 h4 hv
        rw [← e] at k3
        exact absurd k3 hw
      · rw [fout j hv] at e
        exact e
def betw (N : Nat) (fr to : Nat → Int) (a b : Int) : List Nat := (List.range N).filter fun i => decide (a ≤ fr i ∧ to i ≤ b)
theorem mem_betw {a b : Int} {i : Nat} : i ∈ betw N fr to a b ↔ i < N ∧ a ≤ fr i ∧ to i ≤ b := by simp [betw]
theorem betw_nodup {a b : Int} : (betw N fr to a b).Nodup := List.Nodup.sublist List.filter_sublist List.nodup_range
theorem Slotted.noCrowd (h : Slotted N fr to slot) (hall : ∀ i, i < N → slot i ≠ -1) {a b : Int} (hab : a ≤ b) : ((betw N fr to a b).length : Int) ≤ b - a := by
  have := injLen (A := betw N fr to a b) (B := (List.range (b - a).toNat).map fun (k : Nat) => a + (k : Int)) slot betw_nodup (fun i hi => ?_) (fun i hi j hj e => ?_)
  · simp at this; omega
  · obtain ⟨h1, h2, h3⟩ := mem_betw.1 hi
    rcases h.und i h1 with e | ⟨e1, e2⟩
    · exact absurd e (hall i h1)
    · exact List.mem_map.2 ⟨(slot i - a).toNat, List.mem_range.2 (by omega), by omega⟩
  · obtain ⟨h1, _⟩ := mem_betw.1 hi
    obtain ⟨h3, _⟩ := mem_betw.1 hj
    exact h.inj i j h1 h3 e (hall i h1)
theorem Edf.crowd (h : Edf N fr to slot) {t : Nat} (ht : t < N) (hu : slot t = -1) : ∃ a : Int, 0 ≤ a ∧ a < to t ∧ to t - a < ((betw N fr to a (to t)).length : Int) := by
  obtain ⟨a, h1, h2⟩ := h.block ht hu
  have w := h.win t ht
  refine ⟨a, by omega, by omega, ?_⟩
  have hch : ∀ k : Nat, ∃ i, k < (to t - a).toNat → i < N ∧ slot i = (a : Int) + k ∧ (a : Int) ≤ fr i ∧ to i ≤ to t := by
    intro k
    by_cases c : k < (to t - a).toNat
    · obtain ⟨i, hi⟩ := h2 ((a : Int) + k) (by omega) (by omega)
      exact ⟨i, fun _ => hi⟩
    · exact ⟨0, fun e => absurd e c⟩
  let g : Nat → Nat := fun k => Classical.choose (hch k)
  have hg : ∀ k, k < (to t - a).toNat → g k < N ∧ slot (g k) = (a : Int) + k ∧ (a : Int) ≤ fr (g k) ∧ to (g k) ≤ to t := fun k => Classical.choose_spec (hch k)
  have hA : (t :: (List.range (to t - a).toNat).map g).Nodup := by
    rw [List.nodup_cons]
    refine ⟨fun hm => ?_, nodupMap List.nodup_range fun x hx y hy e => ?_⟩
    · obtain ⟨k, hk, e⟩ := List.mem_map.1 hm
      have := hg k (List.mem_range.1 hk)
      rw [e, hu] at this
      omega
    · have h3 := (hg x (List.mem_range.1 hx)).2.1
      have h4 := (hg y (List.mem_range.1 hy)).2.1
      rw [e] at h3
      omega
  have := nodupLen _ (betw N fr to a (to t)) hA fun x hx => by
    rw [mem_betw]
    rcases List.mem_cons.1 hx with rfl | hx
    · exact ⟨ht, by omega, Int.le_refl _⟩
    · obtain ⟨k, hk, rfl⟩ := List.mem_map.1 hx
      have := hg k (List.mem_range.1 hk)
      exact ⟨this.1, this.2.2.1, this.2.2.2⟩
  simp at this
  omega
end
section
set_option maxRecDepth 4000
open Go
theorem ix_set2 {v : List Int} {j k : Nat} {x : Int} (hj : j < v.length) : ix (v.set j x) k = if k = j then x else ix v k := by
  by_cases h : k = j
  · subst h
    rw [if_pos rfl, ix_eq (by simpa using hj)]
    simp
  · rw [if_neg h]
    simp only [ix, List.getD, List.getElem?_set_ne (Ne.symm h)]
def fits (l : List Window) (sl : List Int) (s u : Nat) : Prop := ix sl u < 0 ∧ (ix l u).From ≤ ((s : Nat) : Int) ∧ ((s : Nat) : Int) < (ix l u).To
theorem best_spec (l : List Window) (sl : List Int) (s : Nat) : ∀ v, (bestW l sl s v = -1 ∧ ∀ u, u < v → ¬ fits l sl s u) ∨ ∃ i : Nat, i < v ∧ bestW l sl s v = ((i : Nat) : Int) ∧ fits l sl s i ∧ ∀ u, u < v → fits l sl s u → (ix l i).To ≤ (ix l u).To
  | 0 => .inl ⟨rfl, fun u h => by omega⟩
  | v + 1 => by
    have ih := best_spec l sl s v
    rw [bestW]
    cases hf : fitW l sl s v (bestW l sl s v) with
    | false =>
      simp only [cond_false]
      rcases ih with ⟨h1, h2⟩ | ⟨i, h1, h2, h3, h4⟩
      · refine .inl ⟨h1, fun u hu hfu => ?_⟩
        by_cases e : u = v
        · subst e
          rw [fitW, h1, decide_eq_true hfu.1, decide_eq_true hfu.2.1, decide_eq_true hfu.2.2] at hf
          simp at hf
        · exact h2 u (by omega) hfu
      · refine .inr ⟨i, by omega, h2, h3, fun u hu hfu => ?_⟩
        by_cases e : u = v
        · subst e
          rw [fitW, h2, decide_eq_true hfu.1, decide_eq_true hfu.2.1, decide_eq_true hfu.2.2, Int.toNat_natCast] at hf
          simp only [Bool.true_and, Bool.or_eq_false_iff, decide_eq_false_iff_not] at hf
          omega
        · exact h4 u (by omega) hfu
    | true =>
      simp only [cond_true]
      rw [fitW, Bool.and_eq_true, Bool.and_eq_true, Bool.and_eq_true, Bool.or_eq_true] at hf
      simp only [decide_eq_true_eq] at hf
      obtain ⟨⟨⟨f1, f2⟩, f3⟩, f4⟩ := hf
      refine .inr ⟨v, by omega, rfl, ⟨f1, f2, f3⟩, fun u hu hfu => ?_⟩
      by_cases e : u = v
      · subst e; exact Int.le_refl _
      · rcases ih with ⟨h1, h2⟩ | ⟨i, h1, h2, h3, h4⟩
        · exact absurd hfu (h2 u (by omega))
        · rw [h2, Int.toNat_natCast] at f4
          have := h4 u (by omega) hfu
          omega
theorem slotsW_step (l : List Window) (s : Nat) : (∀ u, u < l.length → ¬ fits l (slotsW l s) s u) ∧ slotsW l (s + 1) = slotsW l s ∨ ∃ i : Nat, i < l.length ∧ fits l (slotsW l s) s i ∧ (∀ u, u < l.length → fits l (slotsW l s) s u → (ix l i).To ≤ (ix l u).To) ∧ slotsW l (s + 1) = (slotsW l s).set i ((s : Nat) : Int) := by
  rw [slotsW]
  rcases best_spec l (slotsW l s) s l.length with ⟨h1, h2⟩ | ⟨i, h1, h2, h3, h4⟩
  · rw [h1]; exact .inl ⟨h2, rfl⟩
  · rw [h2, decide_eq_true (by omega), cond_true, Int.toNat_natCast]
    exact .inr ⟨i, h1, h3, h4, rfl⟩
structure SlI (l : List Window) (s : Nat) (sl : List Int) : Prop where
  und : ∀ i, i < l.length → ix sl i = -1 ∨ (0 ≤ ix sl i ∧ ix sl i < ((s : Nat) : Int) ∧ (ix l i).From ≤ ix sl i ∧ ix sl i < (ix l i).To)
  inj : ∀ i j, i < l.length → j < l.length → ix sl i = ix sl j → ix sl i ≠ -1 → i = j
theorem slI (l : List Window) : ∀ s, SlI l s (slotsW l s)
  | 0 => by
    have h : ∀ i, i < l.length → ix (slotsW l 0) i = -1 := fun i hi => by
      rw [ix_eq (by rw [slotsW_len]; exact hi)]
      simp [slotsW]
    exact ⟨fun i hi => .inl (h i hi), fun i j hi hj _ hne => absurd (h i hi) hne⟩
  | s + 1 => by
    have ih := slI l s
    have hlen := slotsW_len l s
    rcases slotsW_step l s with ⟨_, h2⟩ | ⟨b, h1, h2, _, h4⟩
    · rw [h2]
      refine ⟨fun i hi => ?_, ih.inj⟩
      rcases ih.und i hi with h | ⟨g1, g2, g3, g4⟩
      · exact .inl h
      · exact .inr ⟨g1, by omega, g3, g4⟩
    · rw [h4]
      refine ⟨fun i hi => ?_, fun i j hi hj => ?_⟩
      · rw [ix_set2 (by omega)]
        split
        · rename_i e
          subst e
          exact .inr ⟨by omega, by omega, h2.2.1, h2.2.2⟩
        · rcases ih.und i hi with h | ⟨g1, g2, g3, g4⟩
          · exact .inl h
          · exact .inr ⟨g1, by omega, g3, g4⟩
      · rw [ix_set2 (by omega), ix_set2 (by omega)]
        split <;> split
        · intro _ _; omega
        · intro e _
          rcases ih.und j hj with h | ⟨g1, g2, g3, g4⟩ <;> omega
        · intro e _
          rcases ih.und i hi with h | ⟨g1, g2, g3, g4⟩ <;> omega
        · exact ih.inj i j hi hj
theorem slotsW_keep (l : List Window) {i : Nat} (hi : i < l.length) : ∀ m s, 0 ≤ ix (slotsW l s) i → ix (slotsW l (s + m)) i = ix (slotsW l s) i
  | 0, _, _ => rfl
  | m + 1, s, h => by
    have ih := slotsW_keep l hi m s h
    have hlen := slotsW_len l (s + m)
    rw [← ih] at h
    rw [← ih]
    rcases slotsW_step l (s + m) with ⟨_, h2⟩ | ⟨b, h1, h2, _, h4⟩
    · rw [Nat.add_succ, h2]
    · rw [Nat.add_succ, h4, ix_set2 (by omega), if_neg]
      intro e
      subst e
      have := h2.1
      omega
theorem mostW_edf (l : List Window) (hw : ∀ x ∈ l, 0 ≤ x.From ∧ x.From < x.To ∧ x.To ≤ 1000) : Edf l.length (fun i => (ix l i).From) (fun i => (ix l i).To) (fun i => ix (mostW l) i) := by
  have I := slI l 1000
  refine ⟨fun i hi => ?_, fun i hi => ?_, fun i j hi hj => I.inj i j hi hj, fun s u hs hu h1 h2 h3 => ?_⟩
  · have := hw _ (ix_mem hi); exact ⟨this.1, this.2.1⟩
  · rcases I.und i hi with h | ⟨g1, g2, g3, g4⟩
    · exact .inl h
    · exact .inr ⟨g3, g4⟩
  · obtain ⟨t, rfl⟩ : ∃ t : Nat, s = ((t : Nat) : Int) := ⟨s.toNat, by omega⟩
    have hb := hw _ (ix_mem hu)
    have It := slI l t
    have hu1 : ix (slotsW l t) u < 0 := by
      rcases It.und u hu with h | ⟨g1, g2, _⟩
      · omega
      · have hk := slotsW_keep l hu (1000 - t) t g1
        rw [show t + (1000 - t) = 1000 by omega] at hk
        have : ix (mostW l) u = ix (slotsW l t) u := hk
        omega
    have hfu : fits l (slotsW l t) t u := ⟨hu1, h1, h2⟩
    rcases slotsW_step l t with ⟨g1, _⟩ | ⟨b, g1, g2, g3, g4⟩
    · exact absurd hfu (g1 u hu)
    · have hlen := slotsW_len l t
      have e1 : ix (slotsW l (t + 1)) b = ((t : Nat) : Int) := by rw [g4, ix_set2 (by omega), if_pos rfl]
      have hk := slotsW_keep l g1 (1000 - (t + 1)) (t + 1) (by omega)
      rw [show t + 1 + (1000 - (t + 1)) = 1000 by omega] at hk
      have e2 : ix (mostW l) b = ix (slotsW l (t + 1)) b := hk
      exact ⟨b, g1, by omega, g3 u hu hfu⟩
theorem filter_ix {α : Type} [Inhabited α] (l : List α) (p : α → Bool) : ((List.range l.length).filter fun i => p (ix l i)).length = l.countP p := by
  have h : l = (List.range l.length).map (ix l) := by
    refine List.ext_getElem (by simp) fun i h1 h2 => ?_
    simp only [List.getElem_map, List.getElem_range]
    rw [ix_eq h1]
  conv => rhs; rw [h]
  rw [List.countP_map, List.countP_eq_length_filter]
  rfl
theorem doneL_count (sl : List Int) : (doneL sl.length fun i => ix sl i).length = sl.countP fun x => !(x == (-1)) := by
  rw [← filter_ix, doneL]
  congr 1
  refine List.filter_congr fun i _ => ?_
  by_cases h : ix sl i = -1
  · simp [h]
  · simp [h]
theorem betw_count (l : List Window) (a b : Int) : (betw l.length (fun i => (ix l i).From) (fun i => (ix l i).To) a b).length = l.countP (inW a b) := by
  rw [← filter_ix, betw]
  congr 1
  refine List.filter_congr fun i _ => ?_
  rw [inW, Bool.decide_and]
theorem findDown_spec (l : List Window) (t : Int) : ∀ m, (findDown l t m = none ∧ ∀ k : Nat, k < m → crowdB l ((k : Nat) : Int) t = false) ∨ ∃ k : Nat, k < m ∧ findDown l t m = some ((k : Nat) : Int) ∧ crowdB l ((k : Nat) : Int) t = true
  | 0 => .inl ⟨rfl, fun k h => by omega⟩
  | m + 1 => by
    rw [findDown]
    cases h : crowdB l ((m : Nat) : Int) t with
    | true => exact .inr ⟨m, by omega, rfl, h⟩
    | false =>
      rw [cond_false]
      rcases findDown_spec l t m with ⟨h1, h2⟩ | ⟨k, h1, h2, h3⟩
      · refine .inl ⟨h1, fun k hk => ?_⟩
        by_cases e : k = m
        · rw [e]; exact h
        · exact h2 k (by omega)
      · exact .inr ⟨k, by omega, h2, h3⟩
theorem scanC_spec (l : List Window) : ∀ m t, (scanC l t m = none ∧ ∀ u, t ≤ u → u < t + m → endsW l ((u : Nat) : Int) = true → ∀ k : Nat, k < u → crowdB l ((k : Nat) : Int) ((u : Nat) : Int) = false) ∨
    ∃ k u : Nat, scanC l t m = some (((k : Nat) : Int), ((u : Nat) : Int)) ∧ t ≤ u ∧ u < t + m ∧ k < u ∧ crowdB l ((k : Nat) : Int) ((u : Nat) : Int) = true
  | 0, t => .inl ⟨rfl, fun u h1 h2 => by omega⟩
  | m + 1, t => by
    rw [scanC]
    cases he : endsW l ((t : Nat) : Int) with
    | false =>
      simp only [cond_false]
      rcases scanC_spec l m (t + 1) with ⟨h1, h2⟩ | ⟨k, u, h1, h2, h3, h4, h5⟩
      · refine .inl ⟨h1, fun u g1 g2 g3 => ?_⟩
        by_cases e : u = t
        · subst e; rw [he] at g3; cases g3
        · exact h2 u (by omega) (by omega) g3
      · exact .inr ⟨k, u, h1, by omega, by omega, h4, h5⟩
    | true =>
      simp only [cond_true]
      rcases findDown_spec l ((t : Nat) : Int) t with ⟨f1, f2⟩ | ⟨k, f1, f2, f3⟩
      · rw [f1]
        simp only []
        rcases scanC_spec l m (t + 1) with ⟨h1, h2⟩ | ⟨k, u, h1, h2, h3, h4, h5⟩
        · refine .inl ⟨h1, fun u g1 g2 g3 => ?_⟩
          by_cases e : u = t
          · subst e; exact f2
          · exact h2 u (by omega) (by omega) g3
        · exact .inr ⟨k, u, h1, by omega, by omega, h4, h5⟩
      · rw [f2]
        exact .inr ⟨k, t, rfl, Nat.le_refl _, by omega, f1, f3⟩
theorem hall_iff (l : List Window) (hw : ∀ x ∈ l, 0 ≤ x.From ∧ x.From < x.To ∧ x.To ≤ 1000) : (mostW l).any (isI (-1)) = (scanC l 1 1000).isSome := by
  have E := mostW_edf l hw
  have hlen := mostW_len l
  cases hm : (mostW l).any (isI (-1)) with
  | true =>
    obtain ⟨x, hx, hx2⟩ := List.any_eq_true.1 hm
    rw [isI, beq_iff_eq] at hx2
    obtain ⟨i, hi, rfl⟩ := List.mem_iff_getElem.1 hx
    have hu : ix (mostW l) i = -1 := by rw [ix_eq hi]; exact hx2
    obtain ⟨a, g1, g2, g3⟩ := E.crowd (t := i) (by omega) hu
    have hb := hw _ (ix_mem (show i < l.length by omega))
    rcases scanC_spec l 1000 1 with ⟨h1, h2⟩ | ⟨k, u, h1, _⟩
    · exfalso
      obtain ⟨k, rfl⟩ : ∃ k : Nat, a = ((k : Nat) : Int) := ⟨a.toNat, by omega⟩
      obtain ⟨u, hu2⟩ : ∃ u : Nat, (ix l i).To = ((u : Nat) : Int) := ⟨(ix l i).To.toNat, by omega⟩
      have he : endsW l ((u : Nat) : Int) = true := by
        rw [endsW, List.any_eq_true]
        exact ⟨ix l i, ix_mem (by omega), by rw [hu2, beq_self_eq_true]⟩
      have := h2 u (by omega) (by omega) he k (by omega)
      rw [crowdB, ← betw_count, ← hu2] at this
      have := of_decide_eq_false this
      omega
    · rw [h1]; rfl
  | false =>
    rcases scanC_spec l 1000 1 with ⟨h1, _⟩ | ⟨k, u, h1, h2, h3, h4, h5⟩
    · rw [h1]; rfl
    · exfalso
      have hall : ∀ i, i < l.length → ix (mostW l) i ≠ -1 := fun i hi e => by
        have := List.any_eq_false.1 hm _ (ix_mem (show i < (mostW l).length by omega))
        rw [isI, e] at this
        exact this rfl
      have := Slotted.noCrowd ⟨E.und, E.inj⟩ hall (a := ((k : Nat) : Int)) (b := ((u : Nat) : Int)) (by omega)
      rw [betw_count] at this
      have := of_decide_eq_true h5
      omega
end
section
set_option maxRecDepth 4000
open Go
def countD (l : List Int) : Nat := l.countP fun x => !(x == (-1))
theorem done_2_eq (l : List Int) (hl : l.length ≤ 900) : agraffelaw09_done_2 2000 l 0 l.length = some ((countD l : Nat) : Int) := by
  rw [agraffelaw09_done_2, withK_eq]
  refine loop_fold (st := fun v => (l.take v).countP fun x => !(x == (-1))) (len := l.length) (fun back v hv => ?_) (fun back => ?_) 2000 (by omega) rfl
  · have hc : (l.take v).countP (fun x => !(x == (-1))) ≤ v := Nat.le_trans List.countP_le_length (by simp; omega)
    rw [agraffelaw09_done_2_L1]
    simp only [hv, decide_true, cond_true, withK_eq, Nat.zero_add, chk_t, nI_of (by omega : v + 1 ≤ 9223372036854775807), nI_of (by omega : (l.take v).countP (fun x => !(x == (-1))) + 1 ≤ 9223372036854775807), take_snoc hv, List.countP_append, List.countP_singleton]
    show (bif !(ix l v == (-1)) then _ else _) = _
    cases ix l v == (-1) <;> rfl
  · rw [agraffelaw09_done_2_L1]
    simp only [Nat.lt_irrefl, decide_false, cond_false, List.take_length, countD]
theorem Most_2_eq (l : List Window) : diary_Most_2 2000 l = diary_Most 2000 l := rfl
theorem slotsD_right {l : List Window} {s : List Int} (h : (slotsD l s).1 = 0) : s.length = l.length ∧ Slotted l.length (fun i => (ix l i).From) (fun i => (ix l i).To) (fun i => ix s i) ∧ (slotsD l s).2 = ((countD s : Nat) : Int) := by
  rw [slotsD] at h ⊢
  cases hd : decide (s.length = l.length) with
  | false => rw [hd] at h; simp at h
  | true =>
    have hlen := of_decide_eq_true hd
    rw [hd] at h
    simp only [Bool.not_true, cond_false] at h ⊢
    by_cases hz : firstE (slotE l s) 0 s.length = 0
    · have hall : ∀ j, j < s.length → slotE l s j = 0 := fun j hj => firstE_zero hz j (Nat.zero_le _) (by omega)
      rw [hz]
      simp only [bne_self_eq_false, cond_false]
      refine ⟨hlen, ⟨fun i hi => ?_, fun i j hi hj he hne => ?_⟩, by rw [cntS, List.take_length]; rfl⟩
      · have := hall i (by omega)
        rw [slotE] at this
        by_cases c : ix s i = -1
        · exact .inl c
        · have cb : (ix s i == -1) = false := beq_eq_false_iff_ne.2 c
          rw [cb, cond_false] at this
          refine .inr ?_
          cases c2 : (decide (ix s i < (ix l i).From)) || (decide ((ix l i).To ≤ ix s i)) with
          | true => rw [c2] at this; simp at this
          | false =>
            simp only [Bool.or_eq_false_iff, decide_eq_false_iff_not] at c2
            omega
      · have key : ∀ a b, a < b → b < s.length → ix s a = ix s b → ix s b ≠ -1 → False := fun a b hab hb e hn => by
          have := hall b hb
          rw [slotE] at this
          have cb : (ix s b == -1) = false := beq_eq_false_iff_ne.2 hn
          rw [cb, cond_false] at this
          have hany : (s.take b).any (isI (ix s b)) = true := by
            rw [List.any_eq_true]
            refine ⟨ix s a, ?_, by rw [isI, e, beq_self_eq_true]⟩
            rw [← ix_take hab (by omega)]
            exact ix_mem (by simp; omega)
          cases c2 : (decide (ix s b < (ix l b).From)) || (decide ((ix l b).To ≤ ix s b)) with
          | true => rw [c2] at this; simp at this
          | false => rw [c2, hany] at this; simp at this
        rcases Nat.lt_trichotomy i j with c | c | c
        · exact (key i j c (by omega) he (by rw [← he]; exact hne)).elim
        · exact c
        · exact (key j i c (by omega) he.symm hne).elim
    · rw [bne_t hz, cond_true] at h
      exact absurd h hz
theorem okW {l : List Window} (h : winD l = 0) : ∀ x ∈ l, 0 ≤ x.From ∧ x.From < x.To ∧ x.To ≤ 1000 := fun x hx => ⟨(winD_zero h).lo x hx, (winD_zero h).lt x hx, (winD_zero h).hi x hx⟩
theorem slots_most {l : List Window} {s : List Int} (hw : winD l = 0) (h : (slotsD l s).1 = 0) : (slotsD l s).2 ≤ ((countD (mostW l) : Nat) : Int) := by
  obtain ⟨h1, h2, h3⟩ := slotsD_right h
  have E := (mostW_edf l (okW hw)).most h2
  have e1 := doneL_count s
  have e2 := doneL_count (mostW l)
  rw [h1] at e1
  rw [mostW_len] at e2
  rw [h3]
  have e1 : (doneL l.length fun i => ix s i).length = countD s := e1
  have e2 : (doneL l.length fun i => ix (mostW l) i).length = countD (mostW l) := e2
  omega
theorem ix_app {α : Type} [Inhabited α] {l m : List α} {i : Nat} (h : i < l.length) : ix (l ++ m) i = ix l i := by
  rw [ix_eq (by simp; omega), ix_eq h, List.getElem_append_left h]
theorem ix_app1 {α : Type} [Inhabited α] {l : List α} {x : α} : ix (l ++ [x]) l.length = x := by
  rw [ix_eq (by simp), List.getElem_append_right (Nat.le_refl _)]; simp
theorem more_most {l : List Window} {w : Window} (hw : winD l = 0) (hw2 : winD (l ++ [w]) = 0) : countD (mostW l) ≤ countD (mostW (l ++ [w])) := by
  have I := mostW_edf l (okW hw)
  have hlen := mostW_len l
  have hl1 : (l ++ [w]).length = l.length + 1 := by simp
  have S : Slotted (l ++ [w]).length (fun i => (ix (l ++ [w]) i).From) (fun i => (ix (l ++ [w]) i).To) (fun i => ix (mostW l ++ [-1]) i) := by
    have hlast : ix (mostW l ++ [-1]) l.length = -1 := by rw [← hlen]; exact ix_app1
    refine ⟨fun i hi => ?_, fun i j hi hj he hne => ?_⟩
    · simp only [hl1] at hi
      by_cases c : i = l.length
      · subst c; exact .inl hlast
      · have hi' : i < l.length := by omega
        simp only [ix_app (m := [w]) hi', ix_app (m := [-1]) (show i < (mostW l).length by omega)]
        exact I.und i hi'
    · simp only [hl1] at hi hj
      have ci : i < l.length := Decidable.byContradiction fun c => hne (by rw [show i = l.length by omega]; exact hlast)
      have cj : j < l.length := Decidable.byContradiction fun c => hne (he.trans (by rw [show j = l.length by omega]; exact hlast))
      simp only [ix_app (m := [-1]) (show i < (mostW l).length by omega), ix_app (m := [-1]) (show j < (mostW l).length by omega)] at he hne
      exact I.inj i j ci cj he hne
  have E := (mostW_edf (l ++ [w]) (okW hw2)).most S
  have e1 := doneL_count (mostW l ++ [-1])
  have e2 := doneL_count (mostW (l ++ [w]))
  have hll : (mostW l ++ [(-1 : Int)]).length = (l ++ [w]).length := by simp [hlen]
  rw [hll] at e1
  rw [mostW_len] at e2
  have e3 : (mostW l ++ [-1]).countP (fun x => !(x == (-1))) = countD (mostW l) := by
    rw [List.countP_append, countD]; rfl
  rw [e3] at e1
  have e2 : (doneL (l ++ [w]).length fun i => ix (mostW (l ++ [w])) i).length = countD (mostW (l ++ [w])) := e2
  omega
theorem crowd_ok {l : List Window} {k u : Nat} (hk : k < u) (hu : u ≤ 1000) (h : crowdB l ((k : Nat) : Int) ((u : Nat) : Int) = true) : crowdD l ((k : Nat) : Int) ((u : Nat) : Int) = 0 := by
  rw [crowdD, isBet, isBet, decide_eq_true (by omega : (0 : Int) ≤ ((k : Nat) : Int)), decide_eq_true (by omega : ((k : Nat) : Int) ≤ 1000), decide_eq_true (by omega : (0 : Int) ≤ ((u : Nat) : Int)), decide_eq_true (by omega : ((u : Nat) : Int) ≤ 1000), decide_eq_false (by omega : ¬ ((u : Nat) : Int) ≤ ((k : Nat) : Int)), h]
  rfl
theorem pure_DiaryHall (a0 : List Window) (a1 : List Int) (a2 : Window) : agraffelaw09_DiaryHall 2000 a0 a1 a2 = some true := by
  have hn : 1000 < 2000 := by omega
  rw [agraffelaw09_DiaryHall, awake_ok 0]
  simp only [Option.bind_some, Bool.not_true, cond_false]
  cases hlim : (decide (10 < a0.length)) || (decide (20 < a1.length)) with
  | true =>
    simp only [Bool.not_true, gcall, cond_false, Option.bind_some, Bool.true_or, cond_true]
  | false =>
    simp only [Bool.or_eq_false_iff, decide_eq_false_iff_not] at hlim
    have hl : a0.length ≤ 10 := by omega
    have hl1 : a1.length ≤ 20 := by omega
    have r1 : room 16 a0.length = true := room_of (by omega) (by omega)
    have r2 : room 8 a1.length = true := room_of (by omega) (by omega)
    have r3 : room 16 (a0 ++ [a2]).length = true := room_of (by simp; omega) (by simp; omega)
    simp only [Bool.not_false, gcall_some_, cond_true, CheckWindows_ref a0 hn (by omega), Option.bind_some, Bool.false_or]
    by_cases hw : winD a0 = 0
    · have hrep := rep_len a0.length (by omega)
      have hrep2 := rep_len (a0 ++ [a2]).length (by simp; omega)
      have hm := mostW_len a0
      have hm2 := mostW_len (a0 ++ [a2])
      have hd1 := done_2_eq (mostW a0) (by omega)
      have hd2 := done_2_eq (mostW (a0 ++ [a2])) (by rw [hm2]; simp; omega)
      rw [hm] at hd1
      rw [hm2] at hd2
      have hall := hall_iff a0 (okW hw)
      have fin : ((agraffelaw09_windows 2000 a0).bind fun _ => chk (room 16 (a0 ++ [a2]).length) <| (diary_Most_2 2000 (a0 ++ [a2])).bind fun y =>
          (match y with
          | .inl v40 => (gcall (!(v40 != (0 : Int))) (agraffelaw09_done 2000 ([] : List Int))).bind fun y41 =>
              (gcall (!(v40 != (0 : Int))) (agraffelaw09_done_2 2000 (mostW a0) 0 a0.length)).bind fun y42 => some ((v40 != (0 : Int)) || (decide (y42 ≤ y41)))
          | .inr v43 => (gcall (!false) (agraffelaw09_done_2 2000 v43 0 (a0 ++ [a2]).length)).bind fun y44 =>
              (gcall (!false) (agraffelaw09_done_2 2000 (mostW a0) 0 a0.length)).bind fun y45 => some (false || (decide (y45 ≤ y44))) : Option Bool)) = some true := by
        simp only [agraffelaw09_windows, r1, r3, chk_t, Option.bind_some, Most_2_eq, Most_eq (a0 ++ [a2]) (by simp; omega)]
        by_cases hw2 : winD (a0 ++ [a2]) = 0
        · rw [hw2]
          simp only [bne_self_eq_false, cond_false, hd1, hd2, gcall_some_, Option.bind_some, Bool.not_false, cond_true, Bool.false_or]
          have := more_most hw hw2
          rw [decide_eq_true (by omega)]
        · rw [bne_t hw2]
          simp only [cond_true, bne_t hw2, Bool.not_true, gcall, cond_false, Option.bind_some, Bool.true_or]
      have own : ∀ K : Option Bool, ((agraffelaw09_windows 2000 a0).bind fun _ => (agraffebase_CopyInts 2000 a1).bind fun _ => (diary_CheckSlots 2000 a0 a1).bind fun y34 =>
          (gcall (y34.1 == (0 : Int)) (agraffelaw09_done_2 2000 (mostW a0) 0 a0.length)).bind fun y35 => bif (y34.1 == (0 : Int)) && (decide (y35 < y34.2)) then some false else K) = K := fun K => by
        simp only [agraffelaw09_windows, agraffebase_CopyInts, r1, r2, chk_t, Option.bind_some, CheckSlots_eq a0 a1 hn (by omega), hw, bne_self_eq_false, cond_false, hd1, gcall_some_]
        by_cases hs : (slotsD a0 a1).1 = 0
        · have := slots_most hw hs
          rw [hs]
          simp only [beq_self_eq_true, cond_true, Bool.true_and, decide_eq_false (by omega : ¬ ((countD (mostW a0) : Nat) : Int) < (slotsD a0 a1).2), cond_false]
        · have : ((slotsD a0 a1).1 == 0) = false := beq_eq_false_iff_ne.2 hs
          simp only [this, Bool.false_and, cond_false]
      rw [hw]
      simp only [bne_self_eq_false, cond_false, withK_eq, Slots_eq a0 (by omega), Most_eq a0 (by omega), Crowd_eq a0 (by omega), hw, hall, hrep, hrep2]
      rcases scanC_spec a0 1000 1 with ⟨h1, _⟩ | ⟨k, u, h1, h2, h3, h4, h5⟩
      · rw [h1]
        simp only [agraffelaw09_windows, agraffelaw09_windows_2, r1, chk_t, Option.bind_some, Option.isSome_none, cond_false, CheckCrowd_eq a0 _ hn (by omega), gcall_some_]
        simp only [agraffelaw09_windows, r1, chk_t, Option.bind_some] at own fin
        refine Eq.trans ?_ fin
        exact own _
      · rw [h1]
        simp only [agraffelaw09_windows, agraffelaw09_windows_2, r1, chk_t, Option.bind_some, Option.isSome_some, cond_true, CheckCrowd_eq a0 _ hn (by omega), gcall_some_, hw, crowd_ok h4 (by omega) h5]
        simp only [agraffelaw09_windows, r1, chk_t, Option.bind_some] at own fin
        refine Eq.trans ?_ fin
        exact own _
    · simp only [bne_t hw, cond_true]
end
end Go.Proofs.Ytpmkdgnhllhaeaa.As
