/- What the functions compute, on plain data, and what follows from it, part 1: no condition. -/
import Derived.Test.YtpmkdgnhllhaeaaGround2
namespace Go.Proofs.Ytpmkdgnhllhaeaa.As
open Go
section
set_option maxRecDepth 4000
open Go
structure Road where
  A : Str
  B : Str
  Minutes : Int
  Width : Int
  deriving Inhabited, DecidableEq
def eRoad (x : Road) : V := .agg [vt x.A, vt x.B, vi x.Minutes, vi x.Width]
theorem eRoad_frz (x : Road) : (eRoad x).frz = true := rfl
theorem eRoad_frzE (x : Road) : frzE (eRoad x) = true := rfl
structure Grand where
  Name : Str
  Place : Str
  Width : Int
  deriving Inhabited, DecidableEq
def eGrand (x : Grand) : V := .agg [vt x.Name, vt x.Place, vi x.Width]
theorem eGrand_frz (x : Grand) : (eGrand x).frz = true := rfl
theorem eGrand_frzE (x : Grand) : frzE (eGrand x) = true := rfl
structure Diary where
  Places : List Str
  Technicians : List Str
  Roads : List Road
  Grands : List Grand
  Change : Int
  Lasts : Int
  deriving Inhabited, DecidableEq
def eDiary (x : Diary) : V := .agg [eS 1 vt x.Places, eS 1 vt x.Technicians, eS 4 eRoad x.Roads, eS 3 eGrand x.Grands, vi x.Change, vi x.Lasts]
structure Item where
  Kind : Int
  From : Int
  To : Int
  Grand : Str
  Place : Str
  Who : Str
  Deposit : Int
  deriving Inhabited, DecidableEq
def eItem (x : Item) : V := .agg [vi x.Kind, vi x.From, vi x.To, vt x.Grand, vt x.Place, vt x.Who, vi x.Deposit]
theorem eItem_frz (x : Item) : (eItem x).frz = true := rfl
theorem eItem_frzE (x : Item) : frzE (eItem x) = true := rfl
structure Arr2_Str where
  a0 : Str
  a1 : Str
  deriving Inhabited, DecidableEq
def eArr2_Str (x : Arr2_Str) : V := .agg [vt x.a0, vt x.a1]
theorem eArr2_Str_frz (x : Arr2_Str) : (eArr2_Str x).frz = true := rfl
theorem eArr2_Str_key : KeyAB eArr2_Str (fun x => x.a0) (fun x => x.a1) := ⟨fun _ => rfl, fun ⟨a, b⟩ ⟨c, d⟩ => keyab_dec ⟨fun h => by cases h; exact ⟨rfl, rfl⟩, fun h => by cases h.1; cases h.2; rfl⟩⟩
def tunStop (x : Item) (lasts : Int) (y : Item) : Bool := (y.Grand == x.Grand) && ((y.Kind == 1) || ((y.Kind == 0) && (decide (y.To ≤ x.From) && decide (IntKind.i64.wrap (x.From - y.To) ≤ lasts))))
def tuneL (x : Item) (lasts : Int) (l : List Item) : Nat → Int
  | 0 => -1
  | k + 1 => bif tunStop x lasts (ix l k) then (bif (ix l k).Kind == 1 then -1 else ((k : Nat) : Int)) else tuneL x lasts l k
def sortIns (x : Int) : List Int → List Int
  | [] => [x]
  | y :: l => bif decide (x ≤ y) then x :: y :: l else y :: sortIns x l
def sortI : List Int → List Int
  | [] => []
  | x :: l => sortIns x (sortI l)
def insL {α : Type} (l : List α) (i : Nat) (x : α) : List α := l.take i ++ x :: l.drop i
structure Window where
  From : Int
  To : Int
  deriving Inhabited, DecidableEq
def eWindow (x : Window) : V := .agg [vi x.From, vi x.To]
structure Arr3_Str where
  a0 : Str
  a1 : Str
  a2 : Str
  deriving Inhabited, DecidableEq
def eArr3_Str (x : Arr3_Str) : V := .agg [vt x.a0, vt x.a1, vt x.a2]
def agraffelaw09_Town (n : Nat)  : Option Unit :=
  some ()
def diary_isName_L1 (a0 : Str) (k1 : (Unit → Option Bool)) (back : Nat → Option Bool) : Nat → Option Bool
  | v1 =>
  bif decide (v1 < a0.length) then
    bif (!(((decide ((97 : Int) ≤ (((List.getD a0 v1 0).toNat : Nat) : Int))) && (decide ((((List.getD a0 v1 0).toNat : Nat) : Int) ≤ (122 : Int)))) || ((decide ((65 : Int) ≤ (((List.getD a0 v1 0).toNat : Nat) : Int))) && (decide ((((List.getD a0 v1 0).toNat : Nat) : Int) ≤ (90 : Int)))))) && ((decide (v1 = 0)) || (((((List.getD a0 v1 0).toNat : Nat) : Int) != (45 : Int)) && ((decide ((((List.getD a0 v1 0).toNat : Nat) : Int) < (48 : Int))) || (decide ((57 : Int) < (((List.getD a0 v1 0).toNat : Nat) : Int)))))) then
      some false
    else
      chk (nI (v1 + 1)) <|
      back (v1 + 1)
  else
    k1 ()
def diary_isName (n : Nat) (a0 : Str) : Option Bool :=
  withK (fun (_ : Unit) =>
      some ((!(a0 == ([] : Str))) && (decide (a0.length ≤ 12)))) fun k1 =>
  loopN (diary_isName_L1 a0 k1) n 0
def slices_Index_string_L1 (a0 : List Str) (a1 : Str) (k1 : (Unit → Option Int)) (back : Nat → Option Int) : Nat → Option Int
  | v1 =>
  bif decide (v1 < a0.length) then
    bif (a1 == (ix a0 v1)) then
      some ((v1 : Nat) : Int)
    else
      chk (nI (v1 + 1)) <|
      back (v1 + 1)
  else
    k1 ()
def slices_Index_string (n : Nat) (a0 : List Str) (a1 : Str) : Option Int :=
  withK (fun (_ : Unit) =>
      some (-1)) fun k1 =>
  loopN (slices_Index_string_L1 a0 a1 k1) n 0
def slices_Contains_string (n : Nat) (a0 : List Str) (a1 : Str) : Option Bool :=
  (slices_Index_string n a0 a1).bind fun y1 =>
  some (decide ((0 : Int) ≤ y1))
def diary_checkName (n : Nat) (a0 : Str) (a1 : List Str) : Option Int :=
  (diary_isName n a0).bind fun y1 =>
  bif !y1 then
    some 4
  else
    (slices_Contains_string n a1 a0).bind fun y2 =>
    bif y2 then
      some 5
    else
      some 0
def diary_checkNames_L1 (n : Nat) (a0 : List Str) (k1 : (Unit → Option Int)) (back : Nat → Option Int) : Nat → Option Int
  | v2 =>
  bif decide (v2 < a0.length) then
    chk (decide (v2 ≤ a0.length)) <|
    (diary_checkName n (ix a0 v2) (List.take v2 a0)).bind fun y3 =>
    bif (y3 != (0 : Int)) then
      some y3
    else
      chk (nI (v2 + 1)) <|
      back (v2 + 1)
  else
    k1 ()
def diary_checkNames (n : Nat) (a0 : List Str) (a1 : Int) : Option Int :=
  bif decide (a1 < ((a0.length : Nat) : Int)) then
    some 8
  else
    withK (fun (_ : Unit) =>
        some 0) fun k1 =>
    loopN (diary_checkNames_L1 n a0 k1) n 0
def diary_within (n : Nat) (a0 : Int) (a1 : Int) (a2 : Int) : Option Unit :=
  some ()
def diary_isWidth (n : Nat) (a0 : Int) : Option Unit :=
  (diary_within n a0 1 10000).bind fun y1 =>
  some ()
def diary_checkRoads_L1 (n : Nat) (a0 : Diary) (k1 : (Unit → Option Int)) (back : Nat → Option Int) : Nat → Option Int
  | v5 =>
  bif decide (v5 < a0.Roads.length) then
    (slices_Contains_string n a0.Places ((ix a0.Roads v5).A)).bind fun y6 =>
    (gcall (!(!y6)) (slices_Contains_string n a0.Places ((ix a0.Roads v5).B))).bind fun y7 =>
    bif (!y6) || (!y7) then
      some 6
    else
      bif (((ix a0.Roads v5).A) == ((ix a0.Roads v5).B)) then
        some 3
      else
        (diary_within n ((ix a0.Roads v5).Minutes) 1 10000).bind fun y8 =>
        (gcall (!(!((decide (1 ≤ ((ix a0.Roads v5).Minutes))) && (decide (((ix a0.Roads v5).Minutes) ≤ 10000))))) (diary_isWidth n ((ix a0.Roads v5).Width))).bind fun y9 =>
        bif (!((decide (1 ≤ ((ix a0.Roads v5).Minutes))) && (decide (((ix a0.Roads v5).Minutes) ≤ 10000)))) || (!((decide (1 ≤ ((ix a0.Roads v5).Width))) && (decide (((ix a0.Roads v5).Width) ≤ 10000)))) then
          some 2
        else
          chk (nI (v5 + 1)) <|
          back (v5 + 1)
  else
    k1 ()
def diary_checkRoads (n : Nat) (a0 : Diary) : Option Int :=
  bif decide (60 < a0.Roads.length) then
    some 8
  else
    withK (fun (_ : Unit) =>
        some 0) fun k1 =>
    loopN (diary_checkRoads_L1 n a0 k1) n 0
def slices_Index_string_2_L1 (a0 : List Str) (a1 : Str) (k1 : (Unit → Option Int)) (back : Nat → Option Int) : Nat → Option Int
  | v1 =>
  bif decide (v1 < a0.length) then
    bif (a1 == (ix a0 v1)) then
      some ((v1 : Nat) : Int)
    else
      chk (nI (v1 + 1)) <|
      back (v1 + 1)
  else
    k1 ()
def slices_Index_string_2 (n : Nat) (a0 : List Str) (a1 : Str) : Option Int :=
  withK (fun (_ : Unit) =>
      some (-1)) fun k1 =>
  loopN (slices_Index_string_2_L1 a0 a1 k1) n 0
def slices_Contains_string_2 (n : Nat) (a0 : List Str) (a1 : Str) : Option Bool :=
  (slices_Index_string_2 n a0 a1).bind fun y1 =>
  some (decide ((0 : Int) ≤ y1))
def diary_checkName_2 (n : Nat) (a0 : Str) (a1 : List Str) : Option Int :=
  (diary_isName n a0).bind fun y1 =>
  bif !y1 then
    some 4
  else
    (slices_Contains_string_2 n a1 a0).bind fun y2 =>
    bif y2 then
      some 5
    else
      some 0
def diary_checkGrands_L1 (n : Nat) (a0 : Diary) (k1 : (Unit → Option Int)) (back : (List Str) × Nat → Option Int) : (List Str) × Nat → Option Int
  | (v4, v5) =>
  bif decide (v5 < a0.Grands.length) then
    (diary_checkName_2 n ((ix a0.Grands v5).Name) v4).bind fun y6 =>
    bif (y6 != (0 : Int)) then
      some y6
    else
      (slices_Contains_string n a0.Places ((ix a0.Grands v5).Place)).bind fun y7 =>
      bif !y7 then
        some 6
      else
        (diary_isWidth n ((ix a0.Grands v5).Width)).bind fun y8 =>
        bif !((decide (1 ≤ ((ix a0.Grands v5).Width))) && (decide (((ix a0.Grands v5).Width) ≤ 10000))) then
          some 2
        else
          chk (room 16 (v4 ++ ([(ix a0.Grands v5).Name] : List Str)).length) <|
          chk (nI (v5 + 1)) <|
          back ((v4 ++ ([(ix a0.Grands v5).Name] : List Str)), v5 + 1)
  else
    k1 ()
def diary_checkGrands (n : Nat) (a0 : Diary) : Option Int :=
  bif decide (12 < a0.Grands.length) then
    some 8
  else
    withK (fun (_ : Unit) =>
        some 0) fun k1 =>
    loopN (diary_checkGrands_L1 n a0 k1) n (([] : List Str), 0)
def diary_CheckDiary (n : Nat) (a0 : Diary) : Option Int :=
  (diary_checkNames n a0.Places 20).bind fun y1 =>
  bif (y1 != (0 : Int)) then
    some y1
  else
    (diary_checkRoads n a0).bind fun y2 =>
    bif (y2 != (0 : Int)) then
      some y2
    else
      (diary_checkGrands n a0).bind fun y3 =>
      bif (y3 != (0 : Int)) then
        some y3
      else
        (diary_checkNames n a0.Technicians 12).bind fun y4 =>
        bif (y4 != (0 : Int)) then
          some y4
        else
          (diary_within n a0.Change 0 1000).bind fun y5 =>
          (gcall (!(!((decide (0 ≤ a0.Change)) && (decide (a0.Change ≤ 1000))))) (diary_within n a0.Lasts 0 100000)).bind fun y6 =>
          bif (!((decide (0 ≤ a0.Change)) && (decide (a0.Change ≤ 1000)))) || (!((decide (0 ≤ a0.Lasts)) && (decide (a0.Lasts ≤ 100000)))) then
            some 2
          else
            some 0
def diary_open (n : Nat) (a0 : Diary) : Option (Int ⊕ Unit) :=
  (diary_CheckDiary n a0).bind fun y1 =>
  bif (y1 != (0 : Int)) then
    some (.inl y1)
  else
    some (.inr ())
def diary_plan_isPlace_2 (n : Nat) (a0 : List Str) (a1 : List Str) (a2 : List Road) (a3 : List Grand) (a4 : Int) (a5 : Int) (a6 : List (Int × List (Arr2_Str × Int))) (a7 : Str) : Option Bool :=
  (slices_Contains_string n a0 a7).bind fun y1 =>
  some y1
def diary_plan_joined_L1 (a2 : List Road) (a7 : Str) (a8 : Str) (a9 : Int) (k2 : (Int × Bool → Option (Int × Bool))) (back : Int × Bool × Nat → Option (Int × Bool)) : Int × Bool × Nat → Option (Int × Bool)
  | (v3, v4, v5) =>
  bif decide (v5 < a2.length) then
    withK (fun (v6, v7) =>
        chk (nI (v5 + 1)) <|
        back (v6, v7, v5 + 1)) fun k1 =>
    bif ((((((ix a2 v5).A) == a7) && (((ix a2 v5).B) == a8)) || ((((ix a2 v5).A) == a8) && (((ix a2 v5).B) == a7))) && (decide (a9 ≤ ((ix a2 v5).Width)))) && ((!v4) || (decide (((ix a2 v5).Minutes) < v3))) then
      k1 ((ix a2 v5).Minutes, true)
    else
      k1 (v3, v4)
  else
    k2 (v3, v4)
def diary_plan_joined (n : Nat) (a0 : List Str) (a1 : List Str) (a2 : List Road) (a3 : List Grand) (a4 : Int) (a5 : Int) (a6 : List (Int × List (Arr2_Str × Int))) (a7 : Str) (a8 : Str) (a9 : Int) : Option (Int × Bool) :=
  withK (fun (v8, v9) =>
      some (v8, v9)) fun k2 =>
  loopN (diary_plan_joined_L1 a2 a7 a8 a9 k2) n (0, false, 0)
def diary_plan_distances_L3 (a0 : List Str) (v31 : Nat) (v38 : Nat) (k7 : ((List (Arr2_Str × Int)) → Option ((List (Arr2_Str × Int)) × (List (Int × List (Arr2_Str × Int)))))) (back : Nat × (List (Arr2_Str × Int)) → Option ((List (Arr2_Str × Int)) × (List (Int × List (Arr2_Str × Int))))) : Nat × (List (Arr2_Str × Int)) → Option ((List (Arr2_Str × Int)) × (List (Int × List (Arr2_Str × Int))))
  | (v41, v42) =>
  bif decide (v41 < a0.length) then
    withK (fun (v43 : (List (Arr2_Str × Int))) =>
        chk (nI (v41 + 1)) <|
        back (v41 + 1, v43)) fun k6 =>
    chk (!(((Option.isSome (List.lookup (Arr2_Str.mk (ix a0 v38) (ix a0 v31)) v42)) && (Option.isSome (List.lookup (Arr2_Str.mk (ix a0 v31) (ix a0 v41)) v42))) && !(!(Option.isSome (List.lookup (Arr2_Str.mk (ix a0 v38) (ix a0 v41)) v42)))) || inI ((Option.getD (List.lookup (Arr2_Str.mk (ix a0 v38) (ix a0 v31)) v42) (0 : Int)) + (Option.getD (List.lookup (Arr2_Str.mk (ix a0 v31) (ix a0 v41)) v42) (0 : Int)))) <|
    bif ((Option.isSome (List.lookup (Arr2_Str.mk (ix a0 v38) (ix a0 v31)) v42)) && (Option.isSome (List.lookup (Arr2_Str.mk (ix a0 v31) (ix a0 v41)) v42))) && ((!(Option.isSome (List.lookup (Arr2_Str.mk (ix a0 v38) (ix a0 v41)) v42))) || (decide (((Option.getD (List.lookup (Arr2_Str.mk (ix a0 v38) (ix a0 v31)) v42) (0 : Int)) + (Option.getD (List.lookup (Arr2_Str.mk (ix a0 v31) (ix a0 v41)) v42) (0 : Int))) < (Option.getD (List.lookup (Arr2_Str.mk (ix a0 v38) (ix a0 v41)) v42) (0 : Int))))) then
      chk (inI ((Option.getD (List.lookup (Arr2_Str.mk (ix a0 v38) (ix a0 v31)) v42) (0 : Int)) + (Option.getD (List.lookup (Arr2_Str.mk (ix a0 v31) (ix a0 v41)) v42) (0 : Int)))) <|
      k6 (mPut (Arr2_Str.mk (ix a0 v38) (ix a0 v41)) ((Option.getD (List.lookup (Arr2_Str.mk (ix a0 v38) (ix a0 v31)) v42) (0 : Int)) + (Option.getD (List.lookup (Arr2_Str.mk (ix a0 v31) (ix a0 v41)) v42) (0 : Int))) v42)
    else
      k6 v42
  else
    k7 v42
def diary_plan_distances_L4 (n : Nat) (a0 : List Str) (v31 : Nat) (k8 : ((List (Arr2_Str × Int)) → Option ((List (Arr2_Str × Int)) × (List (Int × List (Arr2_Str × Int)))))) (back : Nat × (List (Arr2_Str × Int)) → Option ((List (Arr2_Str × Int)) × (List (Int × List (Arr2_Str × Int))))) : Nat × (List (Arr2_Str × Int)) → Option ((List (Arr2_Str × Int)) × (List (Int × List (Arr2_Str × Int))))
  | (v38, v39) =>
  bif decide (v38 < a0.length) then
    withK (fun (v44 : (List (Arr2_Str × Int))) =>
        chk (nI (v38 + 1)) <|
        back (v38 + 1, v44)) fun k7 =>
    loopN (diary_plan_distances_L3 a0 v31 v38 k7) n (0, v39)
  else
    k8 v39
def diary_plan_distances_L5 (n : Nat) (a0 : List Str) (k9 : ((List (Arr2_Str × Int)) → Option ((List (Arr2_Str × Int)) × (List (Int × List (Arr2_Str × Int)))))) (back : Nat × (List (Arr2_Str × Int)) → Option ((List (Arr2_Str × Int)) × (List (Int × List (Arr2_Str × Int))))) : Nat × (List (Arr2_Str × Int)) → Option ((List (Arr2_Str × Int)) × (List (Int × List (Arr2_Str × Int))))
  | (v31, v32) =>
  bif decide (v31 < a0.length) then
    withK (fun (v45 : (List (Arr2_Str × Int))) =>
        chk (nI (v31 + 1)) <|
        back (v31 + 1, v45)) fun k8 =>
    loopN (diary_plan_distances_L4 n a0 v31 k8) n (0, v32)
  else
    k9 v32
def diary_plan_distances_L1 (n : Nat) (a0 : List Str) (a1 : List Str) (a2 : List Road) (a3 : List Grand) (a4 : Int) (a5 : Int) (a6 : List (Int × List (Arr2_Str × Int))) (a7 : Int) (v8 : Nat) (k4 : ((List (Arr2_Str × Int)) → Option ((List (Arr2_Str × Int)) × (List (Int × List (Arr2_Str × Int)))))) (back : Nat × (List (Arr2_Str × Int)) → Option ((List (Arr2_Str × Int)) × (List (Int × List (Arr2_Str × Int))))) : Nat × (List (Arr2_Str × Int)) → Option ((List (Arr2_Str × Int)) × (List (Int × List (Arr2_Str × Int))))
  | (v12, v13) =>
  bif decide (v12 < a0.length) then
    withK (fun (v15 : (List (Arr2_Str × Int))) =>
        chk (nI (v12 + 1)) <|
        back (v12 + 1, v15)) fun k3 =>
    (diary_plan_joined n a0 a1 a2 a3 a4 a5 a6 (ix a0 v8) (ix a0 v12) a7).bind fun y14 =>
    bif y14.2 && (!((ix a0 v8) == (ix a0 v12))) then
      k3 (mPut (Arr2_Str.mk (ix a0 v8) (ix a0 v12)) y14.1 v13)
    else
      k3 v13
  else
    k4 v13
def diary_plan_distances_L2 (n : Nat) (a0 : List Str) (a1 : List Str) (a2 : List Road) (a3 : List Grand) (a4 : Int) (a5 : Int) (a6 : List (Int × List (Arr2_Str × Int))) (a7 : Int) (k5 : ((List (Arr2_Str × Int)) → Option ((List (Arr2_Str × Int)) × (List (Int × List (Arr2_Str × Int)))))) (back : Nat × (List (Arr2_Str × Int)) → Option ((List (Arr2_Str × Int)) × (List (Int × List (Arr2_Str × Int))))) : Nat × (List (Arr2_Str × Int)) → Option ((List (Arr2_Str × Int)) × (List (Int × List (Arr2_Str × Int))))
  | (v8, v9) =>
  bif decide (v8 < a0.length) then
    withK (fun (v16 : (List (Arr2_Str × Int))) =>
        chk (nI (v8 + 1)) <|
        back (v8 + 1, v16)) fun k4 =>
    loopN (diary_plan_distances_L1 n a0 a1 a2 a3 a4 a5 a6 a7 v8 k4) n (0, (mPut (Arr2_Str.mk (ix a0 v8) (ix a0 v8)) 0 v9))
  else
    k5 v9
def diary_plan_distances (n : Nat) (a0 : List Str) (a1 : List Str) (a2 : List Road) (a3 : List Grand) (a4 : Int) (a5 : Int) (a6 : List (Int × List (Arr2_Str × Int))) (a7 : Int) : Option ((List (Arr2_Str × Int)) × (List (Int × List (Arr2_Str × Int)))) :=
  withK (fun (_ : Unit) =>
      some ((Option.getD (List.lookup a7 a6) ([] : List (Arr2_Str × Int))), a6)) fun k1 =>
  withK (fun (_ : Unit) =>
      withK (fun (v17 : (List (Arr2_Str × Int))) =>
          withK (fun (v46 : (List (Arr2_Str × Int))) =>
              some (v46, (mPut a7 v46 a6))) fun k9 =>
          loopN (diary_plan_distances_L5 n a0 k9) n (0, v17)) fun k5 =>
      loopN (diary_plan_distances_L2 n a0 a1 a2 a3 a4 a5 a6 a7 k5) n (0, ([] : List (Arr2_Str × Int)))) fun k2 =>
  bif (Option.isSome (List.lookup a7 a6)) then
    k1 ()
  else
    k2 ()
def diary_plan_distance (n : Nat) (a0 : List Str) (a1 : List Str) (a2 : List Road) (a3 : List Grand) (a4 : Int) (a5 : Int) (a6 : List (Int × List (Arr2_Str × Int))) (a7 : Str) (a8 : Str) (a9 : Int) : Option (Int × Bool × (List (Int × List (Arr2_Str × Int)))) :=
  (diary_plan_distances n a0 a1 a2 a3 a4 a5 a6 a9).bind fun y1 =>
  some ((Option.getD (List.lookup (Arr2_Str.mk a7 a8) y1.1) (0 : Int)), (Option.isSome (List.lookup (Arr2_Str.mk a7 a8) y1.1)), y1.2)
def diary_Distances_L1 (n : Nat) (a0 : Diary) (a1 : Str) (a2 : Int) (k4 : ((List Int) → Option (Int × (List Int)))) (back : (List Int) × Nat × (List (Int × List (Arr2_Str × Int))) → Option (Int × (List Int))) : (List Int) × Nat × (List (Int × List (Arr2_Str × Int))) → Option (Int × (List Int))
  | (v9, v10, v11) =>
  bif decide (v10 < a0.Places.length) then
    (diary_plan_distance n a0.Places a0.Technicians a0.Roads a0.Grands a0.Change a0.Lasts v11 a1 (ix a0.Places v10) a2).bind fun y12 =>
    withK (fun (v13 : Int) =>
        chk (room 8 (v9 ++ ([v13] : List Int)).length) <|
        chk (nI (v10 + 1)) <|
        back ((v9 ++ ([v13] : List Int)), v10 + 1, y12.2.2)) fun k3 =>
    bif !y12.2.1 then
      k3 (-1)
    else
      k3 y12.1
  else
    k4 v9
def diary_Distances (n : Nat) (a0 : Diary) (a1 : Str) (a2 : Int) : Option (Int × (List Int)) :=
  withK (fun (v4 : Int) =>
      bif (v4 != (0 : Int)) then
        some (v4, ([] : List Int))
      else
        none) fun k1 =>
  withK (fun (_ : Unit) =>
      (diary_plan_isPlace_2 n a0.Places a0.Technicians a0.Roads a0.Grands a0.Change a0.Lasts ([] : List (Int × List (Arr2_Str × Int))) a1).bind fun y5 =>
      bif !y5 then
        some (6, ([] : List Int))
      else
        (diary_isWidth n a2).bind fun y6 =>
        bif !((decide (1 ≤ a2)) && (decide (a2 ≤ 10000))) then
          some (2, ([] : List Int))
        else
          withK (fun (v14 : (List Int)) =>
              some (0, v14)) fun k4 =>
          loopN (diary_Distances_L1 n a0 a1 a2 k4) n (([] : List Int), 0, ([] : List (Int × List (Arr2_Str × Int))))) fun k2 =>
  (diary_open n a0).bind fun y1 =>
  match y1 with
  | .inl y1 =>
    k1 y1
  | .inr y1 =>
    k2 ()
def agraffelaw09_Evening (n : Nat)  : Option Unit :=
  some ()
def diary_plan_accept_L1 (a0 : List Item) (k1 : (Unit → Option (Int × Int))) (back : Unit → Option (Int × Int)) : Unit → Option (Int × Int)
  | _ =>
  bif decide (0 < a0.length) then
    none
  else
    k1 ()
def diary_plan_accept (n : Nat) (a0 : List Item) : Option (Int × Int) :=
  bif decide (100 < a0.length) then
    some (0, 8)
  else
    withK (fun (_ : Unit) =>
        some ((-1), 0)) fun k1 =>
    loopN (diary_plan_accept_L1 a0 k1) n ()
def diary_grand_f1 (n : Nat) (a0 : Grand) (a1 : Str) : Option Unit :=
  some ()
def slices_IndexFunc_Grand_L1 (n : Nat) (a0 : List Grand) (a1 : Str) (k1 : (Unit → Option Int)) (back : Nat → Option Int) : Nat → Option Int
  | v2 =>
  bif decide (v2 < a0.length) then
    (diary_grand_f1 n (ix a0 v2) a1).bind fun y3 =>
    bif ((ix a0 v2).Name == a1) then
      some ((v2 : Nat) : Int)
    else
      chk (nI (v2 + 1)) <|
      back (v2 + 1)
  else
    k1 ()
def slices_IndexFunc_Grand (n : Nat) (a0 : List Grand) (a1 : Str) : Option Int :=
  withK (fun (_ : Unit) =>
      some (-1)) fun k1 =>
  loopN (slices_IndexFunc_Grand_L1 n a0 a1 k1) n 0
def diary_grand (n : Nat) (a0 : Diary) (a1 : Str) : Option (Str × Str × Int × Bool) :=
  (slices_IndexFunc_Grand n a0.Grands a1).bind fun y1 =>
  bif decide (y1 < (0 : Int)) then
    some (([] : Str), ([] : Str), 0, false)
  else
    chk (inB y1 a0.Grands.length) <|
    chk (decide (y1.toNat < a0.Grands.length)) <|
    some ((ix a0.Grands y1.toNat).Name, (ix a0.Grands y1.toNat).Place, (ix a0.Grands y1.toNat).Width, true)
def diary_isMinute (n : Nat) (a0 : Int) : Option Unit :=
  (diary_within n a0 0 1000000).bind fun y1 =>
  some ()
def diary_checkItem (n : Nat) (a0 : Diary) (a1 : Item) : Option Int :=
  (diary_grand n a0 a1.Grand).bind fun y1 =>
  (diary_within n a1.Kind 0 3).bind fun y2 =>
  bif !((decide (0 ≤ a1.Kind)) && (decide (a1.Kind ≤ 3))) then
    some 15
  else
    (diary_isMinute n a1.From).bind fun y3 =>
    (gcall (!(!((decide (0 ≤ a1.From)) && (decide (a1.From ≤ 1000000))))) (diary_isMinute n a1.To)).bind fun y4 =>
    bif (!((decide (0 ≤ a1.From)) && (decide (a1.From ≤ 1000000)))) || (!((decide (0 ≤ a1.To)) && (decide (a1.To ≤ 1000000)))) then
      some 2
    else
      bif decide (a1.To ≤ a1.From) then
        some 9
      else
        (gcall (!(!y1.2.2.2)) (slices_Contains_string n a0.Places a1.Place)).bind fun y5 =>
        bif (!y1.2.2.2) || (!y5) then
          some 6
        else
          (gcall (a1.Kind == (0 : Int)) (slices_Contains_string n a0.Technicians a1.Who)).bind fun y6 =>
          bif (a1.Kind == (0 : Int)) && (!y6) then
            some 6
          else
            (gcall (a1.Kind == (3 : Int)) (diary_isName n a1.Who)).bind fun y7 =>
            bif (a1.Kind == (3 : Int)) && (!y7) then
              some 4
            else
              (gcall (a1.Kind == (3 : Int)) (diary_within n a1.Deposit 0 1000000000)).bind fun y8 =>
              bif (a1.Kind == (3 : Int)) && (!((decide (0 ≤ a1.Deposit)) && (decide (a1.Deposit ≤ 1000000000)))) then
                some 2
              else
                withK (fun (v9 : Bool) =>
                    bif v9 then
                      some 3
                    else
                      some 0) fun k1 =>
                bif (a1.Kind != (3 : Int)) && (a1.Deposit != (0 : Int)) then
                  k1 ((a1.Kind != (3 : Int)) && (a1.Deposit != (0 : Int)))
                else
                  k1 (((a1.Kind == (1 : Int)) || (a1.Kind == (2 : Int))) && (!(a1.Who == ([] : Str))))
def diary_plan_changes_f1 (n : Nat) (a0 : Item) (a1 : Int) (a2 : Int) (a3 : Int) (a4 : Str) (a5 : Str) (a6 : Str) (a7 : Int) (a8 : List Str) (a9 : List Str) (a10 : List Road) (a11 : List Grand) (a12 : Int) (a13 : Int) (a14 : List (Int × List (Arr2_Str × Int))) : Option Unit :=
  chk (!(a0.Grand == a4) || inI (a0.To + a12)) <|
  some ()
def slices_IndexFunc_Item_L1 (n : Nat) (a0 : List Item) (a1 : Int) (a2 : Int) (a3 : Int) (a4 : Str) (a5 : Str) (a6 : Str) (a7 : Int) (a8 : List Str) (a9 : List Str) (a10 : List Road) (a11 : List Grand) (a12 : Int) (a13 : Int) (a14 : List (Int × List (Arr2_Str × Int))) (k1 : (Unit → Option Int)) (back : Nat → Option Int) : Nat → Option Int
  | v2 =>
  bif decide (v2 < a0.length) then
    (diary_plan_changes_f1 n (ix a0 v2) a1 a2 a3 a4 a5 a6 a7 a8 a9 a10 a11 a12 a13 a14).bind fun y3 =>
    bif ((ix a0 v2).Grand == a4) && (decide (a2 < ((ix a0 v2).To + a12))) then
      some ((v2 : Nat) : Int)
    else
      chk (nI (v2 + 1)) <|
      back (v2 + 1)
  else
    k1 ()
def slices_IndexFunc_Item (n : Nat) (a0 : List Item) (a1 : Int) (a2 : Int) (a3 : Int) (a4 : Str) (a5 : Str) (a6 : Str) (a7 : Int) (a8 : List Str) (a9 : List Str) (a10 : List Road) (a11 : List Grand) (a12 : Int) (a13 : Int) (a14 : List (Int × List (Arr2_Str × Int))) : Option Int :=
  withK (fun (_ : Unit) =>
      some (-1)) fun k1 =>
  loopN (slices_IndexFunc_Item_L1 n a0 a1 a2 a3 a4 a5 a6 a7 a8 a9 a10 a11 a12 a13 a14 k1) n 0
def slices_ContainsFunc_Item (n : Nat) (a0 : List Item) (a1 : Int) (a2 : Int) (a3 : Int) (a4 : Str) (a5 : Str) (a6 : Str) (a7 : Int) (a8 : List Str) (a9 : List Str) (a10 : List Road) (a11 : List Grand) (a12 : Int) (a13 : Int) (a14 : List (Int × List (Arr2_Str × Int))) : Option Bool :=
  (slices_IndexFunc_Item n a0 a1 a2 a3 a4 a5 a6 a7 a8 a9 a10 a11 a12 a13 a14).bind fun y1 =>
  some (decide ((0 : Int) ≤ y1))
def diary_plan_changes (n : Nat) (a0 : List Str) (a1 : List Str) (a2 : List Road) (a3 : List Grand) (a4 : Int) (a5 : Int) (a6 : List (Int × List (Arr2_Str × Int))) (a7 : List Item) (a8 : Item) : Option Int :=
  (slices_ContainsFunc_Item n a7 a8.Kind a8.From a8.To a8.Grand a8.Place a8.Who a8.Deposit a0 a1 a2 a3 a4 a5 a6).bind fun y1 =>
  bif y1 then
    some 17
  else
    some 0
def diary_plan_place_L1 (a7 : List Item) (a8 : Str) (a9 : Int) (k2 : (Str → Option Str)) (back : Str × Nat → Option Str) : Str × Nat → Option Str
  | (v3, v4) =>
  bif decide (v4 < a7.length) then
    withK (fun (v5 : Str) =>
        chk (nI (v4 + 1)) <|
        back (v5, v4 + 1)) fun k1 =>
    bif ((((ix a7 v4).Kind) == (1 : Int)) && (((ix a7 v4).Grand) == a8)) && (decide (((ix a7 v4).To) ≤ a9)) then
      k1 ((ix a7 v4).Place)
    else
      k1 v3
  else
    k2 v3
def diary_plan_place (n : Nat) (a0 : List Str) (a1 : List Str) (a2 : List Road) (a3 : List Grand) (a4 : Int) (a5 : Int) (a6 : List (Int × List (Arr2_Str × Int))) (a7 : List Item) (a8 : Str) (a9 : Int) : Option Str :=
  (diary_grand n (Diary.mk a0 a1 a2 a3 a4 a5) a8).bind fun y1 =>
  withK (fun (v6 : Str) =>
      some v6) fun k2 =>
  loopN (diary_plan_place_L1 a7 a8 a9 k2) n (y1.2.1, 0)
def diary_plan_stands (n : Nat) (a0 : List Str) (a1 : List Str) (a2 : List Road) (a3 : List Grand) (a4 : Int) (a5 : Int) (a6 : List (Int × List (Arr2_Str × Int))) (a7 : List Item) (a8 : Item) : Option (Int × (List (Int × List (Arr2_Str × Int)))) :=
  (diary_plan_place n a0 a1 a2 a3 a4 a5 a6 a7 a8.Grand a8.From).bind fun y1 =>
  bif (a8.Kind != (1 : Int)) then
    bif !(y1 == a8.Place) then
      some (13, a6)
    else
      some (0, a6)
  else
    (diary_grand n (Diary.mk a0 a1 a2 a3 a4 a5) a8.Grand).bind fun y2 =>
    (diary_plan_distance n a0 a1 a2 a3 a4 a5 a6 y1 a8.Place y2.2.2.1).bind fun y3 =>
    bif (y1 == a8.Place) then
      some (24, y3.2.2)
    else
      bif !y3.2.1 then
        some (12, y3.2.2)
      else
        chk (inI (a8.To - a8.From)) <|
        bif decide ((a8.To - a8.From) < y3.1) then
          some (18, y3.2.2)
        else
          some (0, y3.2.2)
def diary_plan_travels_L1 (n : Nat) (a0 : List Str) (a1 : List Str) (a2 : List Road) (a3 : List Grand) (a4 : Int) (a5 : Int) (a7 : List Item) (a8 : Item) (k2 : ((List (Int × List (Arr2_Str × Int))) → Option (Int × (List (Int × List (Arr2_Str × Int)))))) (back : Nat × (List (Int × List (Arr2_Str × Int))) → Option (Int × (List (Int × List (Arr2_Str × Int))))) : Nat × (List (Int × List (Arr2_Str × Int))) → Option (Int × (List (Int × List (Arr2_Str × Int))))
  | (v3, v4) =>
  bif decide (v3 < a7.length) then
    withK (fun (v6 : (List (Int × List (Arr2_Str × Int)))) =>
        chk (nI (v3 + 1)) <|
        back (v3 + 1, v6)) fun k1 =>
    bif (((ix a7 v3).Kind) != (0 : Int)) || (!(((ix a7 v3).Who) == a8.Who)) then
      k1 v4
    else
      (diary_plan_distance n a0 a1 a2 a3 a4 a5 v4 ((ix a7 v3).Place) a8.Place 1).bind fun y5 =>
      chk (!(!(!y5.2.1)) || inI (((ix a7 v3).To) + y5.1)) <|
      bif (!y5.2.1) || (decide (a8.From < (((ix a7 v3).To) + y5.1))) then
        some (16, y5.2.2)
      else
        k1 y5.2.2
  else
    k2 v4
def diary_plan_travels (n : Nat) (a0 : List Str) (a1 : List Str) (a2 : List Road) (a3 : List Grand) (a4 : Int) (a5 : Int) (a6 : List (Int × List (Arr2_Str × Int))) (a7 : List Item) (a8 : Item) : Option (Int × (List (Int × List (Arr2_Str × Int)))) :=
  bif (a8.Kind != (0 : Int)) then
    some (0, a6)
  else
    withK (fun (v7 : (List (Int × List (Arr2_Str × Int)))) =>
        some (0, v7)) fun k2 =>
    loopN (diary_plan_travels_L1 n a0 a1 a2 a3 a4 a5 a7 a8 k2) n (0, a6)
def diary_plan_tuning (n : Nat) (a0 : List Str) (a1 : List Str) (a2 : List Road) (a3 : List Grand) (a4 : Int) (a5 : Int) (a6 : List (Int × List (Arr2_Str × Int))) (a7 : List Item) (a8 : Item) : Option Int :=
  chk (decide (a7.length ≤ 4611686018427387904)) <|
  some (tuneL a8 a5 a7 a7.length)
def diary_plan_isTuned (n : Nat) (a0 : List Str) (a1 : List Str) (a2 : List Road) (a3 : List Grand) (a4 : Int) (a5 : Int) (a6 : List (Int × List (Arr2_Str × Int))) (a7 : List Item) (a8 : Item) : Option Int :=
  (gcall (a8.Kind == (2 : Int)) (diary_plan_tuning n a0 a1 a2 a3 a4 a5 a6 a7 a8)).bind fun y1 =>
  bif (a8.Kind == (2 : Int)) && (decide (y1 < (0 : Int))) then
    some 26
  else
    some 0
def diary_plan_accept_2_L1 (n : Nat) (a0 : List Str) (a1 : List Str) (a2 : List Road) (a3 : List Grand) (a4 : Int) (a5 : Int) (a7 : List Item) (k1 : ((List (Int × List (Arr2_Str × Int))) → Option (Int × Int × (List (Int × List (Arr2_Str × Int)))))) (back : Int × (List (Int × List (Arr2_Str × Int))) → Option (Int × Int × (List (Int × List (Arr2_Str × Int))))) : Int × (List (Int × List (Arr2_Str × Int))) → Option (Int × Int × (List (Int × List (Arr2_Str × Int))))
  | (v6, v7) =>
  bif decide (v6 < ((a7.length : Nat) : Int)) then
    chk (inB v6 a7.length) <|
    chk (decide (v6.toNat < a7.length)) <|
    (diary_checkItem n (Diary.mk a0 a1 a2 a3 a4 a5) (ix a7 v6.toNat)).bind fun y8 =>
    bif (y8 != (0 : Int)) then
      some (v6, y8, v7)
    else
      chk (!(decide ((0 : Int) < v6)) || inI (v6 - 1)) <|
      chk (!(decide ((0 : Int) < v6)) || inB (v6 - 1) a7.length) <|
      chk (!(decide ((0 : Int) < v6)) || decide ((v6 - 1).toNat < a7.length)) <|
      bif (decide ((0 : Int) < v6)) && (decide (((ix a7 v6.toNat).From) < ((ix a7 ((v6 - 1).toNat)).From))) then
        some (v6, 9, v7)
      else
        chk (inC v6 a7.length) <|
        (diary_plan_changes n a0 a1 a2 a3 a4 a5 v7 (List.take v6.toNat a7) (ix a7 v6.toNat)).bind fun y9 =>
        bif (y9 != (0 : Int)) then
          some (v6, y9, v7)
        else
          (diary_plan_stands n a0 a1 a2 a3 a4 a5 v7 (List.take v6.toNat a7) (ix a7 v6.toNat)).bind fun y10 =>
          bif (y10.1 != (0 : Int)) then
            some (v6, y10.1, y10.2)
          else
            (diary_plan_travels n a0 a1 a2 a3 a4 a5 y10.2 (List.take v6.toNat a7) (ix a7 v6.toNat)).bind fun y11 =>
            bif (y11.1 != (0 : Int)) then
              some (v6, y11.1, y11.2)
            else
              (diary_plan_isTuned n a0 a1 a2 a3 a4 a5 y11.2 (List.take v6.toNat a7) (ix a7 v6.toNat)).bind fun y12 =>
              bif (y12 != (0 : Int)) then
                some (v6, y12, y11.2)
              else
                chk (inI (v6 + 1)) <|
                back (v6 + 1, y11.2)
  else
    k1 v7
def diary_plan_accept_2 (n : Nat) (a0 : List Str) (a1 : List Str) (a2 : List Road) (a3 : List Grand) (a4 : Int) (a5 : Int) (a6 : List (Int × List (Arr2_Str × Int))) (a7 : List Item) : Option (Int × Int × (List (Int × List (Arr2_Str × Int)))) :=
  bif decide (100 < a7.length) then
    some (0, 8, a6)
  else
    withK (fun (v13 : (List (Int × List (Arr2_Str × Int)))) =>
        some ((-1), 0, v13)) fun k1 =>
    loopN (diary_plan_accept_2_L1 n a0 a1 a2 a3 a4 a5 a7 k1) n (0, a6)
def diary_Accept (n : Nat) (a0 : Diary) (a1 : List Item) : Option (Int × Int) :=
  withK (fun (v4 : Int) =>
      bif (v4 != (0 : Int)) then
        some (v4, 0)
      else
        (diary_plan_accept n a1).bind fun y5 =>
        some (y5.2, y5.1)) fun k1 =>
  withK (fun (_ : Unit) =>
      (diary_plan_accept_2 n a0.Places a0.Technicians a0.Roads a0.Grands a0.Change a0.Lasts ([] : List (Int × List (Arr2_Str × Int))) a1).bind fun y6 =>
      some (y6.2.1, y6.1)) fun k2 =>
  (diary_open n a0).bind fun y1 =>
  match y1 with
  | .inl y1 =>
    k1 y1
  | .inr y1 =>
    k2 ()
def diary_read (n : Nat) (a0 : Diary) (a1 : List Item) : Option (Int ⊕ (Int × (List (Int × List (Arr2_Str × Int))))) :=
  withK (fun (v4 : Int) =>
      bif (v4 != (0 : Int)) then
        some (.inl v4)
      else
        (diary_plan_accept n a1).bind fun y5 =>
        some (.inl y5.2)) fun k1 =>
  withK (fun (_ : Unit) =>
      (diary_plan_accept_2 n a0.Places a0.Technicians a0.Roads a0.Grands a0.Change a0.Lasts ([] : List (Int × List (Arr2_Str × Int))) a1).bind fun y6 =>
      some (.inr (y6.2.1, y6.2.2))) fun k2 =>
  (diary_open n a0).bind fun y1 =>
  match y1 with
  | .inl y1 =>
    k1 y1
  | .inr y1 =>
    k2 ()
def slices_Sort_int (n : Nat) (a0 : List Int) : Option (List Int) :=
  chk (decide (a0.length < 4611686018427387904)) <|
  some (sortI a0)
def slices_Compact_int_L1 (a1 : Nat) (a2 : Nat) (v10 : Nat) (k2 : (Nat × (List Int) → Option (Nat × (List Int)))) (back : Nat × Nat × (List Int) → Option (Nat × (List Int))) : Nat × Nat × (List Int) → Option (Nat × (List Int))
  | (v13, v14, v15) =>
  bif decide (v14 < (a2 - v10)) then
    withK (fun (v16, v17) =>
        chk (nI (v14 + 1)) <|
        back (v16, v14 + 1, v17)) fun k1 =>
    chk (decide ((a1 + v10) + v14 < v15.length)) <|
    chk (inI (((v14 : Nat) : Int) - 1)) <|
    chk (inB (((v14 : Nat) : Int) - 1) (a2 - v10)) <|
    chk (decide ((a1 + v10) + ((((v14 : Nat) : Int) - 1).toNat) < v15.length)) <|
    bif ((ix v15 ((a1 + v10) + v14)) != (ix v15 ((a1 + v10) + ((((v14 : Nat) : Int) - 1).toNat)))) then
      chk (decide (v13 < a2)) <|
      chk (decide (a1 + v13 < v15.length)) <|
      chk (nI (v13 + 1)) <|
      k1 (v13 + 1, (List.set v15 (a1 + v13) (ix v15 ((a1 + v10) + v14))))
    else
      k1 (v13, v15)
  else
    k2 (v13, v15)
def slices_Compact_int_L2 (n : Nat) (a0 : List Int) (a1 : Nat) (a2 : Nat) (k3 : (Unit → Option (Nat × (List Int)))) (back : Nat → Option (Nat × (List Int))) : Nat → Option (Nat × (List Int))
  | v10 =>
  bif decide (v10 < a2) then
    chk (decide (a1 + v10 < a0.length)) <|
    chk (inI (((v10 : Nat) : Int) - 1)) <|
    chk (inB (((v10 : Nat) : Int) - 1) a2) <|
    chk (decide (a1 + ((((v10 : Nat) : Int) - 1).toNat) < a0.length)) <|
    bif ((ix a0 (a1 + v10)) == (ix a0 (a1 + ((((v10 : Nat) : Int) - 1).toNat)))) then
      withK (fun (v18, v19) =>
          chk (decide (v18 < a2)) <|
          chk (decide (0 < (a2 - v18))) <|
          chk (decide ((a1 + v18) + (a2 - v18) ≤ v19.length)) <|
          chk (decide (a1 + v18 ≤ (clrP v19 (a1 + v18) (a2 - v18) (0 : Int)).length)) <|
          chk (decide (v18 ≤ a2)) <|
          some (v18, (clrP v19 (a1 + v18) (a2 - v18) (0 : Int)))) fun k2 =>
      loopN (slices_Compact_int_L1 a1 a2 v10 k2) n (v10, 1, a0)
    else
      chk (nI (v10 + 1)) <|
      back (v10 + 1)
  else
    k3 ()
def slices_Compact_int (n : Nat) (a0 : List Int) (a1 : Nat) (a2 : Nat) : Option (Nat × (List Int)) :=
  bif decide (a2 < 2) then
    some (a2, a0)
  else
    withK (fun (_ : Unit) =>
        some (a2, a0)) fun k3 =>
    loopN (slices_Compact_int_L2 n a0 a1 a2 k3) n 1
def slices_Clone_Item (n : Nat) (a0 : List Item) : Option (List Item) :=
  nilK (a0.isEmpty) fun b1 =>
  bif b1 then
    some ([] : List Item)
  else
    chk (room 80 a0.length) <|
    some a0
def slices_Insert_Item (n : Nat) (a0 : List Item) (a1 : Int) (a2 : List Item) : Option (List Item) :=
  chk (inC a1 a0.length) <|
  chk (decide (a2.length = 1)) <|
  chk (room 80 (a0.length + 1)) <|
  some (insL a0 a1.toNat (ix a2 0))
def diary_plan_add_L1 (a0 : List Item) (a1 : Item) (k1 : (Nat → Option (Int × (List Item)))) (back : Nat → Option (Int × (List Item))) : Nat → Option (Int × (List Item))
  | v1 =>
  bif (decide (v1 < a0.length)) && (decide (((ix a0 v1).From) ≤ a1.From)) then
    chk (nI (v1 + 1)) <|
    back (v1 + 1)
  else
    k1 v1
def diary_plan_add (n : Nat) (a0 : List Item) (a1 : Item) : Option (Int × (List Item)) :=
  withK (fun (v2 : Nat) =>
      (slices_Clone_Item n a0).bind fun y3 =>
      (slices_Insert_Item n y3 ((v2 : Nat) : Int) ([a1] : List Item)).bind fun y4 =>
      (diary_plan_accept n y4).bind fun y5 =>
      bif (y5.2 != (0 : Int)) then
        some (y5.2, ([] : List Item))
      else
        some (0, y4)) fun k1 =>
  loopN (diary_plan_add_L1 a0 a1 k1) n 0
def diary_plan_add_2_L1 (a7 : List Item) (a8 : Item) (k1 : (Nat → Option (Int × (List (Int × List (Arr2_Str × Int))) × (List Item)))) (back : Nat → Option (Int × (List (Int × List (Arr2_Str × Int))) × (List Item))) : Nat → Option (Int × (List (Int × List (Arr2_Str × Int))) × (List Item))
  | v1 =>
  bif (decide (v1 < a7.length)) && (decide (((ix a7 v1).From) ≤ a8.From)) then
    chk (nI (v1 + 1)) <|
    back (v1 + 1)
  else
    k1 v1
def diary_plan_add_2 (n : Nat) (a0 : List Str) (a1 : List Str) (a2 : List Road) (a3 : List Grand) (a4 : Int) (a5 : Int) (a6 : List (Int × List (Arr2_Str × Int))) (a7 : List Item) (a8 : Item) : Option (Int × (List (Int × List (Arr2_Str × Int))) × (List Item)) :=
  withK (fun (v2 : Nat) =>
      (slices_Clone_Item n a7).bind fun y3 =>
      (slices_Insert_Item n y3 ((v2 : Nat) : Int) ([a8] : List Item)).bind fun y4 =>
      (diary_plan_accept_2 n a0 a1 a2 a3 a4 a5 a6 y4).bind fun y5 =>
      bif (y5.2.1 != (0 : Int)) then
        some (y5.2.1, y5.2.2, ([] : List Item))
      else
        some (0, y5.2.2, y4)) fun k1 =>
  loopN (diary_plan_add_2_L1 a7 a8 k1) n 0
def diary_FreeFrom_L2 (n : Nat) (a1 : List Item) (a2 : Item) (y7 : Nat × (List Int)) (k4 : (Unit → Option (Int × Int))) (back : Nat → Option (Int × Int)) : Nat → Option (Int × Int)
  | v9 =>
  bif decide (v9 < y7.1) then
    withK (fun (_ : Unit) =>
        chk (nI (v9 + 1)) <|
        back (v9 + 1)) fun k3 =>
    chk (decide (v9 < y7.2.length)) <|
    chk (!(!(decide ((ix y7.2 v9) < a2.From))) || inI ((ix y7.2 v9) + (a2.To - a2.From))) <|
    bif (decide ((ix y7.2 v9) < a2.From)) || (decide ((1000000 : Int) < ((ix y7.2 v9) + (a2.To - a2.From)))) then
      k3 ()
    else
      chk (inI ((ix y7.2 v9) + (a2.To - a2.From))) <|
      (diary_plan_add n a1 (Item.mk a2.Kind (ix y7.2 v9) ((ix y7.2 v9) + (a2.To - a2.From)) a2.Grand a2.Place a2.Who a2.Deposit)).bind fun y10 =>
      bif (y10.1 == (0 : Int)) then
        some (0, (ix y7.2 v9))
      else
        k3 ()
  else
    k4 ()
def diary_FreeFrom_L1 (a0 : Diary) (a1 : List Item) (a2 : Item) (k2 : (Unit → Option (Int × Int))) (back : Unit → Option (Int × Int)) : Unit → Option (Int × Int)
  | _ =>
  bif decide (0 < a1.length) then
    chk (inI (((ix a1 0).To) + a0.Change)) <|
    chk (room 8 (([a2.From] : List Int) ++ ([(ix a1 0).From, (ix a1 0).To, ((ix a1 0).To) + a0.Change] : List Int)).length) <|
    none
  else
    k2 ()
def diary_FreeFrom_L4 (n : Nat) (a0 : Diary) (a1 : List Item) (a2 : Item) (y26 : Nat × (List Int)) (k9 : (Unit → Option (Int × Int))) (back : Nat × (List (Int × List (Arr2_Str × Int))) → Option (Int × Int)) : Nat × (List (Int × List (Arr2_Str × Int))) → Option (Int × Int)
  | (v29, v30) =>
  bif decide (v29 < y26.1) then
    withK (fun (v32 : (List (Int × List (Arr2_Str × Int)))) =>
        chk (nI (v29 + 1)) <|
        back (v29 + 1, v32)) fun k8 =>
    chk (decide (v29 < y26.2.length)) <|
    chk (!(!(decide ((ix y26.2 v29) < a2.From))) || inI ((ix y26.2 v29) + (a2.To - a2.From))) <|
    bif (decide ((ix y26.2 v29) < a2.From)) || (decide ((1000000 : Int) < ((ix y26.2 v29) + (a2.To - a2.From)))) then
      k8 v30
    else
      chk (inI ((ix y26.2 v29) + (a2.To - a2.From))) <|
      (diary_plan_add_2 n a0.Places a0.Technicians a0.Roads a0.Grands a0.Change a0.Lasts v30 a1 (Item.mk a2.Kind (ix y26.2 v29) ((ix y26.2 v29) + (a2.To - a2.From)) a2.Grand a2.Place a2.Who a2.Deposit)).bind fun y31 =>
      bif (y31.1 == (0 : Int)) then
        some (0, (ix y26.2 v29))
      else
        k8 y31.2.1
  else
    k9 ()
def diary_FreeFrom_L3 (n : Nat) (a0 : Diary) (a1 : List Item) (a2 : Item) (k7 : ((List Int) × (List (Int × List (Arr2_Str × Int))) → Option (Int × Int))) (back : Nat × (List Int) × (List (Int × List (Arr2_Str × Int))) → Option (Int × Int)) : Nat × (List Int) × (List (Int × List (Arr2_Str × Int))) → Option (Int × Int)
  | (v17, v18, v19) =>
  bif decide (v17 < a1.length) then
    withK (fun (v21, v22) =>
        chk (nI (v17 + 1)) <|
        back (v17 + 1, v21, v22)) fun k6 =>
    chk (inI (((ix a1 v17).To) + a0.Change)) <|
    chk (room 8 (v18 ++ ([(ix a1 v17).From, (ix a1 v17).To, ((ix a1 v17).To) + a0.Change] : List Int)).length) <|
    (diary_plan_distance n a0.Places a0.Technicians a0.Roads a0.Grands a0.Change a0.Lasts v19 ((ix a1 v17).Place) a2.Place 1).bind fun y20 =>
    bif y20.2.1 then
      chk (inI (((ix a1 v17).To) + y20.1)) <|
      chk (room 8 ((v18 ++ ([(ix a1 v17).From, (ix a1 v17).To, ((ix a1 v17).To) + a0.Change] : List Int)) ++ ([((ix a1 v17).To) + y20.1] : List Int)).length) <|
      k6 (((v18 ++ ([(ix a1 v17).From, (ix a1 v17).To, ((ix a1 v17).To) + a0.Change] : List Int)) ++ ([((ix a1 v17).To) + y20.1] : List Int)), y20.2.2)
    else
      k6 ((v18 ++ ([(ix a1 v17).From, (ix a1 v17).To, ((ix a1 v17).To) + a0.Change] : List Int)), y20.2.2)
  else
    k7 (v18, v19)
def diary_FreeFrom (n : Nat) (a0 : Diary) (a1 : List Item) (a2 : Item) : Option (Int × Int) :=
  withK (fun (v4 : Int) =>
      bif (v4 != (0 : Int)) then
        some (v4, 0)
      else
        bif decide (100 ≤ a1.length) then
          some (8, 0)
        else
          (diary_checkItem n a0 a2).bind fun y5 =>
          bif (y5 != (0 : Int)) then
            some (y5, 0)
          else
            withK (fun (_ : Unit) =>
                (slices_Sort_int n ([a2.From] : List Int)).bind fun y6 =>
                chk (inI (a2.To - a2.From)) <|
                withK (fun (_ : Unit) =>
                    some (12, 0)) fun k4 =>
                (slices_Compact_int n y6 0 1).bind fun y7 =>
                loopN (diary_FreeFrom_L2 n a1 a2 y7 k4) n 0) fun k2 =>
            loopN (diary_FreeFrom_L1 a0 a1 a2 k2) n ()) fun k1 =>
  withK (fun (v11, v12) =>
      bif (v11 != (0 : Int)) then
        some (v11, 0)
      else
        bif decide (100 ≤ a1.length) then
          some (8, 0)
        else
          (diary_checkItem n a0 a2).bind fun y13 =>
          bif (y13 != (0 : Int)) then
            some (y13, 0)
          else
            withK (fun (v23, v24) =>
                (slices_Sort_int n v23).bind fun y25 =>
                chk (decide (v23.length = y25.length)) <|
                chk (inI (a2.To - a2.From)) <|
                withK (fun (_ : Unit) =>
                    some (12, 0)) fun k9 =>
                (slices_Compact_int n y25 0 y25.length).bind fun y26 =>
                chk (decide (y25.length = y26.2.length)) <|
                loopN (diary_FreeFrom_L4 n a0 a1 a2 y26 k9) n (0, v24)) fun k7 =>
            loopN (diary_FreeFrom_L3 n a0 a1 a2 k7) n (0, ([a2.From] : List Int), v12)) fun k5 =>
  (diary_read n a0 a1).bind fun y1 =>
  match y1 with
  | .inl y1 =>
    k1 y1
  | .inr y1 =>
    k5 (y1.1, y1.2)
def diary_CheckWindows_L1 (n : Nat) (a0 : List Window) (k1 : (Unit → Option Int)) (back : Nat → Option Int) : Nat → Option Int
  | v3 =>
  bif decide (v3 < a0.length) then
    (diary_within n ((ix a0 v3).From) 0 1000).bind fun y4 =>
    (gcall (!(!((decide (0 ≤ ((ix a0 v3).From))) && (decide (((ix a0 v3).From) ≤ 1000))))) (diary_within n ((ix a0 v3).To) 0 1000)).bind fun y5 =>
    bif (!((decide (0 ≤ ((ix a0 v3).From))) && (decide (((ix a0 v3).From) ≤ 1000)))) || (!((decide (0 ≤ ((ix a0 v3).To))) && (decide (((ix a0 v3).To) ≤ 1000)))) then
      some 2
    else
      bif decide (((ix a0 v3).To) ≤ ((ix a0 v3).From)) then
        some 9
      else
        chk (nI (v3 + 1)) <|
        back (v3 + 1)
  else
    k1 ()
def diary_CheckWindows (n : Nat) (a0 : List Window) : Option Int :=
  bif decide (60 < a0.length) then
    some 8
  else
    withK (fun (_ : Unit) =>
        some 0) fun k1 =>
    loopN (diary_CheckWindows_L1 n a0 k1) n 0
def math_bits_Mul64 (n : Nat) (a0 : Int) (a1 : Int) : Option Unit :=
  some ()
def math_bits_Mul (n : Nat) (a0 : Int) (a1 : Int) : Option Unit :=
  (math_bits_Mul64 n a0 a1).bind fun y1 =>
  some ()
def slices_Repeat_int_L1 (a0 : List Int) (a1 : Int) (k1 : ((List Int) → Option (List Int))) (back : Nat × (List Int) → Option (List Int)) : Nat × (List Int) → Option (List Int)
  | (v2, v3) =>
  bif decide (v2 < ((List.replicate ((IntKind.u64.wrap ((IntKind.u64.wrap ((a0.length : Nat) : Int)) * (IntKind.u64.wrap a1))).toNat) (0 : Int)).length)) then
    chk (decide (v2 ≤ ((List.replicate ((IntKind.u64.wrap ((IntKind.u64.wrap ((a0.length : Nat) : Int)) * (IntKind.u64.wrap a1))).toNat) (0 : Int)).length))) <|
    chk (decide (v2 + (((List.replicate ((IntKind.u64.wrap ((IntKind.u64.wrap ((a0.length : Nat) : Int)) * (IntKind.u64.wrap a1))).toNat) (0 : Int)).length) - v2) ≤ v3.length)) <|
    chk (decide (0 + v2 ≤ v3.length)) <|
    chk (nI (v2 + (Nat.min (List.take v2 (List.drop 0 v3)).length (((List.replicate ((IntKind.u64.wrap ((IntKind.u64.wrap ((a0.length : Nat) : Int)) * (IntKind.u64.wrap a1))).toNat) (0 : Int)).length) - v2)))) <|
    back (v2 + (Nat.min (List.take v2 (List.drop 0 v3)).length (((List.replicate ((IntKind.u64.wrap ((IntKind.u64.wrap ((a0.length : Nat) : Int)) * (IntKind.u64.wrap a1))).toNat) (0 : Int)).length) - v2)), (cpyP v3 v2 (List.take (Nat.min (List.take v2 (List.drop 0 v3)).length (((List.replicate ((IntKind.u64.wrap ((IntKind.u64.wrap ((a0.length : Nat) : Int)) * (IntKind.u64.wrap a1))).toNat) (0 : Int)).length) - v2)) (List.take v2 (List.drop 0 v3)))))
  else
    k1 v3
def slices_Repeat_int (n : Nat) (a0 : List Int) (a1 : Int) : Option (List Int) :=
  bif decide (a1 < (0 : Int)) then
    none
  else
    (math_bits_Mul n (IntKind.u64.wrap ((a0.length : Nat) : Int)) (IntKind.u64.wrap a1)).bind fun y1 =>
    bif (decide ((0 : Int) < (IntKind.u64.wrap ((IntKind.u64.wrap ((IntKind.u64.wrap ((Int.fdiv (IntKind.u64.wrap ((a0.length : Nat) : Int)) (2 ^ (min 32 64))) * (Int.fdiv (IntKind.u64.wrap a1) (2 ^ (min 32 64))))) + (Int.fdiv (IntKind.u64.wrap ((IntKind.u64.wrap ((Int.fdiv (IntKind.u64.wrap ((a0.length : Nat) : Int)) (2 ^ (min 32 64))) * (iAnd .u64 (IntKind.u64.wrap a1) 4294967295))) + (Int.fdiv (IntKind.u64.wrap ((iAnd .u64 (IntKind.u64.wrap ((a0.length : Nat) : Int)) 4294967295) * (iAnd .u64 (IntKind.u64.wrap a1) 4294967295))) (2 ^ (min 32 64))))) (2 ^ (min 32 64))))) + (Int.fdiv (IntKind.u64.wrap ((iAnd .u64 (IntKind.u64.wrap ((IntKind.u64.wrap ((Int.fdiv (IntKind.u64.wrap ((a0.length : Nat) : Int)) (2 ^ (min 32 64))) * (iAnd .u64 (IntKind.u64.wrap a1) 4294967295))) + (Int.fdiv (IntKind.u64.wrap ((iAnd .u64 (IntKind.u64.wrap ((a0.length : Nat) : Int)) 4294967295) * (iAnd .u64 (IntKind.u64.wrap a1) 4294967295))) (2 ^ (min 32 64))))) 4294967295) + (IntKind.u64.wrap ((iAnd .u64 (IntKind.u64.wrap ((a0.length : Nat) : Int)) 4294967295) * (Int.fdiv (IntKind.u64.wrap a1) (2 ^ (min 32 64))))))) (2 ^ (min 32 64))))))) || (decide ((9223372036854775807 : Int) < (IntKind.u64.wrap ((IntKind.u64.wrap ((a0.length : Nat) : Int)) * (IntKind.u64.wrap a1))))) then
      none
    else
      chk (inI (IntKind.u64.wrap ((IntKind.u64.wrap ((a0.length : Nat) : Int)) * (IntKind.u64.wrap a1)))) <|
      chk (decide (0 ≤ (IntKind.u64.wrap ((IntKind.u64.wrap ((a0.length : Nat) : Int)) * (IntKind.u64.wrap a1))))) <|
      chk (mkroom 8 ((IntKind.u64.wrap ((IntKind.u64.wrap ((a0.length : Nat) : Int)) * (IntKind.u64.wrap a1))).toNat)) <|
      chk (decide (0 + ((List.replicate ((IntKind.u64.wrap ((IntKind.u64.wrap ((a0.length : Nat) : Int)) * (IntKind.u64.wrap a1))).toNat) (0 : Int)).length) ≤ (List.replicate ((IntKind.u64.wrap ((IntKind.u64.wrap ((a0.length : Nat) : Int)) * (IntKind.u64.wrap a1))).toNat) (0 : Int)).length)) <|
      chk (decide (0 + a0.length ≤ a0.length)) <|
      withK (fun (v4 : (List Int)) =>
          some v4) fun k1 =>
      loopN (slices_Repeat_int_L1 a0 a1 k1) n (Nat.min (List.take a0.length (List.drop 0 a0)).length ((List.replicate ((IntKind.u64.wrap ((IntKind.u64.wrap ((a0.length : Nat) : Int)) * (IntKind.u64.wrap a1))).toNat) (0 : Int)).length), (cpyP (List.replicate ((IntKind.u64.wrap ((IntKind.u64.wrap ((a0.length : Nat) : Int)) * (IntKind.u64.wrap a1))).toNat) (0 : Int)) 0 (List.take (Nat.min (List.take a0.length (List.drop 0 a0)).length ((List.replicate ((IntKind.u64.wrap ((IntKind.u64.wrap ((a0.length : Nat) : Int)) * (IntKind.u64.wrap a1))).toNat) (0 : Int)).length)) (List.take a0.length (List.drop 0 a0)))))
def diary_schedule_L1 (a0 : List Window) (v8 : Nat) (v9 : List Int) (k2 : (Int → Option (List Int))) (back : Int × Nat → Option (List Int)) : Int × Nat → Option (List Int)
  | (v11, v12) =>
  bif decide (v12 < a0.length) then
    withK (fun (v13 : Int) =>
        chk (nI (v12 + 1)) <|
        back (v13, v12 + 1)) fun k1 =>
    chk (decide (v12 < ((List.replicate ((IntKind.u64.wrap ((IntKind.u64.wrap ((([(-1)] : List Int).length : Nat) : Int)) * (IntKind.u64.wrap ((a0.length : Nat) : Int)))).toNat) (0 : Int)).length))) <|
    chk (decide (v12 < v9.length)) <|
    chk (!((((decide ((ix v9 v12) < (0 : Int))) && (decide (((ix a0 v12).From) ≤ ((v8 : Nat) : Int)))) && (decide (((v8 : Nat) : Int) < ((ix a0 v12).To)))) && !(decide (v11 < (0 : Int)))) || inB v11 a0.length) <|
    chk (!((((decide ((ix v9 v12) < (0 : Int))) && (decide (((ix a0 v12).From) ≤ ((v8 : Nat) : Int)))) && (decide (((v8 : Nat) : Int) < ((ix a0 v12).To)))) && !(decide (v11 < (0 : Int)))) || decide (v11.toNat < a0.length)) <|
    bif (((decide ((ix v9 v12) < (0 : Int))) && (decide (((ix a0 v12).From) ≤ ((v8 : Nat) : Int)))) && (decide (((v8 : Nat) : Int) < ((ix a0 v12).To)))) && ((decide (v11 < (0 : Int))) || (decide (((ix a0 v12).To) < ((ix a0 v11.toNat).To)))) then
      k1 ((v12 : Nat) : Int)
    else
      k1 v11
  else
    k2 v11
def diary_schedule_L2 (n : Nat) (a0 : List Window) (k4 : ((List Int) → Option (List Int))) (back : Nat × (List Int) → Option (List Int)) : Nat × (List Int) → Option (List Int)
  | (v8, v9) =>
  bif decide (v8 < 1000) then
    withK (fun (v15 : (List Int)) =>
        chk (nI (v8 + 1)) <|
        back (v8 + 1, v15)) fun k3 =>
    withK (fun (v14 : Int) =>
        bif decide ((0 : Int) ≤ v14) then
          chk (inB v14 ((List.replicate ((IntKind.u64.wrap ((IntKind.u64.wrap ((([(-1)] : List Int).length : Nat) : Int)) * (IntKind.u64.wrap ((a0.length : Nat) : Int)))).toNat) (0 : Int)).length)) <|
          chk (decide (v14.toNat < v9.length)) <|
          k3 (List.set v9 v14.toNat ((v8 : Nat) : Int))
        else
          k3 v9) fun k2 =>
    loopN (diary_schedule_L1 a0 v8 v9 k2) n ((-1), 0)
  else
    k4 v9
def diary_schedule (n : Nat) (a0 : List Window) : Option (List Int) :=
  (slices_Repeat_int n ([(-1)] : List Int) ((a0.length : Nat) : Int)).bind fun y1 =>
  withK (fun (v16 : (List Int)) =>
      some v16) fun k4 =>
  loopN (diary_schedule_L2 n a0 k4) n (0, y1)
def diary_Most (n : Nat) (a0 : List Window) : Option (Int ⊕ (List Int)) :=
  (diary_CheckWindows n a0).bind fun y1 =>
  bif (y1 != (0 : Int)) then
    some (.inl y1)
  else
    (diary_schedule n a0).bind fun y2 =>
    some (.inr y2)
def agraffebase_Ints_L1 (a0 : List Int) (a1 : List Int) (k1 : (Unit → Option Bool)) (back : Nat → Option Bool) : Nat → Option Bool
  | v1 =>
  bif decide (v1 < a0.length) then
    chk (decide (v1 < a1.length)) <|
    bif ((ix a0 v1) != (ix a1 v1)) then
      some false
    else
      chk (nI (v1 + 1)) <|
      back (v1 + 1)
  else
    k1 ()
def agraffebase_Ints (n : Nat) (a0 : List Int) (a1 : List Int) : Option Bool :=
  bif !decide (a0.length = a1.length) then
    some false
  else
    withK (fun (_ : Unit) =>
        some true) fun k1 =>
    loopN (agraffebase_Ints_L1 a0 a1 k1) n 0
def agraffebase_Ints_2_L1 (a0 : List Int) (a1 : Nat) (a2 : Nat) (a3 : List Int) (k1 : (Unit → Option Bool)) (back : Nat → Option Bool) : Nat → Option Bool
  | v1 =>
  bif decide (v1 < a2) then
    chk (decide (a1 + v1 < a0.length)) <|
    chk (decide (v1 < a3.length)) <|
    bif ((ix a0 (a1 + v1)) != (ix a3 v1)) then
      some false
    else
      chk (nI (v1 + 1)) <|
      back (v1 + 1)
  else
    k1 ()
def agraffebase_Ints_2 (n : Nat) (a0 : List Int) (a1 : Nat) (a2 : Nat) (a3 : List Int) : Option Bool :=
  bif !decide (a2 = a3.length) then
    some false
  else
    withK (fun (_ : Unit) =>
        some true) fun k1 =>
    loopN (agraffebase_Ints_2_L1 a0 a1 a2 a3 k1) n 0
def agraffelaw09_awake (n : Nat)  : Option Bool :=
  (agraffelaw09_Town n).bind fun y1 =>
  (diary_Distances n (Diary.mk ([([115, 104, 111, 112] : Str), ([104, 97, 108, 108] : Str), ([104, 111, 109, 101] : Str)] : List Str) ([([97, 110, 110] : Str), ([98, 111, 98] : Str)] : List Str) ([(Road.mk ([115, 104, 111, 112] : Str) ([104, 97, 108, 108] : Str) 30 200), (Road.mk ([104, 97, 108, 108] : Str) ([104, 111, 109, 101] : Str) 20 100), (Road.mk ([115, 104, 111, 112] : Str) ([104, 111, 109, 101] : Str) 60 150)] : List Road) ([(Grand.mk ([103] : Str) ([115, 104, 111, 112] : Str) 150), (Grand.mk ([117] : Str) ([104, 111, 109, 101] : Str) 100)] : List Grand) 10 300) ([115, 104, 111, 112] : Str) 100).bind fun y2 =>
  (agraffelaw09_Town n).bind fun y3 =>
  (agraffelaw09_Evening n).bind fun y4 =>
  (diary_Accept n (Diary.mk ([([115, 104, 111, 112] : Str), ([104, 97, 108, 108] : Str), ([104, 111, 109, 101] : Str)] : List Str) ([([97, 110, 110] : Str), ([98, 111, 98] : Str)] : List Str) ([(Road.mk ([115, 104, 111, 112] : Str) ([104, 97, 108, 108] : Str) 30 200), (Road.mk ([104, 97, 108, 108] : Str) ([104, 111, 109, 101] : Str) 20 100), (Road.mk ([115, 104, 111, 112] : Str) ([104, 111, 109, 101] : Str) 60 150)] : List Road) ([(Grand.mk ([103] : Str) ([115, 104, 111, 112] : Str) 150), (Grand.mk ([117] : Str) ([104, 111, 109, 101] : Str) 100)] : List Grand) 10 300) ([(Item.mk 1 0 40 ([103] : Str) ([104, 97, 108, 108] : Str) ([] : Str) 0), (Item.mk 0 50 110 ([103] : Str) ([104, 97, 108, 108] : Str) ([97, 110, 110] : Str) 0), (Item.mk 2 200 300 ([103] : Str) ([104, 97, 108, 108] : Str) ([] : Str) 0)] : List Item)).bind fun y5 =>
  (agraffelaw09_Town n).bind fun y6 =>
  (agraffelaw09_Evening n).bind fun y7 =>
  (diary_FreeFrom n (Diary.mk ([([115, 104, 111, 112] : Str), ([104, 97, 108, 108] : Str), ([104, 111, 109, 101] : Str)] : List Str) ([([97, 110, 110] : Str), ([98, 111, 98] : Str)] : List Str) ([(Road.mk ([115, 104, 111, 112] : Str) ([104, 97, 108, 108] : Str) 30 200), (Road.mk ([104, 97, 108, 108] : Str) ([104, 111, 109, 101] : Str) 20 100), (Road.mk ([115, 104, 111, 112] : Str) ([104, 111, 109, 101] : Str) 60 150)] : List Road) ([(Grand.mk ([103] : Str) ([115, 104, 111, 112] : Str) 150), (Grand.mk ([117] : Str) ([104, 111, 109, 101] : Str) 100)] : List Grand) 10 300) ([(Item.mk 1 0 40 ([103] : Str) ([104, 97, 108, 108] : Str) ([] : Str) 0), (Item.mk 0 50 110 ([103] : Str) ([104, 97, 108, 108] : Str) ([97, 110, 110] : Str) 0), (Item.mk 2 200 300 ([103] : Str) ([104, 97, 108, 108] : Str) ([] : Str) 0)] : List Item) (Item.mk 0 120 180 ([117] : Str) ([104, 111, 109, 101] : Str) ([97, 110, 110] : Str) 0)).bind fun y8 =>
  withK (fun (v12 : Int) =>
      withK (fun (v16 : Bool) =>
          some v16) fun k2 =>
      bif (y2.1 == (0 : Int)) then
        (agraffebase_Ints n y2.2 ([0, 30, 50] : List Int)).bind fun y13 =>
        bif ((((((y2.1 == (0 : Int)) && y13) && (y5.1 == (0 : Int))) && (y5.2 == ((-1) : Int))) && (y8.1 == (0 : Int))) && (y8.2 == (130 : Int))) && (v12 == (0 : Int)) then
          (agraffebase_Ints n ([] : List Int) ([0, 1, 2, (-1)] : List Int)).bind fun y14 =>
          k2 ((((((((y2.1 == (0 : Int)) && y13) && (y5.1 == (0 : Int))) && (y5.2 == ((-1) : Int))) && (y8.1 == (0 : Int))) && (y8.2 == (130 : Int))) && (v12 == (0 : Int))) && y14)
        else
          k2 ((((((((y2.1 == (0 : Int)) && y13) && (y5.1 == (0 : Int))) && (y5.2 == ((-1) : Int))) && (y8.1 == (0 : Int))) && (y8.2 == (130 : Int))) && (v12 == (0 : Int))) && false)
      else
        bif ((((((y2.1 == (0 : Int)) && false) && (y5.1 == (0 : Int))) && (y5.2 == ((-1) : Int))) && (y8.1 == (0 : Int))) && (y8.2 == (130 : Int))) && (v12 == (0 : Int)) then
          (agraffebase_Ints n ([] : List Int) ([0, 1, 2, (-1)] : List Int)).bind fun y15 =>
          k2 ((((((((y2.1 == (0 : Int)) && false) && (y5.1 == (0 : Int))) && (y5.2 == ((-1) : Int))) && (y8.1 == (0 : Int))) && (y8.2 == (130 : Int))) && (v12 == (0 : Int))) && y15)
        else
          k2 ((((((((y2.1 == (0 : Int)) && false) && (y5.1 == (0 : Int))) && (y5.2 == ((-1) : Int))) && (y8.1 == (0 : Int))) && (y8.2 == (130 : Int))) && (v12 == (0 : Int))) && false)) fun k1 =>
  withK (fun (v17 : (List Int)) =>
      withK (fun (v21 : Bool) =>
          some v21) fun k4 =>
      bif (y2.1 == (0 : Int)) then
        (agraffebase_Ints n y2.2 ([0, 30, 50] : List Int)).bind fun y18 =>
        bif ((((((y2.1 == (0 : Int)) && y18) && (y5.1 == (0 : Int))) && (y5.2 == ((-1) : Int))) && (y8.1 == (0 : Int))) && (y8.2 == (130 : Int))) && true then
          (agraffebase_Ints_2 n v17 0 ((List.replicate ((IntKind.u64.wrap ((IntKind.u64.wrap ((([(-1)] : List Int).length : Nat) : Int)) * (IntKind.u64.wrap ((([(Window.mk 0 2), (Window.mk 0 2), (Window.mk 1 3), (Window.mk 2 3)] : List Window).length : Nat) : Int)))).toNat) (0 : Int)).length) ([0, 1, 2, (-1)] : List Int)).bind fun y19 =>
          k4 ((((((((y2.1 == (0 : Int)) && y18) && (y5.1 == (0 : Int))) && (y5.2 == ((-1) : Int))) && (y8.1 == (0 : Int))) && (y8.2 == (130 : Int))) && true) && y19)
        else
          k4 ((((((((y2.1 == (0 : Int)) && y18) && (y5.1 == (0 : Int))) && (y5.2 == ((-1) : Int))) && (y8.1 == (0 : Int))) && (y8.2 == (130 : Int))) && true) && false)
      else
        bif ((((((y2.1 == (0 : Int)) && false) && (y5.1 == (0 : Int))) && (y5.2 == ((-1) : Int))) && (y8.1 == (0 : Int))) && (y8.2 == (130 : Int))) && true then
          (agraffebase_Ints_2 n v17 0 ((List.replicate ((IntKind.u64.wrap ((IntKind.u64.wrap ((([(-1)] : List Int).length : Nat) : Int)) * (IntKind.u64.wrap ((([(Window.mk 0 2), (Window.mk 0 2), (Window.mk 1 3), (Window.mk 2 3)] : List Window).length : Nat) : Int)))).toNat) (0 : Int)).length) ([0, 1, 2, (-1)] : List Int)).bind fun y20 =>
          k4 ((((((((y2.1 == (0 : Int)) && false) && (y5.1 == (0 : Int))) && (y5.2 == ((-1) : Int))) && (y8.1 == (0 : Int))) && (y8.2 == (130 : Int))) && true) && y20)
        else
          k4 ((((((((y2.1 == (0 : Int)) && false) && (y5.1 == (0 : Int))) && (y5.2 == ((-1) : Int))) && (y8.1 == (0 : Int))) && (y8.2 == (130 : Int))) && true) && false)) fun k3 =>
  (diary_Most n ([(Window.mk 0 2), (Window.mk 0 2), (Window.mk 1 3), (Window.mk 2 3)] : List Window)).bind fun y9 =>
  match y9 with
  | .inl y9 =>
    k1 y9
  | .inr y9 =>
    k3 y9
def agraffelaw09_short_L1 (a0 : List Str) (k1 : (Unit → Option Bool)) (back : Nat → Option Bool) : Nat → Option Bool
  | v1 =>
  bif decide (v1 < a0.length) then
    bif decide (30 < ((ix a0 v1).length)) then
      some false
    else
      chk (nI (v1 + 1)) <|
      back (v1 + 1)
  else
    k1 ()
def agraffelaw09_short (n : Nat) (a0 : List Str) (a1 : Int) (a2 : Int) : Option Bool :=
  withK (fun (_ : Unit) =>
      chk (!((!(decide (((a0.length : Nat) : Int) ≤ a1))) && (decide (a2 < ((a0.length : Nat) : Int)))) || inI (a2 + 3)) <|
      some ((decide (((a0.length : Nat) : Int) ≤ a1)) || ((decide (a2 < ((a0.length : Nat) : Int))) && (decide (((a0.length : Nat) : Int) ≤ (a2 + 3)))))) fun k1 =>
  loopN (agraffelaw09_short_L1 a0 k1) n 0
def agraffelaw09_Light_L2 (a0 : Diary) (k2 : (Unit → Option Bool)) (back : Nat → Option Bool) : Nat → Option Bool
  | v4 =>
  bif decide (v4 < a0.Grands.length) then
    bif (decide (30 < (((ix a0.Grands v4).Name).length))) || (decide (30 < (((ix a0.Grands v4).Place).length))) then
      some false
    else
      chk (nI (v4 + 1)) <|
      back (v4 + 1)
  else
    k2 ()
def agraffelaw09_Light_L1 (a0 : Diary) (k1 : (Unit → Option Bool)) (back : Nat → Option Bool) : Nat → Option Bool
  | v3 =>
  bif decide (v3 < a0.Roads.length) then
    bif (decide (30 < (((ix a0.Roads v3).A).length))) || (decide (30 < (((ix a0.Roads v3).B).length))) then
      some false
    else
      chk (nI (v3 + 1)) <|
      back (v3 + 1)
  else
    k1 ()
def agraffelaw09_Light (n : Nat) (a0 : Diary) : Option Bool :=
  (agraffelaw09_short n a0.Places 6 20).bind fun y1 =>
  (gcall (!(!y1)) (agraffelaw09_short n a0.Technicians 4 12)).bind fun y2 =>
  bif (((((!y1) || (!y2)) || ((decide (8 < a0.Roads.length)) && (decide (a0.Roads.length ≤ 60)))) || (decide (63 < a0.Roads.length))) || ((decide (4 < a0.Grands.length)) && (decide (a0.Grands.length ≤ 12)))) || (decide (15 < a0.Grands.length)) then
    some false
  else
    withK (fun (_ : Unit) =>
        withK (fun (_ : Unit) =>
            some true) fun k2 =>
        loopN (agraffelaw09_Light_L2 a0 k2) n 0) fun k1 =>
    loopN (agraffelaw09_Light_L1 a0 k1) n 0
def agraffebase_isLetter (n : Nat) (a0 : Int) : Option Unit :=
  some ()
def agraffebase_isDigit (n : Nat) (a0 : Int) : Option Unit :=
  some ()
def agraffebase_IsName_L1 (n : Nat) (a0 : Str) (k1 : (Unit → Option Bool)) (back : Nat → Option Bool) : Nat → Option Bool
  | v4 =>
  bif decide (v4 < a0.length) then
    (agraffebase_isLetter n (((List.getD a0 v4 0).toNat : Nat) : Int)).bind fun y5 =>
    (gcall (!(((decide ((97 : Int) ≤ (((List.getD a0 v4 0).toNat : Nat) : Int))) && (decide ((((List.getD a0 v4 0).toNat : Nat) : Int) ≤ (122 : Int)))) || ((decide ((65 : Int) ≤ (((List.getD a0 v4 0).toNat : Nat) : Int))) && (decide ((((List.getD a0 v4 0).toNat : Nat) : Int) ≤ (90 : Int)))))) (agraffebase_isDigit n (((List.getD a0 v4 0).toNat : Nat) : Int))).bind fun y6 =>
    bif ((!(((decide ((97 : Int) ≤ (((List.getD a0 v4 0).toNat : Nat) : Int))) && (decide ((((List.getD a0 v4 0).toNat : Nat) : Int) ≤ (122 : Int)))) || ((decide ((65 : Int) ≤ (((List.getD a0 v4 0).toNat : Nat) : Int))) && (decide ((((List.getD a0 v4 0).toNat : Nat) : Int) ≤ (90 : Int)))))) && (!((decide ((48 : Int) ≤ (((List.getD a0 v4 0).toNat : Nat) : Int))) && (decide ((((List.getD a0 v4 0).toNat : Nat) : Int) ≤ (57 : Int)))))) && ((((List.getD a0 v4 0).toNat : Nat) : Int) != (45 : Int)) then
      some false
    else
      chk (nI (v4 + 1)) <|
      back (v4 + 1)
  else
    k1 ()
def agraffebase_IsName (n : Nat) (a0 : Str) : Option Bool :=
  chk (!(!((decide (a0.length = 0)) || (decide (12 < a0.length)))) || decide (0 < a0.length)) <|
  (gcall (!((decide (a0.length = 0)) || (decide (12 < a0.length)))) (agraffebase_isLetter n (((List.getD a0 0 0).toNat : Nat) : Int))).bind fun y1 =>
  bif ((decide (a0.length = 0)) || (decide (12 < a0.length))) || (!(((decide ((97 : Int) ≤ (((List.getD a0 0 0).toNat : Nat) : Int))) && (decide ((((List.getD a0 0 0).toNat : Nat) : Int) ≤ (122 : Int)))) || ((decide ((65 : Int) ≤ (((List.getD a0 0 0).toNat : Nat) : Int))) && (decide ((((List.getD a0 0 0).toNat : Nat) : Int) ≤ (90 : Int)))))) then
    some false
  else
    withK (fun (_ : Unit) =>
        some true) fun k1 =>
    loopN (agraffebase_IsName_L1 n a0 k1) n 0
def agraffebase_HasText_L1 (a0 : List Str) (a1 : Str) (k1 : (Unit → Option Bool)) (back : Nat → Option Bool) : Nat → Option Bool
  | v1 =>
  bif decide (v1 < a0.length) then
    bif ((ix a0 v1) == a1) then
      some true
    else
      chk (nI (v1 + 1)) <|
      back (v1 + 1)
  else
    k1 ()
def agraffebase_HasText (n : Nat) (a0 : List Str) (a1 : Str) : Option Bool :=
  withK (fun (_ : Unit) =>
      some false) fun k1 =>
  loopN (agraffebase_HasText_L1 a0 a1 k1) n 0
def agrafferef09_names_L1 (n : Nat) (a0 : List Str) (k1 : (Unit → Option Int)) (back : Nat → Option Int) : Nat → Option Int
  | v3 =>
  bif decide (v3 < a0.length) then
    (agraffebase_IsName n (ix a0 v3)).bind fun y4 =>
    bif !y4 then
      some 4
    else
      chk (decide (v3 ≤ a0.length)) <|
      (agraffebase_HasText n (List.take v3 a0) (ix a0 v3)).bind fun y5 =>
      bif y5 then
        some 5
      else
        chk (nI (v3 + 1)) <|
        back (v3 + 1)
  else
    k1 ()
def agrafferef09_names (n : Nat) (a0 : List Str) (a1 : Int) : Option Int :=
  bif decide (a1 < ((a0.length : Nat) : Int)) then
    some 8
  else
    withK (fun (_ : Unit) =>
        some 0) fun k1 =>
    loopN (agrafferef09_names_L1 n a0 k1) n 0
def agrafferef09_place_L1 (a0 : Diary) (a1 : Str) (k1 : (Unit → Option Int)) (back : Nat → Option Int) : Nat → Option Int
  | v1 =>
  bif decide (v1 < a0.Places.length) then
    bif ((ix a0.Places v1) == a1) then
      some ((v1 : Nat) : Int)
    else
      chk (nI (v1 + 1)) <|
      back (v1 + 1)
  else
    k1 ()
def agrafferef09_place (n : Nat) (a0 : Diary) (a1 : Str) : Option Int :=
  withK (fun (_ : Unit) =>
      some (-1)) fun k1 =>
  loopN (agrafferef09_place_L1 a0 a1 k1) n 0
def agraffebase_Within (n : Nat) (a0 : Int) (a1 : Int) (a2 : Int) : Option Unit :=
  some ()
def agrafferef09_IsWidth (n : Nat) (a0 : Int) : Option Unit :=
  (agraffebase_Within n a0 1 10000).bind fun y1 =>
  some ()
def agrafferef09_GrandAt_L1 (a0 : Diary) (a1 : Str) (k1 : (Unit → Option Int)) (back : Nat → Option Int) : Nat → Option Int
  | v1 =>
  bif decide (v1 < a0.Grands.length) then
    bif (((ix a0.Grands v1).Name) == a1) then
      some ((v1 : Nat) : Int)
    else
      chk (nI (v1 + 1)) <|
      back (v1 + 1)
  else
    k1 ()
def agrafferef09_GrandAt (n : Nat) (a0 : Diary) (a1 : Str) : Option Int :=
  withK (fun (_ : Unit) =>
      some (-1)) fun k1 =>
  loopN (agrafferef09_GrandAt_L1 a0 a1 k1) n 0
def agrafferef09_CheckDiary_L2 (n : Nat) (a0 : Diary) (k2 : (Unit → Option Int)) (back : Nat → Option Int) : Nat → Option Int
  | v15 =>
  bif decide (v15 < a0.Grands.length) then
    (agraffebase_IsName n ((ix a0.Grands v15).Name)).bind fun y16 =>
    bif !y16 then
      some 4
    else
      (agrafferef09_GrandAt n a0 ((ix a0.Grands v15).Name)).bind fun y17 =>
      bif decide (y17 < ((v15 : Nat) : Int)) then
        some 5
      else
        (agrafferef09_place n a0 ((ix a0.Grands v15).Place)).bind fun y18 =>
        bif decide (y18 < (0 : Int)) then
          some 6
        else
          (agrafferef09_IsWidth n ((ix a0.Grands v15).Width)).bind fun y19 =>
          bif !((decide (1 ≤ ((ix a0.Grands v15).Width))) && (decide (((ix a0.Grands v15).Width) ≤ 10000))) then
            some 2
          else
            chk (nI (v15 + 1)) <|
            back (v15 + 1)
  else
    k2 ()
def agrafferef09_CheckDiary_L1 (n : Nat) (a0 : Diary) (k1 : (Unit → Option Int)) (back : Nat → Option Int) : Nat → Option Int
  | v6 =>
  bif decide (v6 < a0.Roads.length) then
    (agrafferef09_place n a0 ((ix a0.Roads v6).A)).bind fun y7 =>
    (gcall (!(decide (y7 < (0 : Int)))) (agrafferef09_place n a0 ((ix a0.Roads v6).B))).bind fun y8 =>
    bif (decide (y7 < (0 : Int))) || (decide (y8 < (0 : Int))) then
      some 6
    else
      bif (((ix a0.Roads v6).A) == ((ix a0.Roads v6).B)) then
        some 3
      else
        (agraffebase_Within n ((ix a0.Roads v6).Minutes) 1 10000).bind fun y9 =>
        (gcall (!(!((decide (1 ≤ ((ix a0.Roads v6).Minutes))) && (decide (((ix a0.Roads v6).Minutes) ≤ 10000))))) (agrafferef09_IsWidth n ((ix a0.Roads v6).Width))).bind fun y10 =>
        bif (!((decide (1 ≤ ((ix a0.Roads v6).Minutes))) && (decide (((ix a0.Roads v6).Minutes) ≤ 10000)))) || (!((decide (1 ≤ ((ix a0.Roads v6).Width))) && (decide (((ix a0.Roads v6).Width) ≤ 10000)))) then
          some 2
        else
          chk (nI (v6 + 1)) <|
          back (v6 + 1)
  else
    k1 ()
def agrafferef09_CheckDiary (n : Nat) (a0 : Diary) : Option Int :=
  (agrafferef09_names n a0.Places 20).bind fun y1 =>
  bif (y1 != (0 : Int)) then
    some y1
  else
    bif decide (60 < a0.Roads.length) then
      some 8
    else
      withK (fun (_ : Unit) =>
          bif decide (12 < a0.Grands.length) then
            some 8
          else
            withK (fun (_ : Unit) =>
                (agrafferef09_names n a0.Technicians 12).bind fun y20 =>
                bif (y20 != (0 : Int)) then
                  some y20
                else
                  (agraffebase_Within n a0.Change 0 1000).bind fun y21 =>
                  (gcall (!(!((decide (0 ≤ a0.Change)) && (decide (a0.Change ≤ 1000))))) (agraffebase_Within n a0.Lasts 0 100000)).bind fun y22 =>
                  bif (!((decide (0 ≤ a0.Change)) && (decide (a0.Change ≤ 1000)))) || (!((decide (0 ≤ a0.Lasts)) && (decide (a0.Lasts ≤ 100000)))) then
                    some 2
                  else
                    some 0) fun k2 =>
            loopN (agrafferef09_CheckDiary_L2 n a0 k2) n 0) fun k1 =>
      loopN (agrafferef09_CheckDiary_L1 n a0 k1) n 0
def agraffebase_CopyTexts (n : Nat) (a0 : List Str) : Option Unit :=
  chk (room 16 a0.length) <|
  some ()
def agraffelaw09_town (n : Nat) (a0 : Diary) : Option Unit :=
  (agraffebase_CopyTexts n a0.Places).bind fun y1 =>
  (agraffebase_CopyTexts n a0.Technicians).bind fun y2 =>
  chk (room 48 a0.Roads.length) <|
  chk (room 40 a0.Grands.length) <|
  some ()
def agrafferef09_CheckPlace (n : Nat) (a0 : Diary) (a1 : Str) : Option Int :=
  (agrafferef09_place n a0 a1).bind fun y1 =>
  bif decide (y1 < (0 : Int)) then
    some 6
  else
    some 0
def agrafferef09_CheckEnds_L1 (n : Nat) (a0 : Diary) (a1 : List Str) (k1 : (Unit → Option Int)) (back : Nat → Option Int) : Nat → Option Int
  | v2 =>
  bif decide (v2 < a1.length) then
    (agrafferef09_CheckPlace n a0 (ix a1 v2)).bind fun y3 =>
    bif (y3 != (0 : Int)) then
      some y3
    else
      chk (nI (v2 + 1)) <|
      back (v2 + 1)
  else
    k1 ()
def agrafferef09_CheckEnds (n : Nat) (a0 : Diary) (a1 : List Str) (a2 : Int) : Option Int :=
  withK (fun (_ : Unit) =>
      (agrafferef09_IsWidth n a2).bind fun y4 =>
      bif !((decide (1 ≤ a2)) && (decide (a2 ≤ 10000))) then
        some 2
      else
        some 0) fun k1 =>
  loopN (agrafferef09_CheckEnds_L1 n a0 a1 k1) n 0
def diary_Route_f1 (n : Nat) (a0 : Str) (a1 : List Str) (a2 : List Str) (a3 : List Road) (a4 : List Grand) (a5 : Int) (a6 : Int) (a7 : List (Int × List (Arr2_Str × Int))) (a8 : Str) (a9 : Int) (a10 : Str) (a11 : Str) (a12 : Int) : Option (Bool × (List (Int × List (Arr2_Str × Int)))) :=
  (diary_plan_joined n a1 a2 a3 a4 a5 a6 a7 a8 a0 a9).bind fun y1 =>
  (diary_plan_distance n a1 a2 a3 a4 a5 a6 a7 a0 a11 a9).bind fun y2 =>
  chk (!(y1.2 && y2.2.1) || inI (y1.1 + y2.1)) <|
  some ((y1.2 && y2.2.1) && ((y1.1 + y2.1) == a12), y2.2.2)
def slices_IndexFunc_string_3_L1 (n : Nat) (a0 : List Str) (a1 : List Str) (a2 : List Str) (a3 : List Road) (a4 : List Grand) (a5 : Int) (a6 : Int) (a8 : Str) (a9 : Int) (a10 : Str) (a11 : Str) (a12 : Int) (k1 : ((List (Int × List (Arr2_Str × Int))) → Option ((List (Int × List (Arr2_Str × Int))) × Int))) (back : Nat × (List (Int × List (Arr2_Str × Int))) → Option ((List (Int × List (Arr2_Str × Int))) × Int)) : Nat × (List (Int × List (Arr2_Str × Int))) → Option ((List (Int × List (Arr2_Str × Int))) × Int)
  | (v2, v3) =>
  bif decide (v2 < a0.length) then
    (diary_Route_f1 n (ix a0 v2) a1 a2 a3 a4 a5 a6 v3 a8 a9 a10 a11 a12).bind fun y4 =>
    bif y4.1 then
      some (y4.2, ((v2 : Nat) : Int))
    else
      chk (nI (v2 + 1)) <|
      back (v2 + 1, y4.2)
  else
    k1 v3
def slices_IndexFunc_string_3 (n : Nat) (a0 : List Str) (a1 : List Str) (a2 : List Str) (a3 : List Road) (a4 : List Grand) (a5 : Int) (a6 : Int) (a7 : List (Int × List (Arr2_Str × Int))) (a8 : Str) (a9 : Int) (a10 : Str) (a11 : Str) (a12 : Int) : Option ((List (Int × List (Arr2_Str × Int))) × Int) :=
  withK (fun (v5 : (List (Int × List (Arr2_Str × Int)))) =>
      some (v5, (-1))) fun k1 =>
  loopN (slices_IndexFunc_string_3_L1 n a0 a1 a2 a3 a4 a5 a6 a8 a9 a10 a11 a12 k1) n (0, a7)
def diary_Route_L1 (n : Nat) (a0 : Diary) (a1 : Arr2_Str) (a2 : Int) (k3 : ((List Str) → Option (Int × (List Str) × Int))) (back : Str × Int × (List Str) × (List (Int × List (Arr2_Str × Int))) → Option (Int × (List Str) × Int)) : Str × Int × (List Str) × (List (Int × List (Arr2_Str × Int))) → Option (Int × (List Str) × Int)
  | (v11, v12, v13, v14) =>
  bif !(v11 == a1.a1) then
    (slices_IndexFunc_string_3 n a0.Places a0.Places a0.Technicians a0.Roads a0.Grands a0.Change a0.Lasts v14 v11 a2 a1.a0 a1.a1 v12).bind fun y15 =>
    chk (inB y15.2 a0.Places.length) <|
    chk (decide (y15.2.toNat < a0.Places.length)) <|
    (diary_plan_joined n a0.Places a0.Technicians a0.Roads a0.Grands a0.Change a0.Lasts y15.1 v11 (ix a0.Places y15.2.toNat) a2).bind fun y16 =>
    chk (inI (v12 - y16.1)) <|
    chk (room 16 (v13 ++ ([(ix a0.Places y15.2.toNat)] : List Str)).length) <|
    back ((ix a0.Places y15.2.toNat), v12 - y16.1, (v13 ++ ([(ix a0.Places y15.2.toNat)] : List Str)), y15.1)
  else
    k3 v13
def diary_Route (n : Nat) (a0 : Diary) (a1 : Arr2_Str) (a2 : Int) : Option (Int × (List Str) × Int) :=
  withK (fun (v4 : Int) =>
      bif (v4 != (0 : Int)) then
        some (v4, ([] : List Str), 0)
      else
        none) fun k1 =>
  withK (fun (_ : Unit) =>
      (diary_plan_isPlace_2 n a0.Places a0.Technicians a0.Roads a0.Grands a0.Change a0.Lasts ([] : List (Int × List (Arr2_Str × Int))) a1.a0).bind fun y5 =>
      (gcall (!(!y5)) (diary_plan_isPlace_2 n a0.Places a0.Technicians a0.Roads a0.Grands a0.Change a0.Lasts ([] : List (Int × List (Arr2_Str × Int))) a1.a1)).bind fun y6 =>
      bif (!y5) || (!y6) then
        some (6, ([] : List Str), 0)
      else
        (diary_isWidth n a2).bind fun y7 =>
        bif !((decide (1 ≤ a2)) && (decide (a2 ≤ 10000))) then
          some (2, ([] : List Str), 0)
        else
          (diary_plan_distance n a0.Places a0.Technicians a0.Roads a0.Grands a0.Change a0.Lasts ([] : List (Int × List (Arr2_Str × Int))) a1.a0 a1.a1 a2).bind fun y8 =>
          bif !y8.2.1 then
            some (12, ([] : List Str), 0)
          else
            withK (fun (v17 : (List Str)) =>
                some (0, v17, y8.1)) fun k3 =>
            loopN (diary_Route_L1 n a0 a1 a2 k3) n (a1.a0, y8.1, ([a1.a0] : List Str), y8.2.2)) fun k2 =>
  (diary_open n a0).bind fun y1 =>
  match y1 with
  | .inl y1 =>
    k1 y1
  | .inr y1 =>
    k2 ()
def agraffelaw09_DiaryDistances (n : Nat) (a0 : Diary) (a1 : Arr3_Str) (a2 : Int) : Option Bool :=
  (agraffelaw09_awake n).bind fun y1 =>
  bif !y1 then
    some false
  else
    (agraffelaw09_Light n a0).bind fun y2 =>
    (gcall (!(!y2)) (agraffelaw09_short n ([a1.a0, a1.a1, a1.a2] : List Str) 3 100)).bind fun y3 =>
    (gcall (!((!y2) || (!y3))) (agrafferef09_CheckDiary n a0)).bind fun y4 =>
    (gcall (!(((!y2) || (!y3)) || (y4 != (0 : Int)))) (agrafferef09_CheckEnds n a0 ([a1.a0, a1.a1, a1.a2] : List Str) a2)).bind fun y5 =>
    bif (((!y2) || (!y3)) || (y4 != (0 : Int))) || (y5 != (0 : Int)) then
      some true
    else
      withK (fun (v13 : Int) =>
          withK (fun (v21 : Int) =>
              withK (fun (v29 : Int) =>
                  chk (!((!((decide (v13 < (0 : Int))) || (decide (v21 < (0 : Int))))) && (decide ((0 : Int) ≤ v29))) || inI (v13 + v21)) <|
                  some (((decide (v13 < (0 : Int))) || (decide (v21 < (0 : Int)))) || ((decide ((0 : Int) ≤ v29)) && (decide (v29 ≤ (v13 + v21)))))) fun k6 =>
              (agraffelaw09_town n a0).bind fun y22 =>
              (diary_Route n a0 (Arr2_Str.mk a1.a2 a1.a0) a2).bind fun y23 =>
              (agraffelaw09_town n a0).bind fun y24 =>
              (diary_Route n a0 (Arr2_Str.mk a1.a0 a1.a2) a2).bind fun y25 =>
              bif ((y23.1 != y25.1) || (y23.2.2 != y25.2.2)) || ((y23.1 != (0 : Int)) && (y23.1 != (12 : Int))) then
                some false
              else
                withK (fun (v26 : Int) =>
                    bif decide ((1 : Int) < a2) then
                      (agraffelaw09_town n a0).bind fun y27 =>
                      chk (inI (a2 - 1)) <|
                      (diary_Route n a0 (Arr2_Str.mk a1.a2 a1.a0) (a2 - 1)).bind fun y28 =>
                      bif (decide ((0 : Int) ≤ v26)) && ((y28.1 != (0 : Int)) || (decide (v26 < y28.2.2))) then
                        some false
                      else
                        k6 v26
                    else
                      k6 v26) fun k5 =>
                bif (y23.1 == (12 : Int)) then
                  k5 (-1)
                else
                  k5 y23.2.2) fun k4 =>
          (agraffelaw09_town n a0).bind fun y14 =>
          (diary_Route n a0 (Arr2_Str.mk a1.a1 a1.a2) a2).bind fun y15 =>
          (agraffelaw09_town n a0).bind fun y16 =>
          (diary_Route n a0 (Arr2_Str.mk a1.a2 a1.a1) a2).bind fun y17 =>
          bif ((y15.1 != y17.1) || (y15.2.2 != y17.2.2)) || ((y15.1 != (0 : Int)) && (y15.1 != (12 : Int))) then
            some false
          else
            withK (fun (v18 : Int) =>
                bif decide ((1 : Int) < a2) then
                  (agraffelaw09_town n a0).bind fun y19 =>
                  chk (inI (a2 - 1)) <|
                  (diary_Route n a0 (Arr2_Str.mk a1.a1 a1.a2) (a2 - 1)).bind fun y20 =>
                  bif (decide ((0 : Int) ≤ v18)) && ((y20.1 != (0 : Int)) || (decide (v18 < y20.2.2))) then
                    some false
                  else
                    k4 v18
                else
                  k4 v18) fun k3 =>
            bif (y15.1 == (12 : Int)) then
              k3 (-1)
            else
              k3 y15.2.2) fun k2 =>
      (agraffelaw09_town n a0).bind fun y6 =>
      (diary_Route n a0 (Arr2_Str.mk a1.a0 a1.a1) a2).bind fun y7 =>
      (agraffelaw09_town n a0).bind fun y8 =>
      (diary_Route n a0 (Arr2_Str.mk a1.a1 a1.a0) a2).bind fun y9 =>
      bif ((y7.1 != y9.1) || (y7.2.2 != y9.2.2)) || ((y7.1 != (0 : Int)) && (y7.1 != (12 : Int))) then
        some false
      else
        withK (fun (v10 : Int) =>
            bif decide ((1 : Int) < a2) then
              (agraffelaw09_town n a0).bind fun y11 =>
              chk (inI (a2 - 1)) <|
              (diary_Route n a0 (Arr2_Str.mk a1.a0 a1.a1) (a2 - 1)).bind fun y12 =>
              bif (decide ((0 : Int) ≤ v10)) && ((y12.1 != (0 : Int)) || (decide (v10 < y12.2.2))) then
                some false
              else
                k2 v10
            else
              k2 v10) fun k1 =>
        bif (y7.1 == (12 : Int)) then
          k1 (-1)
        else
          k1 y7.2.2
end
section
set_option maxRecDepth 4000
open Go
theorem loopN_s {α β : Type} (F : (α → Option β) → α → Option β) (n : Nat) (t : α) : loopN F (n + 1) t = F (loopN F n) t := rfl
@[simp] theorem chk_t {α : Type} (k : Option α) : chk true k = k := rfl
theorem chk_of {α : Type} {b : Bool} {k : Option α} (h : b = true) : chk b k = k := by subst h; rfl
@[simp] theorem withK_eq {α β : Type} (j : α → Option β) (f : (α → Option β) → Option β) : withK j f = f j := rfl
@[simp] theorem gcall_some_ {α : Type} [Inhabited α] (g : Bool) (x : α) : (gcall g (some x)) = some (bif g then x else default) := by cases g <;> rfl
theorem nI_of {n : Nat} (h : n ≤ 9223372036854775807) : nI n = true := by simp [nI, h]
theorem inI_of {n : Int} (h : -9223372036854775808 ≤ n) (h2 : n ≤ 9223372036854775807) : inI n = true := by simp [inI, h, h2]
theorem room_of {b n : Nat} (h : n * b ≤ 140737488355328) (h2 : n ≤ 9223372036854775807) : room b n = true := by simp [room, h, h2]
theorem inB_of {q : Int} {n : Nat} (h : 0 ≤ q) (h2 : q.toNat < n) : inB q n = true := by simp [inB, h, h2]
theorem drop_ix {α : Type} [Inhabited α] {l : List α} {v : Nat} (h : v < l.length) : l.drop v = ix l v :: l.drop (v + 1) := by
  rw [ix_eq h]; exact List.drop_eq_getElem_cons h
theorem drop_nil {α : Type} {l : List α} {v : Nat} (h : ¬ v < l.length) : l.drop v = [] := List.drop_eq_nil_of_le (by omega)
def isL (c : UInt8) : Bool := (decide ((97 : Int) ≤ ((c.toNat : Nat) : Int)) && decide (((c.toNat : Nat) : Int) ≤ (122 : Int))) || (decide ((65 : Int) ≤ ((c.toNat : Nat) : Int)) && decide (((c.toNat : Nat) : Int) ≤ (90 : Int)))
def isD (c : UInt8) : Bool := decide ((48 : Int) ≤ ((c.toNat : Nat) : Int)) && decide (((c.toNat : Nat) : Int) ≤ (57 : Int))
def okC (c : UInt8) : Bool := isL c || isD c || (((c.toNat : Nat) : Int) == (45 : Int))
def nameB (s : Str) : Bool := match s with
  | [] => false
  | c :: r => isL c && r.all okC && decide (r.length < 12)
end
section
set_option maxRecDepth 4000
open Go
theorem bne_t {x : Int} (h : ¬ x = 0) : (x != 0) = true := by simp [bne, h]
def firstE (E : Nat → Int) : Nat → Nat → Int
  | _, 0 => 0
  | v, m + 1 => bif E v != 0 then E v else firstE E (v + 1) m
theorem firstE_zero {E : Nat → Int} : ∀ {m v : Nat}, firstE E v m = 0 → ∀ j, v ≤ j → j < v + m → E j = 0
  | 0, v, _, j, h1, h2 => by omega
  | m + 1, v, h, j, h1, h2 => by
    unfold firstE at h
    by_cases e : E v = 0
    · simp [e] at h
      by_cases hj : j = v
      · rw [hj]; exact e
      · exact firstE_zero h j (by omega) (by omega)
    · rw [bne_t e, cond_true] at h; exact absurd h e
theorem loop_first {σ R : Type} {F : (σ → Option R) → σ → Option R} {st : Nat → σ} {E : Nat → Int} {err : Int → Option R} {k : Option R} {len : Nat}
    (h1 : ∀ back v, v < len → (∀ j, j < v → E j = 0) → F back (st v) = bif E v != 0 then err (E v) else back (st (v + 1)))
    (h2 : ∀ back, (∀ j, j < len → E j = 0) → F back (st len) = k) : ∀ n v, len - v < n → v ≤ len → (∀ j, j < v → E j = 0) → loopN F n (st v) = bif firstE E v (len - v) != 0 then err (firstE E v (len - v)) else k := by
  intro n
  induction n with
  | zero => intro v h; omega
  | succ n ih =>
    intro v hn hv hz
    rw [loopN_s]
    by_cases h : v < len
    · rw [h1 _ v h hz, show len - v = (len - (v + 1)) + 1 by omega]
      unfold firstE
      by_cases e : E v = 0
      · simp only [e, bne_self_eq_false, cond_false]
        exact ih (v + 1) (by omega) (by omega) fun j hj => by
          by_cases hjv : j = v
          · rw [hjv]; exact e
          · exact hz j (by omega)
      · rw [bne_t e, cond_true, cond_true, bne_t e, cond_true]
    · have : v = len := by omega
      subst this
      rw [h2 _ hz, Nat.sub_self]
      simp [firstE]
theorem loop_through {σ R : Type} {F : (σ → Option R) → σ → Option R} {st : Nat → σ} {k : Option R} {len : Nat} (h1 : ∀ back v, v < len → F back (st v) = back (st (v + 1))) (h2 : ∀ back, F back (st len) = k) : ∀ n, len < n → loopN F n (st 0) = k := by
  intro n hn
  have := loop_first (F := F) (st := st) (E := fun _ => 0) (err := fun _ => none) (k := k) (len := len) (fun back v hv _ => by simp [h1 back v hv]) (fun back _ => h2 back) n 0 (by omega) (by omega) (fun _ _ => rfl)
  rw [this, Nat.sub_zero]
  have : firstE (fun _ => (0 : Int)) 0 len = 0 := by
    have : ∀ m v, firstE (fun _ => (0 : Int)) v m = 0 := by
      intro m
      induction m with
      | zero => intro v; rfl
      | succ m ih => intro v; simp [firstE, ih]
    exact this _ _
  rw [this]; rfl
def findI {α : Type} (p : α → Bool) (l : List α) : Int := match l.findIdx? p with
  | some i => ((i : Nat) : Int)
  | none => -1
theorem findI_neg {α : Type} {p : α → Bool} {l : List α} (h : findI p l < 0) : findI p l = -1 ∧ ∀ x ∈ l, p x = false := by
  unfold findI at h ⊢
  split at h
  · omega
  · rename_i e
    rw [List.findIdx?_eq_none_iff] at e
    exact ⟨rfl, e⟩
theorem findI_pos {α : Type} [Inhabited α] {p : α → Bool} {l : List α} (h : ¬ findI p l < 0) : 0 ≤ findI p l ∧ (findI p l).toNat < l.length ∧ p (ix l (findI p l).toNat) = true ∧ ∀ j, j < (findI p l).toNat → p (ix l j) = false := by
  unfold findI at h ⊢
  split at h
  · rename_i i e
    rw [List.findIdx?_eq_some_iff_getElem] at e
    obtain ⟨hi, hp, hb⟩ := e
    refine ⟨by omega, by simpa using hi, ?_, fun j hj => ?_⟩
    · rw [ix_eq (by simpa using hi)]; simpa using hp
    · have hj : j < i := by simpa using hj
      rw [ix_eq (by omega)]
      simpa using hb j hj
  · omega
end
section
set_option maxRecDepth 4000
open Go
theorem loop_find' {α R : Type} [Inhabited α] {l : List α} {p : α → Bool} {F : (Nat → Option R) → Nat → Option R} {yes : Nat → Option R} {no : Option R}
    (h1 : ∀ back v, v < l.length → F back v = bif p (ix l v) then yes v else back (v + 1)) (h2 : ∀ back, F back l.length = no) :
    ∀ n v, v ≤ l.length → l.length - v < n → loopN F n v = match (l.drop v).findIdx? p with | some i => yes (v + i) | none => no := by
  intro n
  induction n with
  | zero => intro v _ h; omega
  | succ n ih =>
    intro v hv hn
    rw [loopN_s]
    by_cases h : v < l.length
    · rw [h1 _ v h, drop_ix h, List.findIdx?_cons]
      cases hp : p (ix l v) with
      | true => simp
      | false =>
        simp only [cond_false, Bool.false_eq_true, if_false]
        rw [ih (v + 1) (by omega) (by omega)]
        cases hh : (l.drop (v + 1)).findIdx? p with
        | none => simp
        | some i => simp [Nat.add_assoc, Nat.add_comm 1 i]
    · have : v = l.length := by omega
      subst this
      rw [h2, drop_nil h]
      simp
theorem any_findIdx {α : Type} (p : α → Bool) (l : List α) : (l.findIdx? p).isSome = l.any p := by
  induction l with
  | nil => rfl
  | cons x l ih =>
    rw [List.findIdx?_cons, List.any_cons]
    cases p x <;> simp [ih]
theorem loop_any' {α R : Type} [Inhabited α] {l : List α} {p : α → Bool} {F : (Nat → Option R) → Nat → Option R} {bad no : Option R}
    (h1 : ∀ back v, v < l.length → F back v = bif p (ix l v) then bad else back (v + 1)) (h2 : ∀ back, F back l.length = no) (n : Nat) (hn : l.length < n) : loopN F n 0 = bif l.any p then bad else no := by
  rw [loop_find' (yes := fun _ => bad) h1 h2 n 0 (by omega) (by omega), List.drop_zero, ← any_findIdx]
  cases l.findIdx? p <;> rfl
theorem loop_findI {α : Type} [Inhabited α] {l : List α} {p : α → Bool} {F : (Nat → Option Int) → Nat → Option Int}
    (h1 : ∀ back v, v < l.length → F back v = bif p (ix l v) then some ((v : Nat) : Int) else back (v + 1)) (h2 : ∀ back, F back l.length = some (-1)) (n : Nat) (hn : l.length < n) : loopN F n 0 = some (findI p l) := by
  rw [loop_find' h1 h2 n 0 (by omega) (by omega), List.drop_zero, findI]
  cases l.findIdx? p <;> simp
theorem findI_any {α : Type} (p : α → Bool) (l : List α) : decide ((0 : Int) ≤ findI p l) = l.any p := by
  rw [← any_findIdx, findI]
  cases l.findIdx? p <;> simp
theorem findI_none {α : Type} (p : α → Bool) (l : List α) : decide (findI p l < (0 : Int)) = !l.any p := by
  rw [← any_findIdx, findI]
  cases l.findIdx? p
  · simp
  · simp only [Option.isSome_some, Bool.not_true, decide_eq_false_iff_not]; omega
theorem findI_take {α : Type} [Inhabited α] {p : α → Bool} {l : List α} {i : Nat} : (l.take i).any p = (decide (findI p l < (i : Int)) && l.any p) := by
  rw [← any_findIdx, ← any_findIdx, findI]
  cases h : l.findIdx? p with
  | none =>
    rw [List.findIdx?_eq_none_iff] at h
    have : (l.take i).findIdx? p = none := by
      rw [List.findIdx?_eq_none_iff]
      exact fun x hx => h x (List.mem_of_mem_take hx)
    simp [this]
  | some j =>
    rw [List.findIdx?_eq_some_iff_getElem] at h
    obtain ⟨hj, hp, hb⟩ := h
    simp only [Option.isSome_some, Bool.and_true]
    rw [any_findIdx, Bool.eq_iff_iff, List.any_eq_true, decide_eq_true_eq]
    constructor
    · rintro ⟨x, hx, hpx⟩
      obtain ⟨k, hk, rfl⟩ := List.mem_iff_getElem.1 hx
      simp only [List.length_take] at hk
      rw [List.getElem_take] at hpx
      by_cases hkj : k < j
      · have := hb k hkj
        rw [hpx] at this; simp at this
      · omega
    · intro hji
      have hji : j < i := by omega
      exact ⟨l[j], List.mem_iff_getElem.2 ⟨j, by simp; omega, by simp⟩, hp⟩
theorem loop_fold' {σ R : Type} {F : (Nat × σ → Option R) → Nat × σ → Option R} {st : Nat → σ} {k : Option R} {len : Nat} (h1 : ∀ back v, v < len → F back (v, st v) = back (v + 1, st (v + 1))) (h2 : ∀ back, F back (len, st len) = k) (n : Nat) (hn : len < n) {s0 : σ} (h0 : st 0 = s0) : loopN F n (0, s0) = k := by
  subst h0
  exact loop_through (st := fun v => (v, st v)) h1 h2 n hn
end
section
set_option maxRecDepth 4000
open Go
theorem getD_ix (s : Str) (v : Nat) : List.getD s v 0 = ix s v := by
  simp only [ix, List.getD]; rfl
theorem isName_loop (s : Str) (k : Unit → Option Bool) : ∀ (n v : Nat), s.length - v < n → 0 < v → s.length < 9223372036854775807 → loopN (diary_isName_L1 s k) n v = bif (s.drop v).all okC then k () else some false := by
  intro n
  induction n with
  | zero => intro v h; omega
  | succ n ih =>
    intro v hn hv hl
    rw [loopN_s, diary_isName_L1]
    by_cases h : v < s.length
    · rw [drop_ix h]
      have h2 : ¬ v = 0 := by omega
      simp only [h, getD_ix, decide_true, cond_true, h2, decide_false, Bool.false_or, List.all_cons, nI_of (by omega : v + 1 ≤ 9223372036854775807), chk_t]
      rw [ih (v + 1) (by omega) (by omega) hl]
      have key : (!((decide ((97 : Int) ≤ (((ix s v).toNat : Nat) : Int)) && decide ((((ix s v).toNat : Nat) : Int) ≤ (122 : Int))) || (decide ((65 : Int) ≤ (((ix s v).toNat : Nat) : Int)) && decide ((((ix s v).toNat : Nat) : Int) ≤ (90 : Int)))) && (((((ix s v).toNat : Nat) : Int) != (45 : Int)) && (decide ((((ix s v).toNat : Nat) : Int) < (48 : Int)) || decide ((57 : Int) < (((ix s v).toNat : Nat) : Int))))) = !okC (ix s v) := by
        have hd : (decide ((((ix s v).toNat : Nat) : Int) < (48 : Int)) || decide ((57 : Int) < (((ix s v).toNat : Nat) : Int))) = !isD (ix s v) := by
          simp only [isD, Bool.not_and, ← decide_not, Int.not_le]
        rw [hd]
        show (!isL (ix s v) && _) = _
        simp only [okC]
        cases isL (ix s v) <;> cases isD (ix s v) <;> cases hh : (((((ix s v).toNat : Nat) : Int)) == (45 : Int)) <;> simp [bne, hh]
      rw [key]
      cases okC (ix s v) <;> simp
    · rw [drop_nil h]
      simp [h]
theorem isName_eq (s : Str) (n : Nat) (hn : s.length + 1 < n) (hl : s.length < 9223372036854775807) : diary_isName n s = some (nameB s) := by
  obtain ⟨n, rfl⟩ : ∃ m, n = m + 1 := ⟨n - 1, by omega⟩
  rw [diary_isName, withK_eq, loopN_s, diary_isName_L1]
  cases s with
  | nil => simp [nameB]
  | cons c r =>
    have h0 : 0 < (c :: r).length := by simp
    have hix : ix (c :: r) 0 = c := rfl
    simp only [h0, getD_ix, decide_true, cond_true, hix, Bool.true_or, Bool.and_true, nI_of (by simp : 0 + 1 ≤ 9223372036854775807), chk_t]
    rw [isName_loop _ _ n 1 (by simp at hn ⊢; omega) (by omega) hl]
    show (bif !isL c then some false else _) = _
    simp only [nameB, List.drop_succ_cons, List.drop_zero]
    cases hL : isL c <;> cases hA : r.all okC <;> simp
    omega
theorem IsName_loop (s : Str) (n0 : Nat) (k : Unit → Option Bool) : ∀ (n v : Nat), s.length - v < n → s.length < 9223372036854775807 → loopN (agraffebase_IsName_L1 n0 s k) n v = bif (s.drop v).all okC then k () else some false := by
  intro n
  induction n with
  | zero => intro v h; omega
  | succ n ih =>
    intro v hn hl
    rw [loopN_s, agraffebase_IsName_L1]
    by_cases h : v < s.length
    · rw [drop_ix h]
      simp only [h, decide_true, cond_true, agraffebase_isLetter, agraffebase_isDigit, gcall_some_, Option.bind_some, getD_ix, List.all_cons, nI_of (by omega : v + 1 ≤ 9223372036854775807), chk_t]
      rw [ih (v + 1) (by omega) hl]
      show (bif ((!isL (ix s v)) && (!isD (ix s v))) && ((((ix s v).toNat : Nat) : Int) != (45 : Int)) then _ else _) = _
      simp only [okC]
      cases isL (ix s v) <;> cases isD (ix s v) <;> cases hh : (((((ix s v).toNat : Nat) : Int)) == (45 : Int)) <;> simp [bne, hh]
    · rw [drop_nil h]
      simp [h]
theorem IsName_eq (s : Str) (n : Nat) (hn : s.length + 1 < n) (hl : s.length < 9223372036854775807) : agraffebase_IsName n s = some (nameB s) := by
  rw [agraffebase_IsName]
  simp only [agraffebase_isLetter, gcall_some_, Option.bind_some, getD_ix, withK_eq]
  rw [IsName_loop _ _ _ _ _ (by omega) hl]
  cases s with
  | nil => simp [nameB]
  | cons c r =>
    have h0 : ¬ (c :: r).length = 0 := by simp
    have h1 : 0 < (c :: r).length := by simp
    have hix : ix (c :: r) 0 = c := rfl
    simp only [h0, h1, decide_true, decide_false, Bool.false_or, Bool.or_true, chk_t, hix, List.drop_zero]
    show (bif (decide (12 < (c :: r).length)) || (!isL c) then _ else _) = _
    simp only [nameB, List.all_cons, okC, List.length_cons]
    by_cases hlen : r.length < 12
    · have : ¬ 12 < r.length + 1 := by omega
      cases hL : isL c <;> cases hA : r.all okC <;> simp [this, hlen, hA]
    · have : 12 < r.length + 1 := by omega
      simp [this, hlen]
variable {n : Nat}
def isS (s : Str) (x : Str) : Bool := x == s
theorem HasText_eq (l : List Str) (s : Str) (hn : l.length < n) (hl : l.length < 9223372036854775807) : agraffebase_HasText n l s = some (l.any (isS s)) := by
  rw [agraffebase_HasText, withK_eq, loop_any' (p := isS s) (fun back v hv => ?_) (fun back => ?_) n hn]
  · cases l.any (isS s) <;> rfl
  · rw [agraffebase_HasText_L1]; simp only [hv, decide_true, cond_true, nI_of (by omega : v + 1 ≤ 9223372036854775807), chk_t]; rfl
  · rw [agraffebase_HasText_L1]; simp
theorem isS_comm (s x : Str) : (s == x) = isS s x := by
  unfold isS
  rw [Bool.eq_iff_iff, beq_iff_eq, beq_iff_eq]
  exact eq_comm
theorem Contains_eq (l : List Str) (s : Str) (hn : l.length < n) (hl : l.length < 9223372036854775807) : slices_Contains_string n l s = some (l.any (isS s)) := by
  rw [slices_Contains_string, slices_Index_string, withK_eq, loop_findI (p := isS s) (fun back v hv => ?_) (fun back => ?_) n hn]
  · simp only [Option.bind_some, findI_any]
  · rw [slices_Index_string_L1]; simp only [hv, decide_true, cond_true, nI_of (by omega : v + 1 ≤ 9223372036854775807), chk_t, isS_comm]
  · rw [slices_Index_string_L1]; simp
theorem Contains2_eq (l : List Str) (s : Str) (hn : l.length < n) (hl : l.length < 9223372036854775807) : slices_Contains_string_2 n l s = some (l.any (isS s)) := by
  rw [slices_Contains_string_2, slices_Index_string_2, withK_eq, loop_findI (p := isS s) (fun back v hv => ?_) (fun back => ?_) n hn]
  · simp only [Option.bind_some, findI_any]
  · rw [slices_Index_string_2_L1]; simp only [hv, decide_true, cond_true, nI_of (by omega : v + 1 ≤ 9223372036854775807), chk_t, isS_comm]
  · rw [slices_Index_string_2_L1]; simp
theorem bif_id {x : Int} : (bif x != 0 then some x else some 0) = some x := by
  by_cases h : x = 0
  · simp [h]
  · rw [bne_t h]; rfl
theorem loop_errs {F : (Nat → Option Int) → Nat → Option Int} {E : Nat → Int} {k : Int} {len : Nat}
    (h1 : ∀ back v, v < len → F back v = bif E v != 0 then some (E v) else back (v + 1)) (h2 : ∀ back, F back len = some k) (hn : len < n) :
    loopN F n 0 = some (bif firstE E 0 len != 0 then firstE E 0 len else k) := by
  rw [loop_first (st := fun v => v) (E := E) (err := some) (k := some k) (len := len) (fun back v hv _ => h1 back v hv) (fun back _ => h2 back) n 0 (by omega) (by omega) (fun j h => by omega), Nat.sub_zero]
  cases firstE E 0 len != 0 <;> rfl
theorem bif_int {x : Int} : (bif x != 0 then x else 0) = x := by
  by_cases h : x = 0
  · simp [h]
  · rw [bne_t h]; rfl
structure OkD (d : Diary) : Prop where
  places : d.Places.length ≤ 23
  techs : d.Technicians.length ≤ 15
  roads : d.Roads.length ≤ 63
  grands : d.Grands.length ≤ 15
  place : ∀ x ∈ d.Places, x.length ≤ 30
  tech : ∀ x ∈ d.Technicians, x.length ≤ 30
  roadA : ∀ x ∈ d.Roads, x.A.length ≤ 30
  roadB : ∀ x ∈ d.Roads, x.B.length ≤ 30
  grandN : ∀ x ∈ d.Grands, x.Name.length ≤ 30
  grandP : ∀ x ∈ d.Grands, x.Place.length ≤ 30
theorem short_eq (l : List Str) (a b : Int) (hn : l.length < n) (hl : l.length ≤ 9223372036854775807) (hb : 0 ≤ b) (hb2 : b ≤ 100) :
    agraffelaw09_short n l a b = some (!(l.any fun s => decide (30 < s.length)) && (decide (((l.length : Nat) : Int) ≤ a) || (decide (b < ((l.length : Nat) : Int)) && decide (((l.length : Nat) : Int) ≤ b + 3)))) := by
  rw [agraffelaw09_short, withK_eq, loop_any' (l := l) (p := fun s => decide (30 < s.length)) (bad := some false) (no := chk (!((!(decide (((l.length : Nat) : Int) ≤ a))) && (decide (b < ((l.length : Nat) : Int)))) || inI (b + 3)) (some ((decide (((l.length : Nat) : Int) ≤ a)) || ((decide (b < ((l.length : Nat) : Int))) && (decide (((l.length : Nat) : Int) ≤ (b + 3))))))) (fun back v hv => ?_) (fun back => ?_) n hn]
  · have hi : inI (b + 3) = true := inI_of (by omega) (by omega)
    simp only [hi, Bool.or_true, chk_t]
    cases l.any _ <;> rfl
  · rw [agraffelaw09_short_L1]; simp only [hv, decide_true, cond_true, nI_of (by omega : v + 1 ≤ 9223372036854775807), chk_t]
  · rw [agraffelaw09_short_L1]; simp
theorem Light_eq (d : Diary) (hn : 1000 < n) (hp : d.Places.length < n) (ht : d.Technicians.length < n) (hp2 : d.Places.length ≤ 9223372036854775807) (ht2 : d.Technicians.length ≤ 9223372036854775807) : ∃ b, agraffelaw09_Light n d = some b ∧ (b = true → OkD d) := by
  rw [agraffelaw09_Light, short_eq (n := n) d.Places 6 20 hp hp2 (by omega) (by omega), short_eq (n := n) d.Technicians 4 12 ht ht2 (by omega) (by omega)]
  simp only [Option.bind_some, gcall_some_]
  have anyf : ∀ {l : List Str}, (l.any fun s => decide (30 < s.length)) = false → ∀ s ∈ l, s.length ≤ 30 := fun h s hs => by
    rw [List.any_eq_false] at h
    have := h s hs
    simpa using this
  generalize hg : (_ || decide (15 < d.Grands.length)) = g
  cases g with
  | true => exact ⟨false, rfl, fun h => by cases h⟩
  | false =>
    simp only [cond_false, withK_eq]
    simp only [Bool.or_eq_false_iff, Bool.not_eq_false', Bool.and_eq_true, decide_eq_false_iff_not] at hg
    obtain ⟨⟨⟨⟨⟨hA, hB⟩, hR1⟩, hR2⟩, hG1⟩, hG2⟩ := hg
    rw [hA.1, hA.2] at hB
    simp only [Bool.and_true, Bool.not_true, Bool.not_false, cond_true, Bool.and_eq_true, Bool.not_eq_true', Bool.or_eq_true, decide_eq_true_eq] at hA hB
    have hR : d.Roads.length ≤ 63 := by omega
    have hG : d.Grands.length ≤ 15 := by omega
    rw [loop_any' (l := d.Roads) (p := fun x => decide (30 < x.A.length) || decide (30 < x.B.length)) (bad := some false) (no := loopN (agraffelaw09_Light_L2 d fun _ => some true) n 0) (fun back v hv => ?_) (fun back => ?_) n (by omega),
      loop_any' (l := d.Grands) (p := fun x => decide (30 < x.Name.length) || decide (30 < x.Place.length)) (bad := some false) (no := some true) (fun back v hv => ?_) (fun back => ?_) n (by omega)]
    · cases h1 : d.Roads.any fun x => decide (30 < x.A.length) || decide (30 < x.B.length) with
      | true => exact ⟨false, rfl, fun h => by cases h⟩
      | false =>
        cases h2 : d.Grands.any fun x => decide (30 < x.Name.length) || decide (30 < x.Place.length) with
        | true => exact ⟨false, rfl, fun h => by cases h⟩
        | false =>
          refine ⟨true, rfl, fun _ => ?_⟩
          rw [List.any_eq_false] at h1 h2
          refine ⟨by omega, by omega, hR, hG, anyf hA.1, anyf hB.1, fun x hx => ?_, fun x hx => ?_, fun x hx => ?_, fun x hx => ?_⟩
          · have := h1 x hx; simp at this; omega
          · have := h1 x hx; simp at this; omega
          · have := h2 x hx; simp at this; omega
          · have := h2 x hx; simp at this; omega
    · rw [agraffelaw09_Light_L2]; simp only [hv, decide_true, cond_true, nI_of (by omega : v + 1 ≤ 9223372036854775807), chk_t]
    · rw [agraffelaw09_Light_L2]; simp
    · rw [agraffelaw09_Light_L1]; simp only [hv, decide_true, cond_true, nI_of (by omega : v + 1 ≤ 9223372036854775807), chk_t]
    · rw [agraffelaw09_Light_L1]; simp
end
section
set_option maxRecDepth 4000
open Go
variable {n : Nat}
def namesE (l : List Str) (v : Nat) : Int := bif !nameB (ix l v) then 4 else bif (l.take v).any (isS (ix l v)) then 5 else 0
def namesD (l : List Str) (most : Int) : Int := bif decide (most < ((l.length : Nat) : Int)) then 8 else firstE (namesE l) 0 l.length
theorem checkName_eq {l : List Str} {s : Str} (hn : 1000 < n) (hs : s.length ≤ 30) (hl : l.length ≤ 900) : diary_checkName n s l = some (bif !nameB s then 4 else bif l.any (isS s) then 5 else 0) := by
  rw [diary_checkName, isName_eq s n (by omega) (by omega)]
  simp only [Option.bind_some, Contains_eq (n := n) l s (by omega) (by omega)]
  cases nameB s <;> cases l.any (isS s) <;> rfl
theorem checkNames_eq {l : List Str} (most : Int) (hn : 1000 < n) (hl : l.length ≤ 900) (hs : ∀ x ∈ l, x.length ≤ 30) : diary_checkNames n l most = some (namesD l most) := by
  rw [diary_checkNames, namesD]
  cases decide (most < ((l.length : Nat) : Int)) with
  | true => rfl
  | false =>
    simp only [cond_false, withK_eq]
    rw [loop_errs (E := namesE l) (k := 0) (fun back v hv => ?_) (fun back => ?_) (by omega : l.length < n), bif_int]
    · rw [diary_checkNames_L1]
      have hle : v ≤ l.length := by omega
      simp only [hv, hle, decide_true, cond_true, chk_t, checkName_eq (n := n) (l := l.take v) hn (hs _ (ix_mem hv)) (by simp; omega), Option.bind_some, nI_of (by omega : v + 1 ≤ 9223372036854775807), namesE]
    · rw [diary_checkNames_L1]; simp
theorem names_ref {l : List Str} (most : Int) (hn : 1000 < n) (hl : l.length ≤ 900) (hs : ∀ x ∈ l, x.length ≤ 30) : agrafferef09_names n l most = some (namesD l most) := by
  rw [agrafferef09_names, namesD]
  cases decide (most < ((l.length : Nat) : Int)) with
  | true => rfl
  | false =>
    simp only [cond_false, withK_eq]
    rw [loop_errs (E := namesE l) (k := 0) (fun back v hv => ?_) (fun back => ?_) (by omega : l.length < n), bif_int]
    · rw [agrafferef09_names_L1]
      have hle : v ≤ l.length := by omega
      have h1 := hs _ (ix_mem hv)
      simp only [hv, hle, decide_true, cond_true, chk_t, IsName_eq (ix l v) n (by omega) (by omega), Option.bind_some, HasText_eq (n := n) (l.take v) (ix l v) (by simp; omega) (by simp; omega), nI_of (by omega : v + 1 ≤ 9223372036854775807), namesE]
      cases nameB (ix l v) <;> cases (l.take v).any (isS (ix l v)) <;> rfl
    · rw [agrafferef09_names_L1]; simp
theorem namesD_nodup {l : List Str} {most : Int} (h : namesD l most = 0) : l.Nodup ∧ ((l.length : Nat) : Int) ≤ most ∧ ∀ s ∈ l, nameB s = true := by
  rw [namesD] at h
  cases hm : decide (most < ((l.length : Nat) : Int)) with
  | true => rw [hm] at h; simp at h
  | false =>
    rw [hm, cond_false] at h
    have hz := firstE_zero h
    refine ⟨?_, by simp at hm; omega, fun s hs => ?_⟩
    · rw [List.nodup_iff_pairwise_ne, List.pairwise_iff_getElem]
      intro i j hi hj hij he
      have := hz j (by omega) (by omega)
      rw [namesE, ix_eq hj] at this
      have ha : (l.take j).any (isS l[j]) = true := by
        rw [List.any_eq_true]
        refine ⟨l[i], List.mem_iff_getElem.2 ⟨i, by simp; omega, by simp⟩, ?_⟩
        rw [isS, he]; simp
      rw [ha] at this
      cases hh : nameB l[j] <;> rw [hh] at this <;> simp at this
    · obtain ⟨i, hi, rfl⟩ := List.mem_iff_getElem.1 hs
      have := hz i (by omega) (by omega)
      rw [namesE, ix_eq hi] at this
      cases hh : nameB l[i] with
      | true => rfl
      | false => rw [hh] at this; simp at this
theorem place_eq (d : Diary) (s : Str) (hn : d.Places.length < n) (hl : d.Places.length < 9223372036854775807) : agrafferef09_place n d s = some (findI (isS s) d.Places) := by
  rw [agrafferef09_place, withK_eq]
  refine loop_findI (fun back v hv => ?_) (fun back => ?_) n hn
  · rw [agrafferef09_place_L1]; simp only [hv, decide_true, cond_true, nI_of (by omega : v + 1 ≤ 9223372036854775807), chk_t]; rfl
  · rw [agrafferef09_place_L1]; simp
def isG (s : Str) (x : Grand) : Bool := x.Name == s
theorem GrandAt_eq (d : Diary) (s : Str) (hn : d.Grands.length < n) (hl : d.Grands.length < 9223372036854775807) : agrafferef09_GrandAt n d s = some (findI (isG s) d.Grands) := by
  rw [agrafferef09_GrandAt, withK_eq]
  refine loop_findI (fun back v hv => ?_) (fun back => ?_) n hn
  · rw [agrafferef09_GrandAt_L1]; simp only [hv, decide_true, cond_true, nI_of (by omega : v + 1 ≤ 9223372036854775807), chk_t]; rfl
  · rw [agrafferef09_GrandAt_L1]; simp
def isW (w : Int) : Bool := (decide (1 ≤ w)) && (decide (w ≤ 10000))
def roadE (d : Diary) (v : Nat) : Int :=
  bif (!d.Places.any (isS (ix d.Roads v).A)) || (!d.Places.any (isS (ix d.Roads v).B)) then 6 else
  bif (ix d.Roads v).A == (ix d.Roads v).B then 3 else
  bif (!isW (ix d.Roads v).Minutes) || (!isW (ix d.Roads v).Width) then 2 else 0
theorem roads_step (d : Diary) (hd : OkD d) (hn : 1000 < n) (v : Nat) (hv : v < d.Roads.length) (k : Unit → Option Int) (back : Nat → Option Int) :
    diary_checkRoads_L1 n d k back v = bif roadE d v != 0 then some (roadE d v) else back (v + 1) := by
  have hp := hd.places
  have hr := hd.roads
  rw [diary_checkRoads_L1]
  simp only [hv, decide_true, cond_true, Contains_eq (n := n) d.Places _ (by omega) (by omega), Option.bind_some, gcall_some_, diary_within, diary_isWidth, nI_of (by omega : v + 1 ≤ 9223372036854775807), chk_t, roadE, isW]
  cases d.Places.any (isS (ix d.Roads v).A) <;> cases d.Places.any (isS (ix d.Roads v).B) <;> cases (ix d.Roads v).A == (ix d.Roads v).B <;> cases decide (1 ≤ (ix d.Roads v).Minutes) && decide ((ix d.Roads v).Minutes ≤ 10000) <;> cases decide (1 ≤ (ix d.Roads v).Width) && decide ((ix d.Roads v).Width ≤ 10000) <;> rfl
theorem roads_refstep (d : Diary) (hd : OkD d) (hn : 1000 < n) (v : Nat) (hv : v < d.Roads.length) (k : Unit → Option Int) (back : Nat → Option Int) :
    agrafferef09_CheckDiary_L1 n d k back v = bif roadE d v != 0 then some (roadE d v) else back (v + 1) := by
  have hp := hd.places
  have hr := hd.roads
  rw [agrafferef09_CheckDiary_L1]
  simp only [hv, decide_true, cond_true, place_eq (n := n) d _ (by omega) (by omega), findI_none, Option.bind_some, gcall_some_, agraffebase_Within, agrafferef09_IsWidth, nI_of (by omega : v + 1 ≤ 9223372036854775807), chk_t, roadE, isW]
  have hdef : decide ((default : Int) < 0) = false := rfl
  cases d.Places.any (isS (ix d.Roads v).A) <;> simp only [Bool.not_true, Bool.not_false, cond_true, cond_false, findI_none, hdef, Bool.true_or, Bool.false_or] <;> cases d.Places.any (isS (ix d.Roads v).B) <;> cases (ix d.Roads v).A == (ix d.Roads v).B <;> cases decide (1 ≤ (ix d.Roads v).Minutes) && decide ((ix d.Roads v).Minutes ≤ 10000) <;> cases decide (1 ≤ (ix d.Roads v).Width) && decide ((ix d.Roads v).Width ≤ 10000) <;> rfl
def roadsD (d : Diary) : Int := bif decide (60 < d.Roads.length) then 8 else firstE (roadE d) 0 d.Roads.length
theorem checkRoads_eq (d : Diary) (hd : OkD d) (hn : 1000 < n) : diary_checkRoads n d = some (roadsD d) := by
  have hr := hd.roads
  rw [diary_checkRoads, roadsD]
  cases decide (60 < d.Roads.length) with
  | true => rfl
  | false =>
    simp only [cond_false, withK_eq]
    rw [loop_errs (E := roadE d) (k := 0) (fun back v hv => roads_step d hd hn v hv _ back) (fun back => by rw [diary_checkRoads_L1]; simp) (by omega : d.Roads.length < n), bif_int]
def grandE (d : Diary) (v : Nat) : Int :=
  bif !nameB (ix d.Grands v).Name then 4 else bif (d.Grands.take v).any (isG (ix d.Grands v).Name) then 5 else
  bif !d.Places.any (isS (ix d.Grands v).Place) then 6 else bif !isW (ix d.Grands v).Width then 2 else 0
def grandsD (d : Diary) : Int := bif decide (12 < d.Grands.length) then 8 else firstE (grandE d) 0 d.Grands.length
theorem checkName2_eq {l : List Str} {s : Str} (hn : 1000 < n) (hs : s.length ≤ 30) (hl : l.length ≤ 900) : diary_checkName_2 n s l = some (bif !nameB s then 4 else bif l.any (isS s) then 5 else 0) := by
  rw [diary_checkName_2, isName_eq s n (by omega) (by omega)]
  simp only [Option.bind_some, Contains2_eq (n := n) l s (by omega) (by omega)]
  cases nameB s <;> cases l.any (isS s) <;> rfl
theorem any_mapName (l : List Grand) (s : Str) : (l.map Grand.Name).any (isS s) = l.any (isG s) := by
  rw [List.any_map]; rfl
theorem checkGrands_eq (d : Diary) (hd : OkD d) (hn : 1000 < n) : diary_checkGrands n d = some (grandsD d) := by
  have hg := hd.grands
  have hp := hd.places
  rw [diary_checkGrands, grandsD]
  cases decide (12 < d.Grands.length) with
  | true => rfl
  | false =>
    simp only [cond_false, withK_eq]
    have := loop_first (F := diary_checkGrands_L1 n d fun _ => some 0) (st := fun v => ((d.Grands.take v).map Grand.Name, v)) (E := grandE d) (err := some) (k := some 0) (len := d.Grands.length) (fun back v hv _ => ?_) (fun back _ => ?_) n 0 (by omega) (by omega) (fun j h => by omega)
    · simp only [List.take_zero, List.map_nil, Nat.sub_zero] at this
      rw [this]
      exact bif_id
    · rw [diary_checkGrands_L1]
      have h1 := hd.grandN _ (ix_mem hv)
      have hroom : room 16 ((d.Grands.take v).map Grand.Name ++ [(ix d.Grands v).Name]).length = true := room_of (by simp; omega) (by simp; omega)
      have htake : (d.Grands.take (v + 1)).map Grand.Name = (d.Grands.take v).map Grand.Name ++ [(ix d.Grands v).Name] := by
        rw [List.take_succ_eq_append_getElem hv, ix_eq hv, List.map_append]; rfl
      simp only [hv, decide_true, cond_true, checkName2_eq (n := n) (l := (d.Grands.take v).map Grand.Name) hn h1 (by simp; omega), Option.bind_some, Contains_eq (n := n) d.Places _ (by omega) (by omega), diary_isWidth, diary_within, nI_of (by omega : v + 1 ≤ 9223372036854775807), chk_t, hroom, any_mapName, htake, grandE, isW]
      cases nameB (ix d.Grands v).Name <;> cases (d.Grands.take v).any (isG (ix d.Grands v).Name) <;> cases d.Places.any (isS (ix d.Grands v).Place) <;> cases decide (1 ≤ (ix d.Grands v).Width) && decide ((ix d.Grands v).Width ≤ 10000) <;> rfl
    · rw [diary_checkGrands_L1]; simp
theorem grands_refstep (d : Diary) (hd : OkD d) (hn : 1000 < n) (v : Nat) (hv : v < d.Grands.length) (k : Unit → Option Int) (back : Nat → Option Int) :
    agrafferef09_CheckDiary_L2 n d k back v = bif grandE d v != 0 then some (grandE d v) else back (v + 1) := by
  have hg := hd.grands
  have hp := hd.places
  have h1 := hd.grandN _ (ix_mem hv)
  have hany : d.Grands.any (isG (ix d.Grands v).Name) = true := by
    rw [List.any_eq_true]; exact ⟨_, ix_mem hv, by simp [isG]⟩
  have hft : decide (findI (isG (ix d.Grands v).Name) d.Grands < (v : Int)) = (d.Grands.take v).any (isG (ix d.Grands v).Name) := by rw [findI_take, hany, Bool.and_true]
  rw [agrafferef09_CheckDiary_L2]
  simp only [hv, decide_true, cond_true, IsName_eq (ix d.Grands v).Name n (by omega) (by omega), GrandAt_eq (n := n) d _ (by omega) (by omega), hft, place_eq (n := n) d _ (by omega) (by omega), findI_none, Option.bind_some, agraffebase_Within, agrafferef09_IsWidth, nI_of (by omega : v + 1 ≤ 9223372036854775807), chk_t, grandE, isW]
  cases nameB (ix d.Grands v).Name <;> cases (d.Grands.take v).any (isG (ix d.Grands v).Name) <;> cases d.Places.any (isS (ix d.Grands v).Place) <;> cases decide (1 ≤ (ix d.Grands v).Width) && decide ((ix d.Grands v).Width ≤ 10000) <;> rfl
def isBet (a b w : Int) : Bool := (decide (a ≤ w)) && (decide (w ≤ b))
def diaryD (d : Diary) : Int :=
  bif namesD d.Places 20 != 0 then namesD d.Places 20 else bif roadsD d != 0 then roadsD d else bif grandsD d != 0 then grandsD d else
  bif namesD d.Technicians 12 != 0 then namesD d.Technicians 12 else bif (!isBet 0 1000 d.Change) || (!isBet 0 100000 d.Lasts) then 2 else 0
theorem CheckDiary_eq (d : Diary) (hd : OkD d) (hn : 1000 < n) : diary_CheckDiary n d = some (diaryD d) := by
  have hp := hd.places
  have ht := hd.techs
  rw [diary_CheckDiary, checkNames_eq 20 hn (by omega) hd.place]
  simp only [Option.bind_some, checkRoads_eq d hd hn, checkGrands_eq d hd hn, checkNames_eq 12 hn (by omega : d.Technicians.length ≤ 900) hd.tech, diary_within, gcall_some_, diaryD, isBet]
  cases namesD d.Places 20 != 0 <;> cases roadsD d != 0 <;> cases grandsD d != 0 <;> cases namesD d.Technicians 12 != 0 <;> cases decide (0 ≤ d.Change) && decide (d.Change ≤ 1000) <;> cases decide (0 ≤ d.Lasts) && decide (d.Lasts ≤ 100000) <;> rfl
theorem CheckDiary_ref (d : Diary) (hd : OkD d) (hn : 1000 < n) : agrafferef09_CheckDiary n d = some (diaryD d) := by
  have hp := hd.places
  have ht := hd.techs
  have hr := hd.roads
  have hg := hd.grands
  rw [agrafferef09_CheckDiary, names_ref 20 hn (by omega) hd.place]
  simp only [Option.bind_some, withK_eq, names_ref 12 hn (by omega : d.Technicians.length ≤ 900) hd.tech, agraffebase_Within, gcall_some_]
  have L2 : ∀ K : Option Int, loopN (agrafferef09_CheckDiary_L2 n d fun _ => K) n 0 = bif firstE (grandE d) 0 d.Grands.length != 0 then some (firstE (grandE d) 0 d.Grands.length) else K := fun K => by
    rw [loop_first (st := fun v => v) (E := grandE d) (err := some) (k := K) (len := d.Grands.length) (fun back v hv _ => grands_refstep d hd hn v hv _ back) (fun back _ => by rw [agrafferef09_CheckDiary_L2]; simp) n 0 (by omega) (by omega) (fun j h => by omega), Nat.sub_zero]
  have L1 : ∀ K : Option Int, loopN (agrafferef09_CheckDiary_L1 n d fun _ => K) n 0 = bif firstE (roadE d) 0 d.Roads.length != 0 then some (firstE (roadE d) 0 d.Roads.length) else K := fun K => by
    rw [loop_first (st := fun v => v) (E := roadE d) (err := some) (k := K) (len := d.Roads.length) (fun back v hv _ => roads_refstep d hd hn v hv _ back) (fun back _ => by rw [agrafferef09_CheckDiary_L1]; simp) n 0 (by omega) (by omega) (fun j h => by omega), Nat.sub_zero]
  rw [L2, L1, diaryD, roadsD, grandsD]
  simp only [isBet]
  cases namesD d.Places 20 != 0 <;> cases decide (60 < d.Roads.length) <;> cases decide (12 < d.Grands.length) <;> simp only [cond_true, cond_false] <;>
    cases firstE (roadE d) 0 d.Roads.length != 0 <;> cases firstE (grandE d) 0 d.Grands.length != 0 <;> cases namesD d.Technicians 12 != 0 <;> cases decide (0 ≤ d.Change) && decide (d.Change ≤ 1000) <;> cases decide (0 ≤ d.Lasts) && decide (d.Lasts ≤ 100000) <;> rfl
end
section
set_option maxRecDepth 4000
open Go
set_option maxRecDepth 100000 in
theorem awake_ok (m : Nat) : agraffelaw09_awake (m + 2000) = some true := by kernel_rfl
theorem town_ok (d : Diary) (n : Nat) (hd : OkD d) : agraffelaw09_town n d = some () := by
  obtain ⟨h1, h2, h3, h4, _, _, _, _, _, _⟩ := hd
  have r1 : room 16 d.Places.length = true := room_of (by omega) (by omega)
  have r2 : room 16 d.Technicians.length = true := room_of (by omega) (by omega)
  have r3 : room 48 d.Roads.length = true := room_of (by omega) (by omega)
  have r4 : room 40 d.Grands.length = true := room_of (by omega) (by omega)
  simp only [agraffelaw09_town, agraffebase_CopyTexts, r1, r2, r3, r4, chk_t, Option.bind_some]
end
section
set_option maxRecDepth 4000
open Go
theorem lookup_mPut {α β : Type} [BEq α] [LawfulBEq α] (x : α) (v : β) (y : α) : ∀ m : List (α × β), List.lookup y (mPut x v m) = bif y == x then some v else List.lookup y m := by
  intro m
  induction m with
  | nil =>
    simp only [mPut, List.lookup]
    cases y == x <;> rfl
  | cons p m ih =>
    obtain ⟨k, u⟩ := p
    simp only [mPut]
    by_cases h : x = k
    · subst h
      simp only [beq_self_eq_true, List.lookup]
      cases y == x <;> rfl
    · have e : (x == k) = false := by simpa using h
      rw [e]
      simp only [List.lookup]
      cases hy : y == k
      · exact ih
      · have : y = k := eq_of_beq hy
        have : (y == x) = false := by rw [this]; simpa using Ne.symm h
        rw [this]; rfl
theorem take_snoc {α : Type} [Inhabited α] {l : List α} {v : Nat} (h : v < l.length) : l.take (v + 1) = l.take v ++ [ix l v] := by
  rw [List.take_succ_eq_append_getElem h, ix_eq h]
end
section
set_option maxRecDepth 4000
open Go
variable {n : Nat}
def conn (a b : Str) (w : Int) (r : Road) : Bool := (((r.A == a) && (r.B == b)) || ((r.A == b) && (r.B == a))) && (decide (w ≤ r.Width))
def joinStep (a b : Str) (w : Int) (s : Int × Bool) (r : Road) : Int × Bool := bif conn a b w r && ((!s.2) || (decide (r.Minutes < s.1))) then (r.Minutes, true) else s
def joinB (l : List Road) (a b : Str) (w : Int) : Int × Bool := l.foldl (joinStep a b w) (0, false)
theorem joinB_snoc (l : List Road) (r : Road) (a b : Str) (w : Int) : joinB (l ++ [r]) a b w = joinStep a b w (joinB l a b w) r := by
  rw [joinB, List.foldl_append]; rfl
theorem loop_triple {σ τ R : Type} {F : (σ × τ × Nat → Option R) → σ × τ × Nat → Option R} {st : Nat → σ × τ} {k : Option R} {len : Nat} (h1 : ∀ back v, v < len → F back ((st v).1, (st v).2, v) = back ((st (v + 1)).1, (st (v + 1)).2, v + 1)) (h2 : ∀ back, F back ((st len).1, (st len).2, len) = k) (n : Nat) (hn : len < n) {s0 : σ} {t0 : τ} (h0 : st 0 = (s0, t0)) : loopN F n (s0, t0, 0) = k := by
  have := loop_through (st := fun v => ((st v).1, (st v).2, v)) h1 h2 n hn
  simpa only [h0] using this
theorem joined_eq (p t : List Str) (roads : List Road) (g : List Grand) (c ls : Int) (m : List (Int × List (Arr2_Str × Int))) (a b : Str) (w : Int) (hn : 1000 < n) (hl : roads.length ≤ 900) :
    diary_plan_joined n p t roads g c ls m a b w = some (joinB roads a b w) := by
  rw [diary_plan_joined, withK_eq]
  refine loop_triple (st := fun v => joinB (roads.take v) a b w) (len := roads.length) (fun back v hv => ?_) (fun back => ?_) n (by omega) rfl
  · rw [diary_plan_joined_L1]
    simp only [hv, decide_true, cond_true, withK_eq, nI_of (by omega : v + 1 ≤ 9223372036854775807), chk_t, take_snoc hv, joinB_snoc]
    show (bif conn a b w (ix roads v) && _ then _ else _) = _
    simp only [joinStep]
    cases conn a b w (ix roads v) && ((!(joinB (List.take v roads) a b w).2) || (decide ((ix roads v).Minutes < (joinB (List.take v roads) a b w).1))) <;> rfl
  · rw [diary_plan_joined_L1]
    simp only [Nat.lt_irrefl, decide_false, cond_false, List.take_length]
theorem joinB_spec (a b : Str) (w : Int) : ∀ l : List Road, (joinB l a b w).2 = l.any (conn a b w) ∧ ((joinB l a b w).2 = true → (∃ r ∈ l, conn a b w r = true ∧ r.Minutes = (joinB l a b w).1) ∧ ∀ r ∈ l, conn a b w r = true → (joinB l a b w).1 ≤ r.Minutes) := by
  intro l
  suffices h : ∀ l : List Road, (joinB l.reverse a b w).2 = l.reverse.any (conn a b w) ∧ ((joinB l.reverse a b w).2 = true → (∃ r ∈ l.reverse, conn a b w r = true ∧ r.Minutes = (joinB l.reverse a b w).1) ∧ ∀ r ∈ l.reverse, conn a b w r = true → (joinB l.reverse a b w).1 ≤ r.Minutes) by
    have := h l.reverse
    rwa [List.reverse_reverse] at this
  intro l
  induction l with
  | nil => exact ⟨rfl, fun h => by cases h⟩
  | cons r l ih =>
    rw [List.reverse_cons, joinB_snoc, joinStep, List.any_append, List.any_cons, List.any_nil, Bool.or_false, ← ih.1]
    obtain ⟨ih0, ih⟩ := ih
    generalize joinB l.reverse a b w = s at ih0 ih ⊢
    obtain ⟨x, y⟩ := s
    cases hc : conn a b w r with
    | false =>
      simp only [Bool.false_and, cond_false, Bool.or_false, true_and]
      intro hy
      obtain ⟨⟨r', h1, h2⟩, h3⟩ := ih hy
      refine ⟨⟨r', List.mem_append_left _ h1, h2⟩, fun q hq hcq => ?_⟩
      rcases List.mem_append.1 hq with hq | hq
      · exact h3 q hq hcq
      · rw [List.mem_singleton.1 hq, hc] at hcq; cases hcq
    | true =>
      simp only [Bool.true_and, Bool.or_true]
      cases y with
      | false =>
        simp only [Bool.not_false, Bool.true_or, cond_true, true_and, forall_const]
        refine ⟨⟨r, by simp, hc, rfl⟩, fun q hq hcq => ?_⟩
        rcases List.mem_append.1 hq with hq | hq
        · have := List.any_eq_false.1 ih0.symm q hq; exact absurd hcq this
        · rw [List.mem_singleton.1 hq]; exact Int.le_refl _
      | true =>
        obtain ⟨⟨r', h1, h2⟩, h3⟩ := ih rfl
        simp only [Bool.not_true, Bool.false_or]
        by_cases hlt : r.Minutes < x
        · rw [decide_eq_true hlt]
          simp only [cond_true, true_and, forall_const]
          refine ⟨⟨r, by simp, hc, rfl⟩, fun q hq hcq => ?_⟩
          rcases List.mem_append.1 hq with hq | hq
          · have := h3 q hq hcq; simp only at this; omega
          · rw [List.mem_singleton.1 hq]; exact Int.le_refl _
        · rw [decide_eq_false hlt]
          simp only [cond_false, true_and, forall_const]
          refine ⟨⟨r', List.mem_append_left _ h1, h2⟩, fun q hq hcq => ?_⟩
          rcases List.mem_append.1 hq with hq | hq
          · exact h3 q hq hcq
          · rw [List.mem_singleton.1 hq]; show x ≤ r.Minutes; omega
end
section
set_option maxRecDepth 4000
section
variable {α : Type}
inductive Walk (J : α → α → Nat → Prop) (S : α → Prop) : α → α → Nat → Prop
  | refl (a : α) : Walk J S a a 0
  | edge {a b : α} {m : Nat} (h : J a b m) : Walk J S a b m
  | cons {a c b : α} {m l : Nat} (h : J a c m) (hc : S c) (k : Walk J S c b l) : Walk J S a b (m + l)
variable {J : α → α → Nat → Prop} {S S' : α → Prop} {a b c k : α} {l l1 l2 m d : Nat}
theorem Walk.mono (hS : ∀ x, S x → S' x) (h : Walk J S a b l) : Walk J S' a b l := by
  induction h with
  | refl a => exact .refl a
  | edge h => exact .edge h
  | cons h hc _ ih => exact .cons h (hS _ hc) ih
theorem Walk.ends (P : α → Prop) (hJ : ∀ a b m, J a b m → P a ∧ P b) (h : Walk J S a b l) : Walk J P a b l := by
  induction h with
  | refl a => exact .refl a
  | edge h => exact .edge h
  | cons h hc _ ih => exact .cons h (hJ _ _ _ h).2 ih
theorem Walk.trans (h : Walk J S a c l1) (hc : S c) (g : Walk J S c b l2) : Walk J S a b (l1 + l2) := by
  induction h with
  | refl a => simpa using g
  | edge h => exact .cons h hc g
  | cons h hd _ ih =>
    rw [Nat.add_assoc]
    exact .cons h hd (ih hc g)
theorem Walk.split (h : Walk J (fun x => S x ∨ x = k) a b l) : (∃ l', l' ≤ l ∧ Walk J S a b l') ∨ ∃ l1 l2, Walk J S a k l1 ∧ Walk J S k b l2 ∧ l1 + l2 ≤ l := by
  induction h with
  | refl a => exact .inl ⟨0, Nat.le_refl _, .refl a⟩
  | edge h => exact .inl ⟨_, Nat.le_refl _, .edge h⟩
  | @cons a c b m l h hc _ ih =>
    rcases ih with ⟨l', h1, h2⟩ | ⟨l1, l2, h1, h2, h3⟩
    · rcases hc with hc | rfl
      · exact .inl ⟨m + l', by omega, .cons h hc h2⟩
      · exact .inr ⟨m, l', .edge h, h2, by omega⟩
    · rcases hc with hc | rfl
      · exact .inr ⟨m + l1, l2, .cons h hc h1, h2, by omega⟩
      · exact .inr ⟨m, l2, .edge h, h2, by omega⟩
theorem Walk.symm (hJ : ∀ a b m, J a b m → J b a m) (h : Walk J (fun _ => True) a b l) : Walk J (fun _ => True) b a l := by
  induction h with
  | refl a => exact .refl a
  | edge h => exact .edge (hJ _ _ _ h)
  | @cons a c b m l h hc _ ih =>
    rw [Nat.add_comm]
    exact ih.trans trivial (.edge (hJ _ _ _ h))
def IsDist (J : α → α → Nat → Prop) (a b : α) (o : Option Nat) : Prop := (∀ d, o = some d → Walk J (fun _ => True) a b d) ∧ ∀ l, Walk J (fun _ => True) a b l → ∃ d, o = some d ∧ d ≤ l
def TabSound (J : α → α → Nat → Prop) (m : α → α → Option Nat) : Prop := ∀ a b d, m a b = some d → Walk J (fun _ => True) a b d
def TabLe (m m' : α → α → Option Nat) : Prop := ∀ a b d, m a b = some d → ∃ d', m' a b = some d' ∧ d' ≤ d
def TabCl (J : α → α → Nat → Prop) (P S : α → Prop) (m : α → α → Option Nat) : Prop := ∀ a b l, P a → P b → Walk J S a b l → ∃ d, m a b = some d ∧ d ≤ l
theorem TabLe.refl (m : α → α → Option Nat) : TabLe m m := fun _ _ d h => ⟨d, h, Nat.le_refl _⟩
theorem TabLe.trans {m m' m'' : α → α → Option Nat} (h : TabLe m m') (g : TabLe m' m'') : TabLe m m'' := fun a b d e => by
  obtain ⟨d', h1, h2⟩ := h a b d e
  obtain ⟨d'', h3, h4⟩ := g a b d' h1
  exact ⟨d'', h3, by omega⟩
theorem TabCl.step {P : α → Prop} {m m' : α → α → Option Nat} (h : TabCl J P S m) (hk : P k) (hle : TabLe m m')
    (hs : ∀ a b d1 d2, P a → P b → m a k = some d1 → m k b = some d2 → ∃ d, m' a b = some d ∧ d ≤ d1 + d2) : TabCl J P (fun x => S x ∨ x = k) m' := by
  intro a b l ha hb hw
  rcases hw.split with ⟨l', h1, h2⟩ | ⟨l1, l2, h1, h2, h3⟩
  · obtain ⟨d, e1, e2⟩ := h a b l' ha hb h2
    obtain ⟨d', e3, e4⟩ := hle a b d e1
    exact ⟨d', e3, by omega⟩
  · obtain ⟨d1, e1, e2⟩ := h a k l1 ha hk h1
    obtain ⟨d2, e3, e4⟩ := h k b l2 hk hb h2
    obtain ⟨d, e5, e6⟩ := hs a b d1 d2 ha hb e1 e3
    exact ⟨d, e5, by omega⟩
theorem TabCl.dist {P : α → Prop} (hJ : ∀ a b m, J a b m → P a ∧ P b) {m : α → α → Option Nat} (h : TabCl J P P m) (hs : TabSound J m) {a b : α} (ha : P a) (hb : P b) : IsDist J a b (m a b) :=
  ⟨fun d hd => hs a b d hd, fun l hl => h a b l ha hb (hl.ends P hJ)⟩
end
end
section
set_option maxRecDepth 4000
open Go
abbrev Tab := List (Arr2_Str × Int)
def tv (t : Tab) (a b : Str) : Option Int := List.lookup (Arr2_Str.mk a b) t
def tN (t : Tab) (a b : Str) : Option Nat := (tv t a b).map Int.toNat
theorem tv_put (t : Tab) (a b : Str) (v : Int) (x y : Str) : tv (mPut (Arr2_Str.mk a b) v t) x y = if x = a ∧ y = b then some v else tv t x y := by
  rw [tv, lookup_mPut]
  by_cases h : x = a ∧ y = b
  · obtain ⟨rfl, rfl⟩ := h
    simp
  · have : ((Arr2_Str.mk x y) == (Arr2_Str.mk a b)) = false := by
      rw [beq_eq_false_iff_ne]
      intro e
      cases e
      exact h ⟨rfl, rfl⟩
    rw [this, if_neg h]; rfl
def Jn (roads : List Road) (w : Int) (a b : Str) (m : Nat) : Prop := ∃ r ∈ roads, conn a b w r = true ∧ r.Minutes = ((m : Nat) : Int)
def fwStep (p : List Str) (k i j : Nat) (t : Tab) : Tab :=
  bif ((Option.isSome (tv t (ix p i) (ix p k))) && (Option.isSome (tv t (ix p k) (ix p j)))) && ((!(Option.isSome (tv t (ix p i) (ix p j)))) || (decide (((Option.getD (tv t (ix p i) (ix p k)) (0 : Int)) + (Option.getD (tv t (ix p k) (ix p j)) (0 : Int))) < (Option.getD (tv t (ix p i) (ix p j)) (0 : Int))))) then
    mPut (Arr2_Str.mk (ix p i) (ix p j)) ((Option.getD (tv t (ix p i) (ix p k)) (0 : Int)) + (Option.getD (tv t (ix p k) (ix p j)) (0 : Int))) t
  else t
def fwJ (p : List Str) (k i : Nat) (t : Tab) : Nat → Tab
  | 0 => t
  | j + 1 => fwStep p k i j (fwJ p k i t j)
def fwI (p : List Str) (k : Nat) (t : Tab) : Nat → Tab
  | 0 => t
  | i + 1 => fwJ p k i (fwI p k t i) p.length
def fwK (p : List Str) (t : Tab) : Nat → Tab
  | 0 => t
  | k + 1 => fwI p k (fwK p t k) p.length
structure Rnd (J : Str → Str → Nat → Prop) (p : List Str) (k : Nat) (B : Int) (t : Tab) : Prop where
  diag : ∀ x ∈ p, tv t x x = some 0
  lo : ∀ a b v, tv t a b = some v → 0 ≤ v
  hi : ∀ a b v, tv t a b = some v → v ≤ 2 * B
  row : ∀ b v, tv t (ix p k) b = some v → v ≤ B
  col : ∀ a v, tv t a (ix p k) = some v → v ≤ B
  sound : TabSound J (tN t)
  mem : ∀ a b v, tv t a b = some v → a ∈ p ∧ b ∈ p
variable {J : Str → Str → Nat → Prop} {p : List Str} {k i j : Nat} {B : Int} {t : Tab}
theorem tN_some {a b : Str} {d : Nat} (h : tN t a b = some d) (lo : ∀ a b v, tv t a b = some v → 0 ≤ v) : tv t a b = some ((d : Nat) : Int) := by
  rw [tN, Option.map_eq_some_iff] at h
  obtain ⟨v, h1, h2⟩ := h
  have := lo a b v h1
  rw [h1]; congr 1; omega
theorem tN_of {a b : Str} {v : Int} (h : tv t a b = some v) : tN t a b = some v.toNat := by rw [tN, h]; rfl
theorem Rnd.step (h : Rnd J p k B t) (hk : k < p.length) (hi : i < p.length) (hj : j < p.length) :
    Rnd J p k B (fwStep p k i j t) ∧ TabLe (tN t) (tN (fwStep p k i j t)) ∧ ∀ d1 d2, tN t (ix p i) (ix p k) = some d1 → tN t (ix p k) (ix p j) = some d2 → ∃ d, tN (fwStep p k i j t) (ix p i) (ix p j) = some d ∧ d ≤ d1 + d2 := by
  have mi := ix_mem hi
  have mj := ix_mem hj
  have mk := ix_mem hk
  have hkk := h.diag _ mk
  rw [fwStep]
  cases e1 : tv t (ix p i) (ix p k) with
  | none =>
    simp only [Option.isSome_none, Bool.false_and, cond_false]
    refine ⟨h, .refl _, fun d1 d2 h1 => ?_⟩
    rw [tN, e1] at h1; cases h1
  | some x =>
    cases e2 : tv t (ix p k) (ix p j) with
    | none =>
      simp only [Option.isSome_none, Bool.and_false, Bool.false_and, cond_false]
      refine ⟨h, .refl _, fun d1 d2 _ h2 => ?_⟩
      rw [tN, e2] at h2; cases h2
    | some y =>
      have lx := h.lo _ _ _ e1
      have ly := h.lo _ _ _ e2
      have bx := h.col _ _ e1
      have by' := h.row _ _ e2
      have put : (∀ z, tv t (ix p i) (ix p j) = some z → x + y < z) →
          Rnd J p k B (mPut (Arr2_Str.mk (ix p i) (ix p j)) (x + y) t) ∧ TabLe (tN t) (tN (mPut (Arr2_Str.mk (ix p i) (ix p j)) (x + y) t)) ∧ ∀ d1 d2, tN t (ix p i) (ix p k) = some d1 → tN t (ix p k) (ix p j) = some d2 → ∃ d, tN (mPut (Arr2_Str.mk (ix p i) (ix p j)) (x + y) t) (ix p i) (ix p j) = some d ∧ d ≤ d1 + d2 := by
        intro hz
        have nik : ix p i ≠ ix p k := fun e => by
          rw [e] at e1 hz
          rw [hkk] at e1; cases e1
          have := hz y e2
          omega
        have njk : ix p j ≠ ix p k := fun e => by
          rw [e] at e2 hz
          rw [hkk] at e2; cases e2
          have := hz x e1
          omega
        have nij : ix p i ≠ ix p j := fun e => by
          rw [← e] at hz
          have := hz 0 (h.diag _ mi)
          omega
        refine ⟨⟨fun q hq => ?_, fun a b v hv => ?_, fun a b v hv => ?_, fun b v hv => ?_, fun a v hv => ?_, fun a b d hd => ?_, fun a b v hv => ?_⟩, fun a b d hd => ?_, fun d1 d2 h1 h2 => ?_⟩
        · rw [tv_put, if_neg (fun e => nij (e.1.symm.trans e.2))]; exact h.diag q hq
        · rw [tv_put] at hv
          split at hv
          · cases hv; omega
          · exact h.lo _ _ _ hv
        · rw [tv_put] at hv
          split at hv
          · cases hv; omega
          · exact h.hi _ _ _ hv
        · rw [tv_put, if_neg (fun e => nik e.1.symm)] at hv; exact h.row _ _ hv
        · rw [tv_put, if_neg (fun e => njk e.2.symm)] at hv; exact h.col _ _ hv
        · rw [tN, tv_put] at hd
          split at hd
          · rename_i e
            obtain ⟨rfl, rfl⟩ := e
            cases hd
            have w1 := h.sound _ _ _ (tN_of e1)
            have w2 := h.sound _ _ _ (tN_of e2)
            rw [show (x + y).toNat = x.toNat + y.toNat by omega]
            exact w1.trans trivial w2
          · exact h.sound _ _ _ hd
        · rw [tv_put] at hv
          split at hv
          · rename_i e
            obtain ⟨rfl, rfl⟩ := e
            exact ⟨mi, mj⟩
          · exact h.mem _ _ _ hv
        · rw [tN, tv_put]
          by_cases e : a = ix p i ∧ b = ix p j
          · rw [if_pos e]
            obtain ⟨rfl, rfl⟩ := e
            have := hz _ (tN_some hd h.lo)
            exact ⟨_, rfl, by omega⟩
          · rw [if_neg e]; exact ⟨d, hd, Nat.le_refl _⟩
        · rw [tN_of e1] at h1; rw [tN_of e2] at h2
          cases h1; cases h2
          rw [tN, tv_put, if_pos ⟨rfl, rfl⟩]
          exact ⟨_, rfl, by omega⟩
      have keep : ∀ z, tv t (ix p i) (ix p j) = some z → ¬ x + y < z → ∀ d1 d2, tN t (ix p i) (ix p k) = some d1 → tN t (ix p k) (ix p j) = some d2 → ∃ d, tN t (ix p i) (ix p j) = some d ∧ d ≤ d1 + d2 := by
        intro z e3 hz d1 d2 h1 h2
        rw [tN_of e1] at h1; rw [tN_of e2] at h2
        cases h1; cases h2
        exact ⟨_, tN_of e3, by omega⟩
      cases e3 : tv t (ix p i) (ix p j) with
      | none =>
        simp only [Option.isSome_some, Option.isSome_none, Bool.not_false, Bool.true_or, Bool.and_self, cond_true, Option.getD_some]
        exact put fun z hz => by rw [e3] at hz; cases hz
      | some z =>
        simp only [Option.isSome_some, Bool.not_true, Bool.false_or, Bool.true_and, Bool.and_self, Option.getD_some]
        by_cases hz : x + y < z
        · rw [decide_eq_true hz, cond_true]
          exact put fun z' hz' => by rw [e3] at hz'; cases hz'; exact hz
        · rw [decide_eq_false hz, cond_false]
          exact ⟨h, .refl _, keep z e3 hz⟩
theorem Rnd.rowJ (h : Rnd J p k B t) (hk : k < p.length) (hi : i < p.length) : ∀ m, m ≤ p.length →
    Rnd J p k B (fwJ p k i t m) ∧ TabLe (tN t) (tN (fwJ p k i t m)) ∧ ∀ j, j < m → ∀ d1 d2, tN t (ix p i) (ix p k) = some d1 → tN t (ix p k) (ix p j) = some d2 → ∃ d, tN (fwJ p k i t m) (ix p i) (ix p j) = some d ∧ d ≤ d1 + d2 := by
  intro m
  induction m with
  | zero => intro _; exact ⟨h, .refl _, fun j hj => absurd hj (Nat.not_lt_zero _)⟩
  | succ m ih =>
    intro hm
    obtain ⟨r, le, cl⟩ := ih (by omega)
    obtain ⟨r2, le2, cl2⟩ := r.step hk hi (by omega : m < p.length)
    refine ⟨r2, le.trans le2, fun j hj d1 d2 h1 h2 => ?_⟩
    by_cases e : j = m
    · subst e
      obtain ⟨e1, g1, l1⟩ := le _ _ _ h1
      obtain ⟨e2, g2, l2⟩ := le _ _ _ h2
      obtain ⟨d, g3, l3⟩ := cl2 e1 e2 g1 g2
      exact ⟨d, g3, by omega⟩
    · obtain ⟨d, g, l⟩ := cl j (by omega) d1 d2 h1 h2
      obtain ⟨d', g', l'⟩ := le2 _ _ _ g
      exact ⟨d', g', by omega⟩
theorem Rnd.rowsI (h : Rnd J p k B t) (hk : k < p.length) : ∀ m, m ≤ p.length →
    Rnd J p k B (fwI p k t m) ∧ TabLe (tN t) (tN (fwI p k t m)) ∧ ∀ i, i < m → ∀ j, j < p.length → ∀ d1 d2, tN t (ix p i) (ix p k) = some d1 → tN t (ix p k) (ix p j) = some d2 → ∃ d, tN (fwI p k t m) (ix p i) (ix p j) = some d ∧ d ≤ d1 + d2 := by
  intro m
  induction m with
  | zero => intro _; exact ⟨h, .refl _, fun j hj => absurd hj (Nat.not_lt_zero _)⟩
  | succ m ih =>
    intro hm
    obtain ⟨r, le, cl⟩ := ih (by omega)
    obtain ⟨r2, le2, cl2⟩ := r.rowJ hk (by omega : m < p.length) p.length (Nat.le_refl _)
    refine ⟨r2, le.trans le2, fun i hi j hj d1 d2 h1 h2 => ?_⟩
    by_cases e : i = m
    · subst e
      obtain ⟨e1, g1, l1⟩ := le _ _ _ h1
      obtain ⟨e2, g2, l2⟩ := le _ _ _ h2
      obtain ⟨d, g3, l3⟩ := cl2 j hj e1 e2 g1 g2
      exact ⟨d, g3, by omega⟩
    · obtain ⟨d, g, l⟩ := cl i (by omega) j hj d1 d2 h1 h2
      obtain ⟨d', g', l'⟩ := le2 _ _ _ g
      exact ⟨d', g', by omega⟩
structure Tbl (J : Str → Str → Nat → Prop) (p : List Str) (B : Int) (t : Tab) : Prop where
  diag : ∀ x ∈ p, tv t x x = some 0
  lo : ∀ a b v, tv t a b = some v → 0 ≤ v
  hi : ∀ a b v, tv t a b = some v → v ≤ B
  sound : TabSound J (tN t)
  mem : ∀ a b v, tv t a b = some v → a ∈ p ∧ b ∈ p
theorem Tbl.rnd (h : Tbl J p B t) (hB : 0 ≤ B) (k : Nat) : Rnd J p k B t := ⟨h.diag, h.lo, fun a b v e => by have := h.hi a b v e; omega, fun b v e => h.hi _ _ _ e, fun a v e => h.hi _ _ _ e, h.sound, h.mem⟩
theorem Rnd.tbl (h : Rnd J p k B t) : Tbl J p (2 * B) t := ⟨h.diag, h.lo, h.hi, h.sound, h.mem⟩
theorem Tbl.rounds (h : Tbl J p B t) (hB : 0 ≤ B) (hcl : TabCl J (· ∈ p) (fun _ => False) (tN t)) : ∀ m, m ≤ p.length → Tbl J p (B * 2 ^ m) (fwK p t m) ∧ TabCl J (· ∈ p) (fun x => ∃ k, k < m ∧ x = ix p k) (tN (fwK p t m)) := by
  intro m
  induction m with
  | zero =>
    intro _
    refine ⟨by rw [Int.pow_zero, Int.mul_one]; exact h, ?_⟩
    intro a b l ha hb hw
    exact hcl a b l ha hb (hw.mono fun x hx => by obtain ⟨k, hk, _⟩ := hx; omega)
  | succ m ih =>
    intro hm
    obtain ⟨t1, cl⟩ := ih (by omega)
    have hB2 : 0 ≤ B * 2 ^ m := Int.mul_nonneg hB (Int.pow_nonneg (by decide))
    obtain ⟨r, le, st⟩ := (t1.rnd hB2 m).rowsI (by omega : m < p.length) p.length (Nat.le_refl _)
    refine ⟨?_, ?_⟩
    · have := r.tbl
      rw [show B * 2 ^ (m + 1) = 2 * (B * 2 ^ m) by rw [Int.pow_succ, ← Int.mul_assoc, Int.mul_comm]]
      exact this
    · have c2 := cl.step (k := ix p m) (ix_mem (by omega : m < p.length)) le (fun a b d1 d2 ha hb h1 h2 => by
        obtain ⟨i, hi, rfl⟩ := List.mem_iff_getElem.1 ha
        obtain ⟨j, hj, rfl⟩ := List.mem_iff_getElem.1 hb
        rw [← ix_eq hi] at h1 ⊢
        rw [← ix_eq hj] at h2 ⊢
        exact st i hi j hj d1 d2 h1 h2)
      intro a b l ha hb hw
      refine c2 a b l ha hb (hw.mono fun x hx => ?_)
      obtain ⟨k, hk, rfl⟩ := hx
      by_cases e : k = m
      · exact .inr (by rw [e])
      · exact .inl ⟨k, by omega, rfl⟩
end
section
set_option maxRecDepth 4000
open Go
def initRow (p : List Str) (roads : List Road) (w : Int) (i : Nat) (t : Tab) : Nat → Tab
  | 0 => t
  | j + 1 => bif (joinB roads (ix p i) (ix p j) w).2 && (!(ix p i == ix p j)) then mPut (Arr2_Str.mk (ix p i) (ix p j)) (joinB roads (ix p i) (ix p j) w).1 (initRow p roads w i t j) else initRow p roads w i t j
def initT (p : List Str) (roads : List Road) (w : Int) : Nat → Tab
  | 0 => []
  | i + 1 => initRow p roads w i (mPut (Arr2_Str.mk (ix p i) (ix p i)) 0 (initT p roads w i)) p.length
def tabW (p : List Str) (roads : List Road) (w : Int) : Tab := fwK p (initT p roads w p.length) p.length
structure OkR (p : List Str) (roads : List Road) : Prop where
  nodup : p.Nodup
  len : p.length ≤ 20
  rlen : roads.length ≤ 60
  mem : ∀ r ∈ roads, r.A ∈ p ∧ r.B ∈ p
  ne : ∀ r ∈ roads, r.A ≠ r.B
  lo : ∀ r ∈ roads, 1 ≤ r.Minutes
  hi : ∀ r ∈ roads, r.Minutes ≤ 10000
theorem diaryD_zero {d : Diary} (h : diaryD d = 0) : OkR d.Places d.Roads ∧ (∀ g ∈ d.Grands, g.Place ∈ d.Places ∧ 1 ≤ g.Width ∧ g.Width ≤ 10000) ∧ d.Grands.length ≤ 12 ∧ d.Technicians.length ≤ 12 ∧ (0 ≤ d.Change ∧ d.Change ≤ 1000) ∧ (0 ≤ d.Lasts ∧ d.Lasts ≤ 100000) := by
  rw [diaryD] at h
  have h1 : namesD d.Places 20 = 0 := Decidable.byContradiction fun c => by
    rw [bne_t c, cond_true] at h; exact c h
  have h2 : roadsD d = 0 := Decidable.byContradiction fun c => by
    rw [h1, bne_t c] at h; exact c h
  have h3 : grandsD d = 0 := Decidable.byContradiction fun c => by
    rw [h1, h2, bne_t c] at h; exact c h
  have h4 : namesD d.Technicians 12 = 0 := Decidable.byContradiction fun c => by
    rw [h1, h2, h3, bne_t c] at h; exact c h
  rw [h1, h2, h3, h4] at h
  simp only [bne_self_eq_false, cond_false] at h
  have hcl : isBet 0 1000 d.Change = true ∧ isBet 0 100000 d.Lasts = true := by
    cases e1 : isBet 0 1000 d.Change <;> cases e2 : isBet 0 100000 d.Lasts <;> simp [e1, e2] at h ⊢
  obtain ⟨nd, nl, _⟩ := namesD_nodup h1
  obtain ⟨_, tl, _⟩ := namesD_nodup h4
  have hr60 : d.Roads.length ≤ 60 := by
    rw [roadsD] at h2
    cases e : decide (60 < d.Roads.length) with
    | true => rw [e] at h2; simp at h2
    | false => simp at e; omega
  have hrz : ∀ r ∈ d.Roads, r.A ∈ d.Places ∧ r.B ∈ d.Places ∧ r.A ≠ r.B ∧ isW r.Minutes = true ∧ isW r.Width = true := by
    intro r hr
    rw [roadsD, decide_eq_false (by omega : ¬ 60 < d.Roads.length), cond_false] at h2
    obtain ⟨i, hi, rfl⟩ := List.mem_iff_getElem.1 hr
    have := firstE_zero h2 i (by omega) (by omega)
    rw [roadE, ix_eq hi] at this
    have mem : ∀ s : Str, d.Places.any (isS s) = true → s ∈ d.Places := fun s hs => by
      obtain ⟨x, hx, e⟩ := List.any_eq_true.1 hs
      rw [isS, beq_iff_eq] at e; rwa [← e]
    cases a1 : d.Places.any (isS d.Roads[i].A) with
    | false => rw [a1] at this; simp at this
    | true =>
      cases a2 : d.Places.any (isS d.Roads[i].B) with
      | false => rw [a1, a2] at this; simp at this
      | true =>
        by_cases a3 : d.Roads[i].A = d.Roads[i].B
        · rw [a1, a2, a3, beq_self_eq_true] at this; simp at this
        · have a3' : (d.Roads[i].A == d.Roads[i].B) = false := beq_eq_false_iff_ne.2 a3
          cases a4 : isW d.Roads[i].Minutes with
          | false => rw [a1, a2, a3', a4] at this; simp at this
          | true =>
            cases a5 : isW d.Roads[i].Width with
            | false => rw [a1, a2, a3', a4, a5] at this; simp at this
            | true => exact ⟨mem _ a1, mem _ a2, a3, rfl, rfl⟩
  have hg12 : d.Grands.length ≤ 12 := by
    rw [grandsD] at h3
    cases e : decide (12 < d.Grands.length) with
    | true => rw [e] at h3; simp at h3
    | false => simp at e; omega
  have hgz : ∀ g ∈ d.Grands, g.Place ∈ d.Places ∧ 1 ≤ g.Width ∧ g.Width ≤ 10000 := by
    intro r hr
    rw [grandsD, decide_eq_false (by omega : ¬ 12 < d.Grands.length), cond_false] at h3
    obtain ⟨i, hi, rfl⟩ := List.mem_iff_getElem.1 hr
    have := firstE_zero h3 i (by omega) (by omega)
    rw [grandE, ix_eq hi] at this
    cases a0 : nameB d.Grands[i].Name with
    | false => rw [a0] at this; simp at this
    | true =>
      cases a1 : (d.Grands.take i).any (isG d.Grands[i].Name) with
      | true => rw [a0, a1] at this; simp at this
      | false =>
        cases a2 : d.Places.any (isS d.Grands[i].Place) with
        | false => rw [a0, a1, a2] at this; simp at this
        | true =>
          cases a3 : isW d.Grands[i].Width with
          | false => rw [a0, a1, a2, a3] at this; simp at this
          | true =>
            obtain ⟨x, hx, e⟩ := List.any_eq_true.1 a2
            rw [isS, beq_iff_eq] at e
            simp only [isW, Bool.and_eq_true, decide_eq_true_eq] at a3
            exact ⟨by rwa [← e], a3.1, a3.2⟩
  have toW : ∀ {x : Int}, isW x = true → 1 ≤ x ∧ x ≤ 10000 := fun h => by simpa [isW] using h
  refine ⟨⟨nd, by omega, hr60, fun r hr => ⟨(hrz r hr).1, (hrz r hr).2.1⟩, fun r hr => (hrz r hr).2.2.1, fun r hr => (toW (hrz r hr).2.2.2.1).1, fun r hr => (toW (hrz r hr).2.2.2.1).2⟩, hgz, hg12, by omega, ?_, ?_⟩
  · simpa [isBet] using hcl.1
  · simpa [isBet] using hcl.2
variable {p : List Str} {roads : List Road} {w : Int}
theorem conn_symm (a b : Str) (w : Int) (r : Road) : conn a b w r = conn b a w r := by
  rw [conn, conn, Bool.or_comm]
theorem Jn_symm {a b : Str} {m : Nat} (h : Jn roads w a b m) : Jn roads w b a m := by
  obtain ⟨r, h1, h2, h3⟩ := h
  exact ⟨r, h1, by rw [conn_symm]; exact h2, h3⟩
theorem Jn_mem (ok : OkR p roads) {a b : Str} {m : Nat} (h : Jn roads w a b m) : a ∈ p ∧ b ∈ p ∧ a ≠ b ∧ 1 ≤ m := by
  obtain ⟨r, h1, h2, h3⟩ := h
  have hm := ok.mem r h1
  have hne := ok.ne r h1
  have hlo := ok.lo r h1
  simp only [conn, Bool.and_eq_true, Bool.or_eq_true, beq_iff_eq] at h2
  rcases h2.1 with ⟨rfl, rfl⟩ | ⟨rfl, rfl⟩
  · exact ⟨hm.1, hm.2, hne, by omega⟩
  · exact ⟨hm.2, hm.1, fun e => hne e.symm, by omega⟩
structure Ini (p : List Str) (roads : List Road) (w : Int) (t : Tab) (done : Nat → Nat → Prop) : Prop where
  lo : ∀ a b v, tv t a b = some v → 0 ≤ v
  hi : ∀ a b v, tv t a b = some v → v ≤ 10000
  sound : TabSound (Jn roads w) (tN t)
  mem : ∀ a b v, tv t a b = some v → a ∈ p ∧ b ∈ p
  diag : ∀ a v, tv t a a = some v → v = 0
  all : ∀ i j, done i j → i < p.length → j < p.length → (i = j → tv t (ix p i) (ix p j) = some 0) ∧ ∀ m, Jn roads w (ix p i) (ix p j) m → ∃ v, tv t (ix p i) (ix p j) = some v ∧ v ≤ ((m : Nat) : Int)
theorem ix_inj (nd : p.Nodup) {i j : Nat} (hi : i < p.length) (hj : j < p.length) (h : ix p i = ix p j) : i = j := by
  rw [ix_eq hi, ix_eq hj] at h
  exact (List.getElem_inj nd).1 h
theorem Ini.diagPut {t : Tab} {done : Nat → Nat → Prop} (ok : OkR p roads) (h : Ini p roads w t done) {i : Nat} (hi : i < p.length) : Ini p roads w (mPut (Arr2_Str.mk (ix p i) (ix p i)) 0 t) (fun a b => done a b ∨ (a = i ∧ b = i)) := by
  refine ⟨fun a b v hv => ?_, fun a b v hv => ?_, fun a b d hd => ?_, fun a b v hv => ?_, fun a v hv => ?_, fun a b hd ha hb => ?_⟩
  · rw [tv_put] at hv; split at hv
    · cases hv; omega
    · exact h.lo _ _ _ hv
  · rw [tv_put] at hv; split at hv
    · cases hv; omega
    · exact h.hi _ _ _ hv
  · rw [tN, tv_put] at hd; split at hd
    · rename_i e; obtain ⟨rfl, rfl⟩ := e; cases hd; exact .refl _
    · exact h.sound _ _ _ hd
  · rw [tv_put] at hv; split at hv
    · rename_i e; obtain ⟨rfl, rfl⟩ := e; exact ⟨ix_mem hi, ix_mem hi⟩
    · exact h.mem _ _ _ hv
  · rw [tv_put] at hv; split at hv
    · cases hv; rfl
    · exact h.diag _ _ hv
  · rw [tv_put]
    by_cases e : ix p a = ix p i ∧ ix p b = ix p i
    · rw [if_pos e]
      refine ⟨fun _ => rfl, fun m hm => ⟨0, rfl, by omega⟩⟩
    · rw [if_neg e]
      rcases hd with hd | ⟨rfl, rfl⟩
      · exact h.all a b hd ha hb
      · exact absurd ⟨rfl, rfl⟩ e
theorem Ini.row {t : Tab} {done : Nat → Nat → Prop} (ok : OkR p roads) (h : Ini p roads w t done) {i : Nat} (hi : i < p.length) (hdi : done i i) : ∀ m, m ≤ p.length → Ini p roads w (initRow p roads w i t m) (fun a b => done a b ∨ (a = i ∧ b < m)) := by
  intro m
  induction m with
  | zero =>
    intro _
    exact ⟨h.lo, h.hi, h.sound, h.mem, h.diag, fun a b hd => by
      rcases hd with hd | ⟨_, hd⟩
      · exact h.all a b hd
      · omega⟩
  | succ m ih =>
    intro hm
    have g := ih (by omega)
    have hmm : m < p.length := by omega
    unfold initRow
    have spec := joinB_spec (ix p i) (ix p m) w roads
    have mono : ∀ a b, (done a b ∨ (a = i ∧ b < m + 1)) → (done a b ∨ (a = i ∧ b < m)) ∨ (a = i ∧ b = m) := fun a b hd => by
      rcases hd with hd | ⟨rfl, hd⟩
      · exact .inl (.inl hd)
      · by_cases e : b = m
        · exact .inr ⟨rfl, e⟩
        · exact .inl (.inr ⟨rfl, by omega⟩)
    cases hc : (joinB roads (ix p i) (ix p m) w).2 && (!(ix p i == ix p m)) with
    | false =>
      rw [cond_false]
      refine ⟨g.lo, g.hi, g.sound, g.mem, g.diag, fun a b hd ha hb => ?_⟩
      rcases mono a b hd with hd | ⟨rfl, rfl⟩
      · exact g.all a b hd ha hb
      · by_cases e : a = b
        · subst e; exact g.all a a (.inl hdi) ha hb
        · have hne : ¬ ix p a = ix p b := fun h => e (ix_inj ok.nodup ha hb h)
          refine ⟨fun h => absurd h e, fun q hq => ?_⟩
          have : (ix p a == ix p b) = false := beq_eq_false_iff_ne.2 hne
          rw [this, Bool.not_false, Bool.and_true, spec.1] at hc
          obtain ⟨r, h1, h2, _⟩ := hq
          exact absurd h2 (List.any_eq_false.1 hc r h1)
    | true =>
      rw [Bool.and_eq_true, Bool.not_eq_true', beq_eq_false_iff_ne] at hc
      obtain ⟨⟨r, hr, hcr, hmr⟩, hmin⟩ := spec.2 hc.1
      have lo := ok.lo r hr
      have hi' := ok.hi r hr
      rw [cond_true]
      refine ⟨fun a b v hv => ?_, fun a b v hv => ?_, fun a b d hd => ?_, fun a b v hv => ?_, fun a v hv => ?_, fun a b hd ha hb => ?_⟩
      · rw [tv_put] at hv; split at hv
        · cases hv; omega
        · exact g.lo _ _ _ hv
      · rw [tv_put] at hv; split at hv
        · cases hv; omega
        · exact g.hi _ _ _ hv
      · rw [tN, tv_put] at hd; split at hd
        · rename_i e; obtain ⟨rfl, rfl⟩ := e; cases hd
          exact .edge ⟨r, hr, hcr, by omega⟩
        · exact g.sound _ _ _ hd
      · rw [tv_put] at hv; split at hv
        · rename_i e; obtain ⟨rfl, rfl⟩ := e; exact ⟨ix_mem hi, ix_mem hmm⟩
        · exact g.mem _ _ _ hv
      · rw [tv_put, if_neg (fun e => hc.2 (e.1.symm.trans e.2))] at hv
        exact g.diag _ _ hv
      · rw [tv_put]
        by_cases e : ix p a = ix p i ∧ ix p b = ix p m
        · rw [if_pos e]
          have ea := ix_inj ok.nodup ha hi e.1
          have eb := ix_inj ok.nodup hb hmm e.2
          subst ea; subst eb
          refine ⟨fun h => absurd (by rw [h]) hc.2, fun q hq => ⟨_, rfl, ?_⟩⟩
          obtain ⟨r', h1, h2, h3⟩ := hq
          have := hmin r' h1 h2
          omega
        · rw [if_neg e]
          rcases mono a b hd with hd | ⟨rfl, rfl⟩
          · exact g.all a b hd ha hb
          · exact absurd ⟨rfl, rfl⟩ e
theorem Ini.rows (ok : OkR p roads) : ∀ m, m ≤ p.length → Ini p roads w (initT p roads w m) (fun a _ => a < m) := by
  intro m
  induction m with
  | zero =>
    intro _
    exact ⟨fun a b v hv => (by cases hv), fun a b v hv => (by cases hv), fun a b v hv => (by cases hv), fun a b v hv => (by cases hv), fun a v hv => (by cases hv), fun a b hd => absurd hd (Nat.not_lt_zero _)⟩
  | succ m ih =>
    intro hm
    have g := ((ih (by omega)).diagPut ok (by omega : m < p.length)).row ok (by omega : m < p.length) (.inr ⟨rfl, rfl⟩) p.length (Nat.le_refl _)
    refine ⟨g.lo, g.hi, g.sound, g.mem, g.diag, fun a b hd ha hb => g.all a b ?_ ha hb⟩
    by_cases e : a = m
    · exact .inr ⟨e, hb⟩
    · exact .inl (.inl (by omega))
theorem walk_none {a b : Str} {l : Nat} (h : Walk (Jn roads w) (fun _ => False) a b l) : (l = 0 ∧ a = b) ∨ Jn roads w a b l := by
  cases h with
  | refl => exact .inl ⟨rfl, rfl⟩
  | edge h => exact .inr h
  | cons h hc k => exact hc.elim
theorem init_tbl (ok : OkR p roads) : Tbl (Jn roads w) p 10000 (initT p roads w p.length) ∧ TabCl (Jn roads w) (· ∈ p) (fun _ => False) (tN (initT p roads w p.length)) := by
  have g := Ini.rows (w := w) ok p.length (Nat.le_refl _)
  refine ⟨⟨fun x hx => ?_, g.lo, g.hi, g.sound, g.mem⟩, fun a b l ha hb hw => ?_⟩
  · obtain ⟨i, hi, rfl⟩ := List.mem_iff_getElem.1 hx
    have := (g.all i i hi hi hi).1 rfl
    rwa [ix_eq hi] at this
  · obtain ⟨i, hi, rfl⟩ := List.mem_iff_getElem.1 ha
    obtain ⟨j, hj, rfl⟩ := List.mem_iff_getElem.1 hb
    have ga := g.all i j hi hi hj
    rw [ix_eq hi, ix_eq hj] at ga
    rcases walk_none hw with ⟨rfl, he⟩ | h
    · have e : i = j := (List.getElem_inj ok.nodup).1 he
      exact ⟨0, by rw [tN_of (ga.1 e)]; rfl, Nat.le_refl _⟩
    · obtain ⟨v, h1, h2⟩ := ga.2 l h
      exact ⟨_, tN_of h1, by omega⟩
end
section
set_option maxRecDepth 4000
open Go
variable {p : List Str} {roads : List Road} {w : Int} {n : Nat}
theorem tab_ok (ok : OkR p roads) (w : Int) : Tbl (Jn roads w) p (10000 * 2 ^ p.length) (tabW p roads w) ∧ TabCl (Jn roads w) (· ∈ p) (· ∈ p) (tN (tabW p roads w)) := by
  obtain ⟨h1, h2⟩ := init_tbl (w := w) ok
  obtain ⟨h3, h4⟩ := h1.rounds (by decide) h2 p.length (Nat.le_refl _)
  refine ⟨h3, fun a b l ha hb hw => h4 a b l ha hb (hw.mono fun x hx => ?_)⟩
  obtain ⟨i, hi, rfl⟩ := List.mem_iff_getElem.1 hx
  exact ⟨i, hi, (ix_eq hi).symm⟩
theorem tab_dist (ok : OkR p roads) (w : Int) {a b : Str} (ha : a ∈ p) (hb : b ∈ p) : IsDist (Jn roads w) a b (tN (tabW p roads w) a b) :=
  TabCl.dist (P := fun x => x ∈ p) (a := a) (b := b) (fun a b m h => ⟨(Jn_mem ok h).1, (Jn_mem ok h).2.1⟩) (tab_ok ok w).2 (tab_ok ok w).1.sound ha hb
theorem pow_bound {m : Nat} (h : m ≤ 20) : (10000 : Int) * 2 ^ m ≤ 10485760000 := by
  have : (2 : Int) ^ m ≤ 2 ^ 20 := by
    have h2 : (2 : Nat) ^ m ≤ 2 ^ 20 := Nat.pow_le_pow_right (by decide) h
    have h3 : ((2 ^ m : Nat) : Int) ≤ ((2 ^ 20 : Nat) : Int) := by omega
    simpa using h3
  have e : (2 : Int) ^ 20 = 1048576 := by decide
  omega
theorem bif_app {α β : Type} (f : α → β) (c : Bool) (x y : α) : (bif c then f x else f y) = f (bif c then x else y) := by cases c <;> rfl
theorem row_in (t' : List Str) (g : List Grand) (ch ls : Int) (c : List (Int × Tab)) (hn : 1000 < n) (ok : OkR p roads) {i : Nat} (hi : i < p.length) (t : Tab) (k : Tab → Option (Tab × List (Int × Tab))) :
    loopN (diary_plan_distances_L1 n p t' roads g ch ls c w i k) n (0, t) = k (initRow p roads w i t p.length) := by
  have hl := ok.len
  have hr := ok.rlen
  refine loop_fold' (st := initRow p roads w i t) (len := p.length) (fun back v hv => ?_) (fun back => ?_) n (by omega) rfl
  · rw [diary_plan_distances_L1]
    simp only [hv, decide_true, cond_true, withK_eq, joined_eq p t' roads g ch ls c (ix p i) (ix p v) w hn (by omega), Option.bind_some, nI_of (by omega : v + 1 ≤ 9223372036854775807), chk_t, initRow]
    cases (joinB roads (ix p i) (ix p v) w).2 && (!(ix p i == ix p v)) <;> rfl
  · rw [diary_plan_distances_L1]; simp
theorem init_in (t' : List Str) (g : List Grand) (ch ls : Int) (c : List (Int × Tab)) (hn : 1000 < n) (ok : OkR p roads) (k : Tab → Option (Tab × List (Int × Tab))) :
    loopN (diary_plan_distances_L2 n p t' roads g ch ls c w k) n (0, []) = k (initT p roads w p.length) := by
  have hl := ok.len
  refine loop_fold' (st := initT p roads w) (len := p.length) (fun back v hv => ?_) (fun back => ?_) n (by omega) rfl
  · rw [diary_plan_distances_L2]
    simp only [hv, decide_true, cond_true, withK_eq, row_in t' g ch ls c hn ok hv, nI_of (by omega : v + 1 ≤ 9223372036854775807), chk_t, initT]
  · rw [diary_plan_distances_L2]; simp
theorem rowJ_in (hn : 1000 < n) (hl : p.length ≤ 20) {k i : Nat} (hk : k < p.length) (hi : i < p.length) {B : Int} (hB : B ≤ 10485760000) {J : Str → Str → Nat → Prop} {t : Tab} (h : Rnd J p k B t) (kk : Tab → Option (Tab × List (Int × Tab))) :
    loopN (diary_plan_distances_L3 p k i kk) n (0, t) = kk (fwJ p k i t p.length) := by
  refine loop_fold' (st := fwJ p k i t) (len := p.length) (fun back v hv => ?_) (fun back => ?_) n (by omega) rfl
  · obtain ⟨r, _, _⟩ := h.rowJ hk hi v (by omega)
    have hs : ∀ g : Bool, (!g || inI (Option.getD (tv (fwJ p k i t v) (ix p i) (ix p k)) 0 + Option.getD (tv (fwJ p k i t v) (ix p k) (ix p v)) 0)) = true := fun g => by
      have b1 : 0 ≤ Option.getD (tv (fwJ p k i t v) (ix p i) (ix p k)) 0 ∧ Option.getD (tv (fwJ p k i t v) (ix p i) (ix p k)) 0 ≤ 20971520000 := by
        cases e : tv (fwJ p k i t v) (ix p i) (ix p k) with
        | none => exact ⟨by decide, by decide⟩
        | some x => have h1 := r.lo _ _ _ e; have h2 := r.hi _ _ _ e; exact ⟨h1, by simp only [Option.getD_some]; omega⟩
      have b2 : 0 ≤ Option.getD (tv (fwJ p k i t v) (ix p k) (ix p v)) 0 ∧ Option.getD (tv (fwJ p k i t v) (ix p k) (ix p v)) 0 ≤ 20971520000 := by
        cases e : tv (fwJ p k i t v) (ix p k) (ix p v) with
        | none => exact ⟨by decide, by decide⟩
        | some x => have h1 := r.lo _ _ _ e; have h2 := r.hi _ _ _ e; exact ⟨h1, by simp only [Option.getD_some]; omega⟩
      rw [inI_of (by omega) (by omega), Bool.or_true]
    have hs2 : inI (Option.getD (tv (fwJ p k i t v) (ix p i) (ix p k)) 0 + Option.getD (tv (fwJ p k i t v) (ix p k) (ix p v)) 0) = true := by simpa using hs true
    rw [diary_plan_distances_L3]
    simp only [hv, decide_true, cond_true, withK_eq, nI_of (by omega : v + 1 ≤ 9223372036854775807), chk_t]
    simp only [tv] at hs hs2
    rw [chk_of (hs _), chk_of hs2]
    simp only [fwJ, fwStep, tv]
    exact bif_app (fun z => back (v + 1, z)) _ _ _
  · rw [diary_plan_distances_L3]; simp
theorem rowI_in (hn : 1000 < n) (hl : p.length ≤ 20) {k : Nat} (hk : k < p.length) {B : Int} (hB : B ≤ 10485760000) {J : Str → Str → Nat → Prop} {t : Tab} (h : Rnd J p k B t) (kk : Tab → Option (Tab × List (Int × Tab))) :
    loopN (diary_plan_distances_L4 n p k kk) n (0, t) = kk (fwI p k t p.length) := by
  refine loop_fold' (st := fwI p k t) (len := p.length) (fun back v hv => ?_) (fun back => ?_) n (by omega) rfl
  · obtain ⟨r, _, _⟩ := h.rowsI hk v (by omega)
    rw [diary_plan_distances_L4]
    simp only [hv, decide_true, cond_true, withK_eq, rowJ_in hn hl hk hv hB r, nI_of (by omega : v + 1 ≤ 9223372036854775807), chk_t, fwI]
  · rw [diary_plan_distances_L4]; simp
theorem rowK_in (hn : 1000 < n) (ok : OkR p roads) (w : Int) (kk : Tab → Option (Tab × List (Int × Tab))) :
    loopN (diary_plan_distances_L5 n p kk) n (0, initT p roads w p.length) = kk (tabW p roads w) := by
  have hl := ok.len
  obtain ⟨h1, h2⟩ := init_tbl (w := w) ok
  refine loop_fold' (st := fwK p (initT p roads w p.length)) (len := p.length) (fun back v hv => ?_) (fun back => ?_) n (by omega) rfl
  · obtain ⟨r, _⟩ := h1.rounds (by decide) h2 v (by omega)
    have hB : (10000 : Int) * 2 ^ v ≤ 10485760000 := pow_bound (by omega)
    have hB0 : (0 : Int) ≤ 10000 * 2 ^ v := Int.mul_nonneg (by decide) (Int.pow_nonneg (by decide))
    rw [diary_plan_distances_L5]
    simp only [hv, decide_true, cond_true, withK_eq, rowI_in hn hl hv hB (r.rnd hB0 v), nI_of (by omega : v + 1 ≤ 9223372036854775807), chk_t, fwK]
  · rw [diary_plan_distances_L5]; simp [tabW]
def OkC (p : List Str) (roads : List Road) (c : List (Int × Tab)) : Prop := ∀ w t, List.lookup w c = some t → t = tabW p roads w
theorem distances_eq (t' : List Str) (g : List Grand) (ch ls : Int) {c : List (Int × Tab)} (hn : 1000 < n) (ok : OkR p roads) (hc : OkC p roads c) (w : Int) :
    ∃ c', diary_plan_distances n p t' roads g ch ls c w = some (tabW p roads w, c') ∧ OkC p roads c' := by
  rw [diary_plan_distances]
  simp only [withK_eq]
  cases e : List.lookup w c with
  | some t =>
    have := hc w t e
    subst this
    exact ⟨c, rfl, hc⟩
  | none =>
    simp only [Option.isSome_none, cond_false, init_in t' g ch ls c hn ok, rowK_in hn ok w]
    refine ⟨_, rfl, fun w' t h => ?_⟩
    rw [lookup_mPut] at h
    by_cases hw : w' = w
    · subst hw
      rw [beq_self_eq_true, cond_true] at h
      cases h; rfl
    · rw [beq_eq_false_iff_ne.2 hw, cond_false] at h
      exact hc w' t h
theorem OkC.nil : OkC p roads [] := fun w t h => by cases h
def distW (p : List Str) (roads : List Road) (a b : Str) (w : Int) : Option Int := tv (tabW p roads w) a b
theorem distance_eq (t' : List Str) (g : List Grand) (ch ls : Int) {c : List (Int × Tab)} (hn : 1000 < n) (ok : OkR p roads) (hc : OkC p roads c) (a b : Str) (w : Int) :
    ∃ c', diary_plan_distance n p t' roads g ch ls c a b w = some (Option.getD (distW p roads a b w) 0, (distW p roads a b w).isSome, c') ∧ OkC p roads c' := by
  obtain ⟨c', h1, h2⟩ := distances_eq t' g ch ls hn ok hc w
  exact ⟨c', by rw [diary_plan_distance, h1]; rfl, h2⟩
theorem distW_rng (ok : OkR p roads) {a b : Str} {w v : Int} (h : distW p roads a b w = some v) : 0 ≤ v ∧ v ≤ 10485760000 := by
  have t := (tab_ok ok w).1
  have hb := pow_bound ok.len
  have := t.hi _ _ _ h
  exact ⟨t.lo _ _ _ h, by omega⟩
theorem distW_dist (ok : OkR p roads) {a b : Str} (ha : a ∈ p) (hb : b ∈ p) (w : Int) : IsDist (Jn roads w) a b ((distW p roads a b w).map Int.toNat) := tab_dist ok w ha hb
end
section
set_option maxRecDepth 4000
theorem nodupLen {α : Type} [DecidableEq α] : ∀ (l m : List α), l.Nodup → (∀ x ∈ l, x ∈ m) → l.length ≤ m.length
  | [], _, _, _ => Nat.zero_le _
  | a :: l, m, h, hs => by
    have ha : a ∈ m := hs a (by simp)
    have h2 := List.nodup_cons.1 h
    have := nodupLen l (m.erase a) h2.2 fun x hx => (List.mem_erase_of_ne (by rintro rfl; exact h2.1 hx)).2 (hs x (by simp [hx]))
    rw [List.length_erase_of_mem ha] at this
    have hm := List.length_pos_of_mem ha
    simp only [List.length_cons]; omega
theorem nodupMap {α β : Type} {f : α → β} : ∀ {l : List α}, l.Nodup → (∀ x ∈ l, ∀ y ∈ l, f x = f y → x = y) → (l.map f).Nodup
  | [], _, _ => List.nodup_nil
  | a :: l, h, hf => by
    have h2 := List.nodup_cons.1 h
    rw [List.map_cons, List.nodup_cons]
    refine ⟨fun hm => ?_, nodupMap h2.2 fun x hx y hy => hf x (by simp [hx]) y (by simp [hy])⟩
    obtain ⟨x, hx, e⟩ := List.mem_map.1 hm
    have := hf x (by simp [hx]) a (by simp) e
    subst this
    exact h2.1 hx
theorem injLen {α β : Type} [DecidableEq β] {A : List α} {B : List β} (f : α → β) (hA : A.Nodup) (hf : ∀ x ∈ A, f x ∈ B) (hi : ∀ x ∈ A, ∀ y ∈ A, f x = f y → x = y) : A.length ≤ B.length := by
  have := nodupLen (A.map f) B (nodupMap hA hi) fun y hy => by
    obtain ⟨x, hx, rfl⟩ := List.mem_map.1 hy
    exact hf x hx
  simpa using this
structure Edf (N : Nat) (fr to slot : Nat → Int) : Prop where
  win : ∀ i, i < N → 0 ≤ fr i ∧ fr i < to i
  und : ∀ i, i < N → slot i = -1 ∨ fr i ≤ slot i ∧ slot i < to i
  inj : ∀ i j, i < N → j < N → slot i = slot j → slot i ≠ -1 → i = j
  due : ∀ (s : Int) u, 0 ≤ s → u < N → fr u ≤ s → s < to u → (slot u = -1 ∨ s < slot u) → ∃ i, i < N ∧ slot i = s ∧ to i ≤ to u
structure Slotted (N : Nat) (fr to slot : Nat → Int) : Prop where
  und : ∀ i, i < N → slot i = -1 ∨ fr i ≤ slot i ∧ slot i < to i
  inj : ∀ i j, i < N → j < N → slot i = slot j → slot i ≠ -1 → i = j
variable {N : Nat} {fr to slot : Nat → Int}
theorem least_from (p : Nat → Prop) : ∀ n, p n → ∃ a, a ≤ n ∧ p a ∧ (∀ a', a' + 1 = a → ¬ p a')
  | 0, h => ⟨0, Nat.le_refl _, h, fun _ h => by omega⟩
  | n + 1, h => by
    by_cases hp : p n
    · obtain ⟨a, h1, h2, h3⟩ := least_from p n hp
      exact ⟨a, by omega, h2, h3⟩
    · refine ⟨n + 1, Nat.le_refl _, h, fun a' e => ?_⟩
      have : a' = n := by omega
      rw [this]; exact hp
theorem Edf.block (h : Edf N fr to slot) {t : Nat} (ht : t < N) (hu : slot t = -1) : ∃ a : Nat, (a : Int) ≤ fr t ∧ ∀ s : Int, (a : Int) ≤ s → s < to t → ∃ i, i < N ∧ slot i = s ∧ (a : Int) ≤ fr i ∧ to i ≤ to t := by
  obtain ⟨w1, w2⟩ := h.win t ht
  let good (s : Int) : Prop := ∃ i, i < N ∧ slot i = s ∧ to i ≤ to t
  have hst : ∀ s : Int, (((fr t).toNat : Nat) : Int) ≤ s → s < to t → good s := fun s h1 h2 => h.due s t (by omega) ht (by omega) h2 (.inl hu)
  obtain ⟨a, ha, hp, hmin⟩ := least_from (fun a => ∀ s : Int, (a : Int) ≤ s → s < to t → good s) _ hst
  refine ⟨a, by omega, fun s h1 h2 => ?_⟩
  obtain ⟨i, hi, hs, hto⟩ := hp s h1 h2
  refine ⟨i, hi, hs, ?_, hto⟩
  by_cases c : (a : Int) ≤ fr i
  · exact c
  · exfalso
    have hfi := (h.win i hi).1
    obtain ⟨a', rfl⟩ : ∃ a', a = a' + 1 := ⟨a - 1, by omega⟩
    refine hmin a' rfl fun s' h3 h4 => ?_
    by_cases e : ((a' + 1 : Nat) : Int) ≤ s'
    · exact hp s' e h4
    · have e' : s' = a' := by omega
      subst e'
      have hw := h.und i hi
      obtain ⟨j, hj, hjs, hjt⟩ := h.due (a' : Int) i (by omega) hi (by omega) (by omega) (.inr (by omega))
      exact ⟨j, hj, hjs, by omega⟩
noncomputable def blockA (N : Nat) (fr to slot : Nat → Int) (t : Nat) : Nat := @dite Nat (∃ a : Nat, (a : Int) ≤ fr t ∧ ∀ s : Int, (a : Int) ≤ s → s < to t → ∃ i, i < N ∧ slot i = s ∧ (a : Int) ≤ fr i ∧ to i ≤ to t) (Classical.propDecidable _) (fun h => Classical.choose h) fun _ => 0
theorem Edf.blockA (h : Edf N fr to slot) {t : Nat} (ht : t < N) (hu : slot t = -1) : (As.blockA N fr to slot t : Int) ≤ fr t ∧ ∀ s : Int, (As.blockA N fr to slot t : Int) ≤ s → s < to t → ∃ i, i < N ∧ slot i = s ∧ (As.blockA N fr to slot t : Int) ≤ fr i ∧ to i ≤ to t := by
  unfold As.blockA
  rw [dif_pos (h.block ht hu)]
  exact Classical.choose_spec (h.block ht hu)
def doneL (N : Nat) (slot : Nat → Int) : List Nat := (List.range N).filter fun i => decide (slot i ≠ -1)
theorem mem_doneL {i : Nat} : i ∈ doneL N slot ↔ i < N ∧ slot i ≠ -1 := by simp [doneL]
theorem doneL_nodup : (doneL N slot).Nodup := List.Nodup.sublist List.filter_sublist List.nodup_range
def Tight (N : Nat) (fr to slot : Nat → Int) (s : Int) : Prop := ∃ t, t < N ∧ slot t = -1 ∧ (blockA N fr to slot t : Int) ≤ s ∧ s < to t
def Within (fr to : Nat → Int) (Z : Int → Prop) (i : Nat) : Prop := ∀ s, fr i ≤ s → s < to i → Z s
theorem Edf.tight (h : Edf N fr to slot) {s : Int} (hs : Tight N fr to slot s) : ∃ i, i < N ∧ slot i = s ∧ Within fr to (Tight N fr to slot) i := by
  obtain ⟨t, h1, h2, h3, h4⟩ := hs
  obtain ⟨g1, g2⟩ := h.blockA h1 h2
  obtain ⟨i, hi, e, k1, k2⟩ := g2 s h3 h4
  exact ⟨i, hi, e, fun s' q1 q2 => ⟨t, h1, h2, by omega, by omega⟩⟩
theorem Edf.most (h : Edf N fr to slot) {sl : Nat → Int} (hs : Slotted N fr to sl) : (doneL N sl).length ≤ (doneL N slot).length := by
  classical
  let Z := Tight N fr to slot
  have hex : ∀ s, Z s → ∃ i, i < N ∧ slot i = s ∧ Within fr to Z i := fun s hz => h.tight hz
  let f : Nat → Nat := fun i => if hw : Within fr to Z i ∧ Z (sl i) then Classical.choose (hex (sl i) hw.2) else i
  have fin : ∀ i, i < N → sl i ≠ -1 → Within fr to Z i → f i < N ∧ slot (f i) = sl i ∧ Within fr to Z (f i) := by
    intro i hi hd hw
    have hz : Z (sl i) := by
      rcases hs.und i hi with e | ⟨e1, e2⟩
      · exact absurd e hd
      · exact hw _ e1 e2
    have : f i = Classical.choose (hex (sl i) hz) := by simp only [f]; rw [dif_pos ⟨hw, hz⟩]
    rw [this]
    exact Classical.choose_spec (hex (sl i) hz)
  have fout : ∀ i, ¬ Within fr to Z i → f i = i := by
    intro i hw
    simp only [f]; rw [dif_neg (fun e => hw e.1)]
  refine injLen f doneL_nodup (fun i hi => ?_) (fun i hi j hj e => ?_)
  · obtain ⟨h1, h2⟩ := mem_doneL.1 hi
    rw [mem_doneL]
    by_cases hw : Within fr to Z i
    · obtain ⟨g1, g2, _⟩ := fin i h1 h2 hw
      exact ⟨g1, by rw [g2]; exact h2⟩
    · rw [fout i hw]
      refine ⟨h1, fun e => hw fun s q1 q2 => ⟨i, h1, e, ?_, q2⟩⟩
      have := (h.blockA h1 e).1
      omega
  · obtain ⟨h1, h2⟩ := mem_doneL.1 hi
    obtain ⟨h3, h4⟩ := mem_doneL.1 hj
    by_cases hw : Within fr to Z i
    · obtain ⟨g1, g2, g3⟩ := fin i h1 h2 hw
      by_cases hv : Within fr to Z j
      · obtain ⟨k1, k2, k3⟩ := fin j h3 h4 hv
        rw [e] at g2
        exact hs.inj i j h1 h3 (g2.symm.trans k2) h2
      · rw [fout j hv] at e
        rw [e] at g3
        exact absurd g3 hv
    · rw [fout i hw] at e
      by_cases hv : Within fr to Z j
      · obtain ⟨k1, k2, k3⟩ := fin j h3 h4 hv
        rw [← e] at k3
        exact absurd k3 hw
      · rw [fout j hv] at e
        exact e
end
section
set_option maxRecDepth 4000
section
variable {α : Type} {J : α → α → Nat → Prop}
theorem Walk.last {a b : α} {l : Nat} (h : Walk J (fun _ => True) a b l) : (l = 0 ∧ a = b) ∨ ∃ c m l', Walk J (fun _ => True) a c l' ∧ J c b m ∧ l' + m = l := by
  induction h with
  | refl a => exact .inl ⟨rfl, rfl⟩
  | @edge a b m h => exact .inr ⟨a, m, 0, .refl a, h, by omega⟩
  | @cons a c b m l h _ _ ih =>
    rcases ih with ⟨rfl, rfl⟩ | ⟨c', m', l', h1, h2, h3⟩
    · exact .inr ⟨a, m, 0, .refl a, h, by omega⟩
    · exact .inr ⟨c', m', m + l', .cons h trivial h1, h2, by omega⟩
end
end
section
set_option maxRecDepth 4000
open Go
variable {d : Diary} {n : Nat} {w : Int}
def orNeg (s : Int × Bool) : Int := bif s.2 then s.1 else -1
theorem join_road (ok : OkR d.Places d.Roads) (a b : Str) (w : Int) : (orNeg (joinB d.Roads a b w) < 0 ∧ ∀ m, ¬ Jn d.Roads w a b m) ∨ (∃ m : Nat, orNeg (joinB d.Roads a b w) = ((m : Nat) : Int) ∧ m ≤ 10000 ∧ Jn d.Roads w a b m ∧ ∀ m', Jn d.Roads w a b m' → m ≤ m') := by
  have spec := joinB_spec a b w d.Roads
  generalize joinB d.Roads a b w = s at spec
  obtain ⟨x, y⟩ := s
  cases y with
  | false =>
    refine .inl ⟨by simp [orNeg], fun m hm => ?_⟩
    obtain ⟨r, h1, h2, _⟩ := hm
    exact absurd h2 (List.any_eq_false.1 spec.1.symm r h1)
  | true =>
    obtain ⟨⟨r, h1, h2, h3⟩, h4⟩ := spec.2 rfl
    simp only at h3 h4
    have lo := ok.lo r h1
    have hi := ok.hi r h1
    refine .inr ⟨x.toNat, by simp only [orNeg, cond_true]; omega, by omega, ⟨r, h1, h2, by omega⟩, fun m' hm => ?_⟩
    obtain ⟨r', g1, g2, g3⟩ := hm
    have := h4 r' g1 g2
    omega
def val (x : Int) : Option Nat := if x < 0 then none else some x.toNat
structure Bf (d : Diary) (s : Nat) (w : Int) (B : Int) (v : List Int) : Prop where
  len : v.length = d.Places.length
  zero : ix v s = 0
  hi : ∀ j, j < v.length → ix v j ≤ B
  lo : ∀ j, j < v.length → -1 ≤ ix v j
  sound : ∀ j, j < v.length → 0 ≤ ix v j → Walk (Jn d.Roads w) (fun _ => True) (ix d.Places s) (ix d.Places j) (ix v j).toNat
theorem Bf.mono {s : Nat} {B B' : Int} {v : List Int} (h : Bf d s w B v) (hB : B ≤ B') : Bf d s w B' v := ⟨h.len, h.zero, fun j hj => Int.le_trans (h.hi j hj) hB, h.lo, h.sound⟩
def Less (v v' : List Int) : Prop := ∀ j, j < v.length → 0 ≤ ix v j → 0 ≤ ix v' j ∧ ix v' j ≤ ix v j
theorem Less.refl (v : List Int) : Less v v := fun _ _ h => ⟨h, Int.le_refl _⟩
theorem Less.trans {u v x : List Int} (h : Less u v) (g : Less v x) (hl : u.length = v.length) : Less u x := fun j hj h0 => by
  have h1 := h j hj h0
  have h2 := g j (by omega) h1.1
  exact ⟨h2.1, by omega⟩
def skipB (v : List Int) (i j : Nat) (y : Int) : Bool := ((decide ((ix v i) < (0 : Int))) || (decide (y < (0 : Int)))) || ((decide ((0 : Int) ≤ (ix v j))) && (decide ((ix v j) ≤ ((ix v i) + y))))
def bfStep (d : Diary) (w : Int) (i j : Nat) (s : Bool × List Int) : Bool × List Int :=
  bif skipB s.2 i j (orNeg (joinB d.Roads (ix d.Places i) (ix d.Places j) w)) then s else (true, s.2.set j (ix s.2 i + orNeg (joinB d.Roads (ix d.Places i) (ix d.Places j) w)))
def bfJ (d : Diary) (w : Int) (i : Nat) (s : Bool × List Int) : Nat → Bool × List Int
  | 0 => s
  | j + 1 => bfStep d w i j (bfJ d w i s j)
def bfI (d : Diary) (w : Int) (s : Bool × List Int) : Nat → Bool × List Int
  | 0 => s
  | i + 1 => bfJ d w i (bfI d w s i) d.Places.length
theorem ix_set {v : List Int} {j k : Nat} {x : Int} (hj : j < v.length) : ix (v.set j x) k = if k = j then x else ix v k := by
  by_cases h : k = j
  · subst h
    rw [if_pos rfl, ix_eq (by simpa using hj)]; simp
  · rw [if_neg h]
    simp only [ix, List.getD, List.getElem?_set_ne (Ne.symm h)]
theorem Bf.step {s : Nat} {B : Int} {v : List Int} {c : Bool} (ok : OkR d.Places d.Roads) (hs : s < d.Places.length) (h : Bf d s w B v) {i j : Nat} (hi : i < d.Places.length) (hj : j < d.Places.length) :
    Bf d s w (B + 10000) (bfStep d w i j (c, v)).2 ∧ Less v (bfStep d w i j (c, v)).2 ∧ (∀ m, 0 ≤ ix v i → Jn d.Roads w (ix d.Places i) (ix d.Places j) m → 0 ≤ ix (bfStep d w i j (c, v)).2 j ∧ ix (bfStep d w i j (c, v)).2 j ≤ ix v i + ((m : Nat) : Int)) ∧
      ((bfStep d w i j (c, v)).1 = false → c = false ∧ (bfStep d w i j (c, v)).2 = v) ∧ (c = false → (bfStep d w i j (c, v)).1 = true → ¬ ∀ q, q < v.length → ∀ l, Walk (Jn d.Roads w) (fun _ => True) (ix d.Places s) (ix d.Places q) l → 0 ≤ ix v q ∧ ix v q ≤ ((l : Nat) : Int)) := by
  have hl := h.len
  rw [bfStep]
  have road := join_road ok (ix d.Places i) (ix d.Places j) w
  generalize orNeg (joinB d.Roads (ix d.Places i) (ix d.Places j) w) = y at road
  simp only
  cases hsk : skipB v i j y with
  | true =>
    simp only [cond_true]
    refine ⟨h.mono (by omega), Less.refl v, fun m h0 hm => ?_, fun hc => ⟨hc, trivial⟩, fun hc ht => by rw [hc] at ht; cases ht⟩
    rcases road with ⟨hy, hno⟩ | ⟨m0, hy, _, hm0, hmin⟩
    · exact absurd hm (hno m)
    · have := hmin m hm
      rw [skipB, decide_eq_false (by omega : ¬ ix v i < 0), decide_eq_false (by omega : ¬ y < 0)] at hsk
      simp only [Bool.or_self, Bool.false_or, Bool.and_eq_true, decide_eq_true_eq] at hsk
      exact ⟨hsk.1, by omega⟩
  | false =>
    simp only [cond_false]
    rw [skipB] at hsk
    simp only [Bool.or_eq_false_iff, decide_eq_false_iff_not, Bool.and_eq_false_iff] at hsk
    obtain ⟨⟨h1, h2⟩, h3⟩ := hsk
    rcases road with ⟨hy, _⟩ | ⟨m0, hy, hb, hm0, hmin⟩
    · exact absurd hy h2
    have hjv : j < v.length := by omega
    have hiv : i < v.length := by omega
    have hsv : s < v.length := by omega
    have hbi := h.hi i hiv
    have wi := h.sound i hiv (by omega)
    have wj : Walk (Jn d.Roads w) (fun _ => True) (ix d.Places s) (ix d.Places j) (ix v i + y).toNat := by
      rw [show (ix v i + y).toNat = (ix v i).toNat + m0 by omega]
      exact wi.trans trivial (.edge hm0)
    have hlt : 0 ≤ ix v j → ix v i + y < ix v j := fun h0 => by
      rcases h3 with h3 | h3
      · exact absurd h0 h3
      · omega
    have hjs : j ≠ s := fun e => by
      subst e
      have := hlt (by rw [h.zero]; exact Int.le_refl _)
      rw [h.zero] at this
      omega
    refine ⟨⟨by simpa using hl, ?_, fun q hq => ?_, fun q hq => ?_, fun q hq h0 => ?_⟩, fun q hq h0 => ?_, fun m h0 hm => ?_, fun hc => (by cases hc), fun _ _ hall => ?_⟩
    · rw [ix_set hjv, if_neg (fun e => hjs e.symm)]; exact h.zero
    · rw [ix_set hjv]
      split
      · omega
      · have := h.hi q (by simpa using hq); omega
    · rw [ix_set hjv]
      split
      · omega
      · exact h.lo q (by simpa using hq)
    · rw [ix_set hjv] at h0 ⊢
      split
      · rename_i e; subst e; exact wj
      · rename_i e; rw [if_neg e] at h0; exact h.sound q (by simpa using hq) h0
    · rw [ix_set hjv]
      split
      · rename_i e; subst e; have := hlt h0; omega
      · exact ⟨h0, Int.le_refl _⟩
    · rw [ix_set hjv, if_pos rfl]
      have := hmin m hm
      omega
    · have := hall j hjv _ wj
      have := hlt this.1
      omega
def AllR (d : Diary) (s : Nat) (w : Int) (v : List Int) : Prop := ∀ q, q < v.length → ∀ l, Walk (Jn d.Roads w) (fun _ => True) (ix d.Places s) (ix d.Places q) l → 0 ≤ ix v q ∧ ix v q ≤ ((l : Nat) : Int)
structure Did (d : Diary) (s : Nat) (w : Int) (B : Int) (v0 : List Int) (c0 : Bool) (r : Bool × List Int) (done : Nat → Nat → Prop) : Prop where
  bf : Bf d s w B r.2
  less : Less v0 r.2
  len : r.2.length = v0.length
  rel : ∀ i j, done i j → i < d.Places.length → j < d.Places.length → ∀ m, 0 ≤ ix v0 i → Jn d.Roads w (ix d.Places i) (ix d.Places j) m → 0 ≤ ix r.2 j ∧ ix r.2 j ≤ ix v0 i + ((m : Nat) : Int)
  still : r.1 = false → c0 = false ∧ r.2 = v0
  turn : c0 = false → r.1 = true → ¬ AllR d s w v0
theorem Did.step {s : Nat} {B : Int} {v0 : List Int} {c0 : Bool} {r : Bool × List Int} {done : Nat → Nat → Prop} (ok : OkR d.Places d.Roads) (hs : s < d.Places.length) (h : Did d s w B v0 c0 r done) {i j : Nat} (hi : i < d.Places.length) (hj : j < d.Places.length) :
    Did d s w (B + 10000) v0 c0 (bfStep d w i j r) (fun a b => done a b ∨ (a = i ∧ b = j)) := by
  obtain ⟨c, v⟩ := r
  have hb : Bf d s w B v := h.bf
  have hls : Less v0 v := h.less
  have hlen : v.length = v0.length := h.len
  have hrel : ∀ i j, done i j → i < d.Places.length → j < d.Places.length → ∀ m, 0 ≤ ix v0 i → Jn d.Roads w (ix d.Places i) (ix d.Places j) m → 0 ≤ ix v j ∧ ix v j ≤ ix v0 i + ((m : Nat) : Int) := h.rel
  obtain ⟨g1, g2, g3, g4, g5⟩ := hb.step (c := c) ok hs hi hj
  have hbl := hb.len
  have hbl2 := g1.len
  refine ⟨g1, hls.trans g2 hlen.symm, ?_, fun a b hd ha hb m h0 hm => ?_, fun hf => ?_, fun hc ht => ?_⟩
  · rw [hbl2, ← hbl]; exact hlen
  · rcases hd with hd | ⟨rfl, rfl⟩
    · have := hrel a b hd ha hb m h0 hm
      have := g2 b (by omega) this.1
      exact ⟨this.1, by omega⟩
    · have := hls a (by omega) h0
      have := g3 m this.1 hm
      exact ⟨this.1, by omega⟩
  · obtain ⟨e1, e2⟩ := g4 hf
    obtain ⟨e3, e4⟩ := h.still e1
    exact ⟨e3, e2.trans e4⟩
  · cases c with
    | true => exact h.turn hc rfl
    | false =>
      have e := (h.still rfl).2
      have := g5 rfl ht
      simp only at e
      subst e
      exact this
theorem Did.rowJ {s : Nat} {B : Int} {v0 : List Int} {c0 : Bool} {r : Bool × List Int} {done : Nat → Nat → Prop} (ok : OkR d.Places d.Roads) (hs : s < d.Places.length) (h : Did d s w B v0 c0 r done) {i : Nat} (hi : i < d.Places.length) :
    ∀ m, m ≤ d.Places.length → Did d s w (B + 10000 * ((m : Nat) : Int)) v0 c0 (bfJ d w i r m) (fun a b => done a b ∨ (a = i ∧ b < m)) := by
  intro m
  induction m with
  | zero =>
    intro _
    refine ⟨h.bf.mono (by omega), h.less, h.len, fun a b hd => ?_, h.still, h.turn⟩
    rcases hd with hd | ⟨_, hd⟩
    · exact h.rel a b hd
    · omega
  | succ m ih =>
    intro hm
    have g := (ih (by omega)).step ok hs hi (by omega : m < d.Places.length)
    refine ⟨g.bf.mono (by omega), g.less, g.len, fun a b hd => g.rel a b ?_, g.still, g.turn⟩
    rcases hd with hd | ⟨rfl, hd⟩
    · exact .inl (.inl hd)
    · by_cases e : b = m
      · exact .inr ⟨rfl, e⟩
      · exact .inl (.inr ⟨rfl, by omega⟩)
theorem Did.rowsI {s : Nat} {B : Int} {v0 : List Int} {c0 : Bool} (ok : OkR d.Places d.Roads) (hs : s < d.Places.length) (h : Bf d s w B v0) :
    ∀ m, m ≤ d.Places.length → Did d s w (B + 200000 * ((m : Nat) : Int)) v0 c0 (bfI d w (c0, v0) m) (fun a _ => a < m) := by
  intro m
  induction m with
  | zero =>
    intro _
    refine ⟨h.mono (by omega), Less.refl v0, rfl, fun a b hd => absurd hd (Nat.not_lt_zero _), fun hf => ⟨hf, rfl⟩, fun hc ht => ?_⟩
    have ht : c0 = true := ht
    rw [hc] at ht; cases ht
  | succ m ih =>
    intro hm
    have hl := ok.len
    have g := (ih (by omega)).rowJ ok hs (by omega : m < d.Places.length) d.Places.length (Nat.le_refl _)
    refine ⟨g.bf.mono (by omega), g.less, g.len, fun a b hd ha hb => g.rel a b ?_ ha hb, g.still, g.turn⟩
    by_cases e : a = m
    · exact .inr ⟨e, hb⟩
    · exact .inl (by omega)
end
section
set_option maxRecDepth 4000
open Go
variable {d : Diary} {n : Nat} {w : Int}
def distZ (d : Diary) (a b : Str) (w : Int) : Int := match distW d.Places d.Roads a b w with | some x => x | none => -1
end
section
set_option maxRecDepth 4000
open Go
variable {d : Diary} {n : Nat} {w : Int}
theorem Distance_eq (ok : OkR d.Places d.Roads) (hn : 1000 < n) {c : List (Int × Tab)} (hc : OkC d.Places d.Roads c) (a b : Str) (w : Int) :
    ∃ c', diary_plan_distance n d.Places d.Technicians d.Roads d.Grands d.Change d.Lasts c a b w = some (Option.getD (distW d.Places d.Roads a b w) 0, (distW d.Places d.Roads a b w).isSome, c') ∧ OkC d.Places d.Roads c' :=
  distance_eq d.Technicians d.Grands d.Change d.Lasts hn ok hc a b w
end
section
set_option maxRecDepth 4000
open Go
variable {d : Diary} {n : Nat} {w : Int}
theorem open_eq (d : Diary) (hd : OkD d) (hn : 1000 < n) : diary_open n d = some (bif diaryD d != 0 then .inl (diaryD d) else .inr ()) := by
  rw [diary_open, CheckDiary_eq d hd hn]
  simp only [Option.bind_some]
  cases diaryD d != 0 <;> rfl
def noPlace (d : Diary) (s : Str) : Bool := !d.Places.any (isS s)
theorem isPlace_eq (d : Diary) (hn : 1000 < n) (hp : d.Places.length ≤ 900) (c : List (Int × Tab)) (s : Str) : diary_plan_isPlace_2 n d.Places d.Technicians d.Roads d.Grands d.Change d.Lasts c s = some (d.Places.any (isS s)) := by
  rw [diary_plan_isPlace_2, Contains_eq (n := n) d.Places s (by omega) (by omega)]; rfl
theorem CheckPlace_eq (d : Diary) (hn : 1000 < n) (hp : d.Places.length ≤ 900) (s : Str) : agrafferef09_CheckPlace n d s = some (bif noPlace d s then 6 else 0) := by
  rw [agrafferef09_CheckPlace, place_eq d s (by omega) (by omega)]
  simp only [Option.bind_some, findI_none, noPlace]
  cases d.Places.any (isS s) <;> rfl
theorem CheckEnds_eq (d : Diary) (hn : 1000 < n) (hp : d.Places.length ≤ 900) (l : List Str) (hl : l.length ≤ 900) (w : Int) : agrafferef09_CheckEnds n d l w = some (bif l.any (noPlace d) then 6 else bif !isW w then 2 else 0) := by
  rw [agrafferef09_CheckEnds, withK_eq, loop_any' (l := l) (p := noPlace d) (bad := some 6) (no := some (bif !isW w then 2 else 0)) (fun back v hv => ?_) (fun back => ?_) n (by omega)]
  · cases l.any (noPlace d) <;> rfl
  · rw [agrafferef09_CheckEnds_L1]
    simp only [hv, CheckPlace_eq d hn hp, Option.bind_some, decide_true, cond_true, nI_of (by omega : v + 1 ≤ 9223372036854775807), chk_t]
    cases noPlace d (ix l v) <;> rfl
  · rw [agrafferef09_CheckEnds_L1]
    simp only [Nat.lt_irrefl, decide_false, cond_false, agrafferef09_IsWidth, agraffebase_Within, Option.bind_some]
    show (bif !isW w then _ else _) = _
    cases isW w <;> rfl
def legJ (d : Diary) (l : List Str) (w : Int) (v : Nat) : Int × Bool := joinB d.Roads (ix l (v - 1)) (ix l v) w
def legE (d : Diary) (l : List Str) (w : Int) (v : Nat) : Int := bif !(legJ d l w v).2 then 14 else 0
def sumR (d : Diary) (l : List Str) (w : Int) : Nat → Int
  | 0 => 0
  | v + 1 => bif decide (v = 0) then 0 else sumR d l w v + (legJ d l w v).1
theorem sumR_one (l : List Str) : sumR d l w 1 = 0 := rfl
theorem sumR_succ {l : List Str} {v : Nat} (h : 1 ≤ v) : sumR d l w (v + 1) = sumR d l w v + (legJ d l w v).1 := by
  rw [sumR, decide_eq_false (by omega : ¬ v = 0), cond_false]
end
section
set_option maxRecDepth 4000
open Go
variable {d : Diary} {n : Nat} {w : Int}
theorem joinB_of (roads : List Road) (a b : Str) (w : Int) (h : (joinB roads a b w).2 = true) (lo : ∀ r ∈ roads, 1 ≤ r.Minutes) (hi : ∀ r ∈ roads, r.Minutes ≤ 10000) :
    1 ≤ (joinB roads a b w).1 ∧ (joinB roads a b w).1 ≤ 10000 ∧ Jn roads w a b (joinB roads a b w).1.toNat := by
  obtain ⟨⟨r, h1, h2, h3⟩, _⟩ := (joinB_spec a b w roads).2 h
  have g1 := lo r h1
  have g2 := hi r h1
  exact ⟨by omega, by omega, r, h1, h2, by omega⟩
theorem joinB_le {roads : List Road} {a b : Str} {w : Int} {m : Nat} (h : Jn roads w a b m) : (joinB roads a b w).2 = true ∧ (joinB roads a b w).1 ≤ ((m : Nat) : Int) := by
  obtain ⟨r, h1, h2, h3⟩ := h
  have s := joinB_spec a b w roads
  have h4 : (joinB roads a b w).2 = true := by
    rw [s.1, List.any_eq_true]; exact ⟨r, h1, h2⟩
  exact ⟨h4, by rw [← h3]; exact (s.2 h4).2 r h1 h2⟩
theorem distW_walk (ok : OkR d.Places d.Roads) {a b : Str} (ha : a ∈ d.Places) (hb : b ∈ d.Places) {v : Int} (h : distW d.Places d.Roads a b w = some v) :
    Walk (Jn d.Roads w) (fun _ => True) a b v.toNat ∧ ∀ l, Walk (Jn d.Roads w) (fun _ => True) a b l → v ≤ ((l : Nat) : Int) := by
  have h1 := distW_dist ok ha hb w
  have h2 := distW_rng ok h
  rw [h] at h1
  refine ⟨h1.1 v.toNat rfl, fun l hl => ?_⟩
  obtain ⟨q, g1, g2⟩ := h1.2 l hl
  have : v.toNat = q := Option.some.inj g1
  omega
theorem walk_distW (ok : OkR d.Places d.Roads) {a b : Str} (ha : a ∈ d.Places) (hb : b ∈ d.Places) {l : Nat} (h : Walk (Jn d.Roads w) (fun _ => True) a b l) :
    ∃ v, distW d.Places d.Roads a b w = some v ∧ v ≤ ((l : Nat) : Int) := by
  obtain ⟨q, g1, g2⟩ := (distW_dist ok ha hb w).2 l h
  cases e : distW d.Places d.Roads a b w with
  | none => rw [e] at g1; cases g1
  | some v =>
    rw [e] at g1
    have : v.toNat = q := Option.some.inj g1
    have := distW_rng ok e
    exact ⟨v, rfl, by omega⟩
theorem walk_cons {J : Str → Str → Nat → Prop} {a b : Str} {l : Nat} (h : Walk J (fun _ => True) a b l) : (l = 0 ∧ a = b) ∨ ∃ c m l', J a c m ∧ Walk J (fun _ => True) c b l' ∧ l = m + l' := by
  cases h with
  | refl => exact .inl ⟨rfl, rfl⟩
  | edge h => exact .inr ⟨b, l, 0, h, .refl b, rfl⟩
  | cons h _ k => exact .inr ⟨_, _, _, h, k, rfl⟩
def goP (d : Diary) (b : Str) (w : Int) (at_ : Str) (left : Int) (y : Str) : Bool :=
  ((joinB d.Roads at_ y w).2 && (distW d.Places d.Roads y b w).isSome) && ((joinB d.Roads at_ y w).1 + (distW d.Places d.Roads y b w).getD 0 == left)
theorem go_ex (ok : OkR d.Places d.Roads) {at_ b : Str} {left : Int} (ha : at_ ∈ d.Places) (hb : b ∈ d.Places) (hne : at_ ≠ b) (hd : distW d.Places d.Roads at_ b w = some left) : ∃ y ∈ d.Places, goP d b w at_ left y = true := by
  have hr := distW_rng ok hd
  obtain ⟨h1, h2⟩ := distW_walk ok ha hb hd
  rcases walk_cons h1 with ⟨_, e⟩ | ⟨c, m, l', g1, g2, g3⟩
  · exact absurd e hne
  · have hm := Jn_mem ok g1
    obtain ⟨j1, j2⟩ := joinB_le g1
    obtain ⟨v, v1, v2⟩ := walk_distW ok hm.2.1 hb g2
    have vr := distW_rng ok v1
    obtain ⟨q1, q2, q3⟩ := joinB_of d.Roads at_ c w j1 ok.lo ok.hi
    obtain ⟨w1, _⟩ := distW_walk ok hm.2.1 hb v1
    have := h2 _ (Walk.cons q3 trivial w1)
    refine ⟨c, hm.2.1, ?_⟩
    rw [goP, j1, v1]
    simp only [Option.isSome_some, Bool.and_self, Option.getD_some, Bool.true_and, beq_iff_eq]
    omega
theorem go_ok (ok : OkR d.Places d.Roads) {at_ b y : Str} {left : Int} (h : goP d b w at_ left y = true) : (joinB d.Roads at_ y w).2 = true ∧ 1 ≤ (joinB d.Roads at_ y w).1 ∧ (joinB d.Roads at_ y w).1 ≤ 10000 ∧ distW d.Places d.Roads y b w = some (left - (joinB d.Roads at_ y w).1) := by
  rw [goP, Bool.and_eq_true, Bool.and_eq_true, beq_iff_eq] at h
  obtain ⟨⟨h1, h2⟩, h3⟩ := h
  obtain ⟨q1, q2, _⟩ := joinB_of d.Roads at_ y w h1 ok.lo ok.hi
  cases e : distW d.Places d.Roads y b w with
  | none => rw [e] at h2; cases h2
  | some v =>
    rw [e] at h3
    refine ⟨h1, q1, q2, ?_⟩
    congr 1
    simp only [Option.getD_some] at h3
    omega
theorem goIdx (ok : OkR d.Places d.Roads) (hn : 1000 < n) (at_ a b : Str) (w left : Int) : ∀ m v f (c : List (Int × Tab)), v + m = d.Places.length → m < f → OkC d.Places d.Roads c →
    ∃ c', loopN (slices_IndexFunc_string_3_L1 n d.Places d.Places d.Technicians d.Roads d.Grands d.Change d.Lasts at_ w a b left fun v5 => some (v5, (-1))) f (v, c) =
      some (c', match (d.Places.drop v).findIdx? (goP d b w at_ left) with | some i => ((v + i : Nat) : Int) | none => -1) ∧ OkC d.Places d.Roads c' := by
  have hl := ok.len
  have hr := ok.rlen
  intro m
  induction m with
  | zero =>
    intro v f c hv hf hc
    obtain ⟨f, rfl⟩ : ∃ q, f = q + 1 := ⟨f - 1, by omega⟩
    refine ⟨c, ?_, hc⟩
    rw [loopN_s, slices_IndexFunc_string_3_L1, decide_eq_false (by omega : ¬ v < d.Places.length), drop_nil (by omega : ¬ v < d.Places.length)]; rfl
  | succ m ih =>
    intro v f c hv hf hc
    obtain ⟨f, rfl⟩ : ∃ q, f = q + 1 := ⟨f - 1, by omega⟩
    have hvl : v < d.Places.length := by omega
    obtain ⟨c1, g1, hc1⟩ := Distance_eq ok hn hc (ix d.Places v) b w
    have hi : (!((joinB d.Roads at_ (ix d.Places v) w).2 && (distW d.Places d.Roads (ix d.Places v) b w).isSome) || inI ((joinB d.Roads at_ (ix d.Places v) w).1 + (distW d.Places d.Roads (ix d.Places v) b w).getD 0)) = true := by
      cases h1 : (joinB d.Roads at_ (ix d.Places v) w).2 with
      | false => rfl
      | true =>
        obtain ⟨q1, q2, _⟩ := joinB_of d.Roads at_ (ix d.Places v) w h1 ok.lo ok.hi
        cases h2 : distW d.Places d.Roads (ix d.Places v) b w with
        | none => rfl
        | some u =>
          have := distW_rng ok h2
          rw [Option.getD_some, inI_of (by omega) (by omega), Bool.or_true]
    rw [loopN_s, slices_IndexFunc_string_3_L1, decide_eq_true hvl, cond_true, drop_ix hvl, List.findIdx?_cons]
    simp only [diary_Route_f1, joined_eq d.Places d.Technicians d.Roads d.Grands d.Change d.Lasts c at_ (ix d.Places v) w hn (by omega), g1, Option.bind_some, hi, chk_t]
    show ∃ c', (bif goP d b w at_ left (ix d.Places v) then some (c1, ((v : Nat) : Int)) else _) = _ ∧ _
    cases goP d b w at_ left (ix d.Places v) with
    | true => exact ⟨c1, rfl, hc1⟩
    | false =>
      simp only [cond_false, nI_of (by omega : v + 1 ≤ 9223372036854775807), chk_t]
      obtain ⟨c2, g2, hc2⟩ := ih (v + 1) f c1 (by omega) (by omega) hc1
      refine ⟨c2, ?_, hc2⟩
      rw [g2]
      cases (d.Places.drop (v + 1)).findIdx? (goP d b w at_ left) with
      | none => rfl
      | some i =>
        simp only [Bool.false_eq_true, if_false, Option.map_some]
        rw [show v + 1 + i = v + (i + 1) by omega]
theorem goIdx_eq (ok : OkR d.Places d.Roads) (hn : 1000 < n) {c : List (Int × Tab)} (hc : OkC d.Places d.Roads c) (at_ a b : Str) (w left : Int) :
    ∃ c', slices_IndexFunc_string_3 n d.Places d.Places d.Technicians d.Roads d.Grands d.Change d.Lasts c at_ w a b left = some (c', findI (goP d b w at_ left) d.Places) ∧ OkC d.Places d.Roads c' := by
  have hl := ok.len
  obtain ⟨c', h1, h2⟩ := goIdx ok hn at_ a b w left d.Places.length 0 n c (by omega) (by omega) hc
  refine ⟨c', ?_, h2⟩
  rw [slices_IndexFunc_string_3, withK_eq, h1, List.drop_zero, findI]
  cases d.Places.findIdx? (goP d b w at_ left) <;> simp
structure RInv (d : Diary) (a b : Str) (w all : Int) (at_ : Str) (left : Int) (r : List Str) : Prop where
  mem : at_ ∈ d.Places
  dist : distW d.Places d.Roads at_ b w = some left
  ne : 1 ≤ r.length
  first : ix r 0 = a
  last : ix r (r.length - 1) = at_
  nodup : r.Nodup
  far : ∀ y ∈ r, y ∈ d.Places ∧ ∃ v, distW d.Places d.Roads y b w = some v ∧ left ≤ v
  legs : ∀ v, 1 ≤ v → v < r.length → legE d r w v = 0
  sum : sumR d r w r.length = all - left
theorem nodup_len {l m : List Str} (h : l.Nodup) (hs : ∀ x ∈ l, x ∈ m) : l.length ≤ m.length := nodupLen l m h hs
theorem ix_snoc {r : List Str} {y : Str} {v : Nat} (h : v < r.length) : ix (r ++ [y]) v = ix r v := by
  rw [ix_eq (by simp; omega), ix_eq h, List.getElem_append_left h]
theorem ix_snoc' {r : List Str} {y : Str} : ix (r ++ [y]) r.length = y := by
  rw [ix_eq (by simp), List.getElem_append_right (Nat.le_refl _)]; simp
theorem sumR_snoc {r : List Str} {y : Str} : ∀ v, v ≤ r.length → sumR d (r ++ [y]) w v = sumR d r w v
  | 0, _ => rfl
  | v + 1, h => by
    rw [sumR, sumR, sumR_snoc v (by omega)]
    by_cases h0 : v = 0
    · subst h0; rfl
    · rw [legJ, legJ, ix_snoc (by omega), ix_snoc (by omega)]
theorem RInv.next (ok : OkR d.Places d.Roads) {a b : Str} {w all : Int} {at_ : Str} {left : Int} {r : List Str} (h : RInv d a b w all at_ left r) {y : Str} (hy : y ∈ d.Places) (hg : goP d b w at_ left y = true) :
    RInv d a b w all y (left - (joinB d.Roads at_ y w).1) (r ++ [y]) := by
  obtain ⟨g1, g2, g3, g4⟩ := go_ok ok hg
  have hne := h.ne
  have hll : (r ++ [y]).length = r.length + 1 := by simp
  have hleg : legJ d (r ++ [y]) w r.length = joinB d.Roads at_ y w := by
    rw [legJ, ix_snoc (by omega), ix_snoc', h.last]
  refine ⟨hy, g4, by omega, ?_, ?_, ?_, ?_, ?_, ?_⟩
  · rw [ix_snoc (by omega), h.first]
  · rw [hll, Nat.add_sub_cancel, ix_snoc']
  · rw [List.nodup_append]
    refine ⟨h.nodup, by simp, fun x hx z hz e => ?_⟩
    rw [List.mem_singleton] at hz
    subst hz; subst e
    obtain ⟨_, v, e1, e2⟩ := h.far _ hx
    rw [g4] at e1
    have := Option.some.inj e1
    omega
  · intro z hz
    rcases List.mem_append.1 hz with hz | hz
    · obtain ⟨e0, v, e1, e2⟩ := h.far z hz
      exact ⟨e0, v, e1, by omega⟩
    · rw [List.mem_singleton] at hz
      subst hz
      exact ⟨hy, _, g4, Int.le_refl _⟩
  · intro v h1 h2
    by_cases e : v = r.length
    · rw [e, legE, hleg, g1]; rfl
    · have := h.legs v h1 (by omega)
      rw [legE, legJ] at this ⊢
      rw [ix_snoc (by omega), ix_snoc (by omega)]
      exact this
  · rw [hll, sumR_succ hne, sumR_snoc _ (Nat.le_refl _), h.sum, hleg]
    omega
theorem route_in (ok : OkR d.Places d.Roads) (hn : 1000 < n) (e : Arr2_Str) (hb : e.a1 ∈ d.Places) (w all : Int) (hall : 0 ≤ all ∧ all ≤ 10485760000) :
    ∀ m f at_ left (r : List Str) (c : List (Int × Tab)), r.length + m = d.Places.length → m + 1 < f → OkC d.Places d.Roads c → RInv d e.a0 e.a1 w all at_ left r →
      ∃ r', loopN (diary_Route_L1 n d e w fun v17 => some (0, v17, all)) f (at_, left, r, c) = some (0, r', all) ∧ RInv d e.a0 e.a1 w all e.a1 0 r' := by
  intro m
  induction m with
  | zero =>
    intro f at_ left r c hm hf hc h
    obtain ⟨f, rfl⟩ : ∃ q, f = q + 1 := ⟨f - 1, by omega⟩
    by_cases hne : at_ = e.a1
    · have hz : left = 0 := by
        have h1 := h.dist
        rw [hne] at h1
        have h2 := distW_rng ok h1
        have h3 := (distW_walk ok hb hb h1).2 0 (.refl _)
        omega
      refine ⟨r, ?_, ?_⟩
      · rw [loopN_s, diary_Route_L1, hne, beq_self_eq_true]; rfl
      · rw [hne, hz] at h; exact h
    · obtain ⟨y, hy, hg⟩ := go_ex ok h.mem hb hne h.dist
      have h2 := h.next ok hy hg
      have := nodup_len h2.nodup (fun x hx => (h2.far x hx).1)
      simp at this
      omega
  | succ m ih =>
    intro f at_ left r c hm hf hc h
    obtain ⟨f, rfl⟩ : ∃ q, f = q + 1 := ⟨f - 1, by omega⟩
    have hl := ok.len
    have hrl := ok.rlen
    by_cases hne : at_ = e.a1
    · have hz : left = 0 := by
        have h1 := h.dist
        rw [hne] at h1
        have h2 := distW_rng ok h1
        have h3 := (distW_walk ok hb hb h1).2 0 (.refl _)
        omega
      refine ⟨r, ?_, ?_⟩
      · rw [loopN_s, diary_Route_L1, hne, beq_self_eq_true]; rfl
      · rw [hne, hz] at h; exact h
    · obtain ⟨y, hy, hg⟩ := go_ex ok h.mem hb hne h.dist
      have hfi : ¬ findI (goP d e.a1 w at_ left) d.Places < 0 := fun hneg => by
        have := (findI_neg hneg).2 y hy
        rw [hg] at this; cases this
      obtain ⟨p1, p2, p3, _⟩ := findI_pos hfi
      obtain ⟨c1, g1, hc1⟩ := goIdx_eq ok hn hc at_ e.a0 e.a1 w left
      generalize hj : findI (goP d e.a1 w at_ left) d.Places = j at *
      have hyp := ix_mem p2
      obtain ⟨q1, q2, q3, q4⟩ := go_ok ok p3
      have hdr := distW_rng ok h.dist
      have h2 := h.next ok hyp p3
      have hbe : (at_ == e.a1) = false := beq_eq_false_iff_ne.2 hne
      have hro : room 16 (r ++ [ix d.Places j.toNat]).length = true := room_of (by simp; omega) (by simp; omega)
      rw [loopN_s, diary_Route_L1, hbe]
      simp only [Bool.not_false, cond_true, g1, Option.bind_some, inB_of p1 p2, decide_eq_true p2, chk_t, joined_eq d.Places d.Technicians d.Roads d.Grands d.Change d.Lasts c1 at_ (ix d.Places j.toNat) w hn (by omega),
        inI_of (by omega : -9223372036854775808 ≤ left - (joinB d.Roads at_ (ix d.Places j.toNat) w).1) (by omega), hro]
      exact ih f _ _ _ c1 (by simp; omega) (by omega) hc1 h2
def endsD (d : Diary) (a b : Str) (w : Int) : Int := bif (noPlace d a) || (noPlace d b) then 6 else bif !isW w then 2 else 0
theorem noPlace_mem {s : Str} : noPlace d s = false ↔ s ∈ d.Places := by
  rw [noPlace, Bool.not_eq_false', List.any_eq_true]
  constructor
  · rintro ⟨y, hy, e⟩
    rw [isS, beq_iff_eq] at e
    rwa [← e]
  · intro h
    exact ⟨s, h, by rw [isS, beq_self_eq_true]⟩
theorem Route_eq (hd : OkD d) (h0 : diaryD d = 0) (hn : 1000 < n) (e : Arr2_Str) (w : Int) (h1 : endsD d e.a0 e.a1 w = 0) :
    e.a0 ∈ d.Places ∧ e.a1 ∈ d.Places ∧ isW w = true ∧
    ((distW d.Places d.Roads e.a0 e.a1 w = none ∧ diary_Route n d e w = some (12, [], 0)) ∨
     ∃ all r, distW d.Places d.Roads e.a0 e.a1 w = some all ∧ diary_Route n d e w = some (0, r, all) ∧ RInv d e.a0 e.a1 w all e.a1 0 r) := by
  have hp := hd.places
  have ok := (diaryD_zero h0).1
  have hl := ok.len
  rw [endsD] at h1
  cases e1 : noPlace d e.a0 with
  | true => rw [e1] at h1; simp at h1
  | false =>
  cases e2 : noPlace d e.a1 with
  | true => rw [e1, e2] at h1; simp at h1
  | false =>
  cases e3 : isW w with
  | false => rw [e1, e2, e3] at h1; simp at h1
  | true =>
  have ha := noPlace_mem.1 e1
  have hb := noPlace_mem.1 e2
  refine ⟨ha, hb, rfl, ?_⟩
  have f1 : d.Places.any (isS e.a0) = true := by rw [noPlace, Bool.not_eq_false'] at e1; exact e1
  have f2 : d.Places.any (isS e.a1) = true := by rw [noPlace, Bool.not_eq_false'] at e2; exact e2
  have f3 : ((decide (1 ≤ w)) && (decide (w ≤ 10000))) = true := e3
  obtain ⟨c1, g1, hc1⟩ := Distance_eq ok hn OkC.nil e.a0 e.a1 w
  have start : diary_Route n d e w = bif !(distW d.Places d.Roads e.a0 e.a1 w).isSome then some (12, [], 0) else
      loopN (diary_Route_L1 n d e w fun v17 => some (0, v17, (distW d.Places d.Roads e.a0 e.a1 w).getD 0)) n (e.a0, (distW d.Places d.Roads e.a0 e.a1 w).getD 0, [e.a0], c1) := by
    rw [diary_Route, open_eq d hd hn, h0]
    simp only [withK_eq, Option.bind_some, bne_self_eq_false, cond_false, isPlace_eq d hn (by omega), gcall_some_, diary_isWidth, diary_within, f1, f2, f3, Bool.not_true, Bool.not_false, cond_true, Bool.or_self, g1]
  cases hdist : distW d.Places d.Roads e.a0 e.a1 w with
  | none => exact .inl ⟨rfl, by rw [start, hdist]; rfl⟩
  | some all =>
    have hall := distW_rng ok hdist
    rw [hdist] at start
    simp only [Option.isSome_some, Bool.not_true, cond_false, Option.getD_some] at start
    have hpl : 1 ≤ d.Places.length := List.length_pos_of_mem ha
    obtain ⟨r', k1, k2⟩ := route_in ok hn e hb w all hall (d.Places.length - 1) n e.a0 all [e.a0] c1 (by simp; omega) (by omega) hc1
      ⟨ha, hdist, by simp, rfl, rfl, by simp, fun y hy => by rw [List.mem_singleton] at hy; subst hy; exact ⟨ha, all, hdist, Int.le_refl _⟩, fun v h1 h2 => by simp at h2; omega, by show sumR d [e.a0] w 1 = _; rw [sumR_one]; omega⟩
    exact .inr ⟨all, r', rfl, by rw [start]; exact k1, k2⟩
end
section
set_option maxRecDepth 4000
open Go
variable {d : Diary} {n : Nat}
theorem Jn_less {roads : List Road} {w u : Int} (h : u ≤ w) {a b : Str} {m : Nat} (g : Jn roads w a b m) : Jn roads u a b m := by
  obtain ⟨r, h1, h2, h3⟩ := g
  refine ⟨r, h1, ?_, h3⟩
  simp only [conn, Bool.and_eq_true, decide_eq_true_eq] at h2 ⊢
  exact ⟨h2.1, by omega⟩
theorem Walk_less {roads : List Road} {w u : Int} (h : u ≤ w) {a b : Str} {l : Nat} (g : Walk (Jn roads w) (fun _ => True) a b l) : Walk (Jn roads u) (fun _ => True) a b l := by
  induction g with
  | refl a => exact .refl a
  | edge h1 => exact .edge (Jn_less h h1)
  | cons h1 h2 _ ih => exact .cons (Jn_less h h1) h2 ih
theorem distW_symm (ok : OkR d.Places d.Roads) {a b : Str} (ha : a ∈ d.Places) (hb : b ∈ d.Places) (w : Int) : distW d.Places d.Roads a b w = distW d.Places d.Roads b a w := by
  have half : ∀ {a b : Str}, a ∈ d.Places → b ∈ d.Places → ∀ v, distW d.Places d.Roads a b w = some v → ∃ u, distW d.Places d.Roads b a w = some u ∧ u ≤ v := by
    intro a b ha hb v hv
    obtain ⟨h1, _⟩ := distW_walk ok ha hb hv
    obtain ⟨u, h2, h3⟩ := walk_distW ok hb ha (Walk.symm (fun _ _ _ => Jn_symm) h1)
    have := distW_rng ok hv
    exact ⟨u, h2, by omega⟩
  cases e : distW d.Places d.Roads a b w with
  | none =>
    cases f : distW d.Places d.Roads b a w with
    | none => rfl
    | some v => obtain ⟨u, h, _⟩ := half hb ha v f; rw [e] at h; cases h
  | some v =>
    obtain ⟨u, h1, h2⟩ := half ha hb v e
    obtain ⟨x, h3, h4⟩ := half hb ha u h1
    rw [e] at h3; cases h3
    rw [h1]; congr 1; omega
theorem distW_less (ok : OkR d.Places d.Roads) {a b : Str} (ha : a ∈ d.Places) (hb : b ∈ d.Places) {w u v : Int} (h : u ≤ w) (hv : distW d.Places d.Roads a b w = some v) : ∃ x, distW d.Places d.Roads a b u = some x ∧ x ≤ v := by
  obtain ⟨h1, _⟩ := distW_walk ok ha hb hv
  obtain ⟨x, h2, h3⟩ := walk_distW ok ha hb (Walk_less h h1)
  have := distW_rng ok hv
  exact ⟨x, h2, by omega⟩
theorem distW_three (ok : OkR d.Places d.Roads) {a b c : Str} (ha : a ∈ d.Places) (hb : b ∈ d.Places) (hc : c ∈ d.Places) {w x y : Int} (hx : distW d.Places d.Roads a b w = some x) (hy : distW d.Places d.Roads b c w = some y) : ∃ z, distW d.Places d.Roads c a w = some z ∧ z ≤ x + y := by
  obtain ⟨h1, _⟩ := distW_walk ok ha hb hx
  obtain ⟨h2, _⟩ := distW_walk ok hb hc hy
  have r1 := distW_rng ok hx
  have r2 := distW_rng ok hy
  obtain ⟨z, h3, h4⟩ := walk_distW ok ha hc (h1.trans trivial h2)
  rw [distW_symm ok ha hc] at h3
  exact ⟨z, h3, by omega⟩
def routeV (d : Diary) (a b : Str) (w : Int) (r : List Str) : Int × List Str × Int := match distW d.Places d.Roads a b w with | none => (12, [], 0) | some v => (0, r, v)
theorem route_v (hd : OkD d) (h0 : diaryD d = 0) (hn : 1000 < n) {a b : Str} (ha : a ∈ d.Places) (hb : b ∈ d.Places) {w : Int} (hw : isW w = true) : ∃ r, diary_Route n d (Arr2_Str.mk a b) w = some (routeV d a b w r) := by
  have h1 : endsD d a b w = 0 := by rw [endsD, noPlace_mem.2 ha, noPlace_mem.2 hb, hw]; rfl
  obtain ⟨_, _, _, h⟩ := Route_eq hd h0 hn (Arr2_Str.mk a b) w h1
  rcases h with ⟨h2, h3⟩ | ⟨v, r, h2, h3, _⟩
  · exact ⟨[], by rw [h3, routeV]; simp only at h2; rw [h2]⟩
  · exact ⟨r, by rw [h3, routeV]; simp only at h2; rw [h2]⟩
theorem isW_less {w : Int} (h : isW w = true) (h1 : 1 < w) : isW (w - 1) = true := by
  simp only [isW, isBet, Bool.and_eq_true, decide_eq_true_eq] at h ⊢
  omega
theorem side_ok (hd : OkD d) (h0 : diaryD d = 0) (hn : 1000 < n) {a b : Str} (ha : a ∈ d.Places) (hb : b ∈ d.Places) {w : Int} (hw : isW w = true) (k : Int → Option Bool) :
    ((diary_Route n d (Arr2_Str.mk a b) w).bind fun y7 =>
      (diary_Route n d (Arr2_Str.mk b a) w).bind fun y9 =>
      bif ((y7.1 != y9.1) || (y7.2.2 != y9.2.2)) || ((y7.1 != (0 : Int)) && (y7.1 != (12 : Int))) then
        some false
      else
        withK (fun v10 =>
          bif decide ((1 : Int) < w) then
            chk (inI (w - 1)) <|
            (diary_Route n d (Arr2_Str.mk a b) (w - 1)).bind fun y12 =>
            bif (decide ((0 : Int) ≤ v10)) && ((y12.1 != (0 : Int)) || (decide (v10 < y12.2.2))) then some false else k v10
          else k v10) fun k' => bif (y7.1 == (12 : Int)) then k' (-1) else k' y7.2.2) = k (distZ d a b w) := by
  have ok := (diaryD_zero h0).1
  obtain ⟨r, h1⟩ := route_v hd h0 hn ha hb hw
  obtain ⟨r', h2⟩ := route_v hd h0 hn hb ha hw
  have hs := distW_symm ok ha hb w
  have hr : -9223372036854775808 ≤ w - 1 ∧ w - 1 ≤ 9223372036854775807 := by
    simp only [isW, isBet, Bool.and_eq_true, decide_eq_true_eq] at hw; omega
  rw [h1, h2]
  simp only [Option.bind_some, routeV, ← hs, distZ, inI_of hr.1 hr.2, chk_t, withK_eq]
  cases e : distW d.Places d.Roads a b w with
  | none =>
    simp only
    by_cases h3 : 1 < w
    · obtain ⟨r3, h4⟩ := route_v hd h0 hn ha hb (isW_less hw h3)
      rw [h4]
      simp [h3]
    · simp [h3]
  | some v =>
    simp only
    have hv := distW_rng ok e
    by_cases h3 : 1 < w
    · obtain ⟨r3, h4⟩ := route_v hd h0 hn ha hb (isW_less hw h3)
      obtain ⟨x, h5, h6⟩ := distW_less ok ha hb (by omega : w - 1 ≤ w) e
      rw [h4, routeV, h5]
      have : ¬ v < x := by omega
      simp [h3, this]
    · simp [h3]
end
section
set_option maxRecDepth 4000
open Go
theorem withK_k {A R : Type} (k : A → Option R) (f : (A → Option R) → Option R) : withK k f = f k := withK_eq k f
theorem pure_DiaryDistances (a0 : Diary) (a1 : Arr3_Str) (a2 : Int) (hp : a0.Places.length ≤ 9223372036854775807) (ht : a0.Technicians.length ≤ 9223372036854775807) :
    agraffelaw09_DiaryDistances (a0.Places.length + a0.Technicians.length + 2000) a0 a1 a2 = some true := by
  have hn : 1000 < a0.Places.length + a0.Technicians.length + 2000 := by omega
  obtain ⟨b, hb, hok⟩ := Light_eq (n := a0.Places.length + a0.Technicians.length + 2000) a0 hn (by omega) (by omega) hp ht
  obtain ⟨s, hs⟩ : ∃ s, agraffelaw09_short (a0.Places.length + a0.Technicians.length + 2000) [a1.a0, a1.a1, a1.a2] 3 100 = some s :=
    ⟨_, short_eq _ 3 100 (by simp) (by simp) (by omega) (by omega)⟩
  rw [agraffelaw09_DiaryDistances, awake_ok, hb, hs]
  simp only [Option.bind_some, Bool.not_true, cond_false, gcall_some_]
  cases b with
  | false => rfl
  | true =>
    have hd := hok rfl
    generalize a0.Places.length + a0.Technicians.length + 2000 = n at hn
    have hp := hd.places
    rw [CheckDiary_ref a0 hd hn, CheckEnds_eq a0 hn (by omega) _ (by simp) a2]
    simp only [gcall_some_, Option.bind_some, Bool.not_true, Bool.not_false, Bool.false_or, cond_true]
    cases s with
    | false => rfl
    | true =>
      by_cases h0 : diaryD a0 = 0
      · simp only [h0, Bool.not_true, Bool.not_false, Bool.false_or, cond_true, bne_self_eq_false]
        by_cases h1 : (bif [a1.a0, a1.a1, a1.a2].any (noPlace a0) then (6 : Int) else bif !isW a2 then 2 else 0) = 0
        · cases e2 : [a1.a0, a1.a1, a1.a2].any (noPlace a0) with
          | true => rw [e2] at h1; simp at h1
          | false =>
          cases e3 : isW a2 with
          | false => rw [e2, e3] at h1; simp at h1
          | true =>
          have mem : ∀ s ∈ [a1.a0, a1.a1, a1.a2], s ∈ a0.Places := fun s hs => noPlace_mem.1 (by
            have := List.any_eq_false.1 e2 s hs; simpa using this)
          have ma := mem a1.a0 (by simp)
          have mb := mem a1.a1 (by simp)
          have mc := mem a1.a2 (by simp)
          have ok := (diaryD_zero h0).1
          simp only [Bool.not_true, cond_false, bne_self_eq_false, town_ok a0 _ hd, Option.bind_some]
          have k1 := side_ok hd h0 hn ma mb e3
          have k2 := side_ok hd h0 hn mb mc e3
          have k3 := side_ok hd h0 hn mc ma e3
          refine (k1 _).trans ?_
          rw [withK_k]
          refine (k2 _).trans ?_
          rw [withK_k]
          refine (k3 _).trans ?_
          have r : ∀ a b, -1 ≤ distZ a0 a b a2 ∧ distZ a0 a b a2 ≤ 10485760000 := fun a b => by
            rw [distZ]
            cases e : distW a0.Places a0.Roads a b a2 with
            | none => simp
            | some v => have := distW_rng ok e; simp only; omega
          have r1 := r a1.a0 a1.a1
          have r2 := r a1.a1 a1.a2
          rw [inI_of (by omega) (by omega), Bool.or_true, chk_t]
          congr 1
          have hz : 0 ≤ distZ a0 a1.a0 a1.a1 a2 → 0 ≤ distZ a0 a1.a1 a1.a2 a2 → 0 ≤ distZ a0 a1.a2 a1.a0 a2 ∧ distZ a0 a1.a2 a1.a0 a2 ≤ distZ a0 a1.a0 a1.a1 a2 + distZ a0 a1.a1 a1.a2 a2 := by
            intro g1 g2
            rw [distZ] at g1 g2
            cases e4 : distW a0.Places a0.Roads a1.a0 a1.a1 a2 with
            | none => rw [e4] at g1; simp at g1
            | some x =>
              cases e5 : distW a0.Places a0.Roads a1.a1 a1.a2 a2 with
              | none => rw [e5] at g2; simp at g2
              | some y =>
                obtain ⟨z, h3, h4⟩ := distW_three ok ma mb mc e4 e5
                have := distW_rng ok h3
                simp only [distZ, e4, e5, h3]
                omega
          by_cases g1 : 0 ≤ distZ a0 a1.a0 a1.a1 a2
          · by_cases g2 : 0 ≤ distZ a0 a1.a1 a1.a2 a2
            · obtain ⟨h3, h4⟩ := hz g1 g2
              simp [h3, h4]
            · simp [Int.not_le.1 g2]
          · simp [Int.not_le.1 g1]
        · rw [bne_t h1]; rfl
      · simp only [Bool.not_true, Bool.not_false, Bool.false_or, cond_true, bne_t h0, Bool.true_or]
end
end Go.Proofs.Ytpmkdgnhllhaeaa.As
