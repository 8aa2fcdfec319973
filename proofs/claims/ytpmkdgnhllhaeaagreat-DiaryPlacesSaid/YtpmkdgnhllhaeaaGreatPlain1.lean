/- What the functions compute, on plain data, and what follows from it, part 1: no condition. -/
import Derived.Test.YtpmkdgnhllhaeaaGreatGround2
namespace Go.Proofs.YtpmkdgnhllhaeaaGreat.As
open Go
section
set_option maxRecDepth 4000
open Go
structure Road where
  A : Str
  B : Str
  Minutes : Int
  Width : Int
  deriving Inhabited,DecidableEq
def eRoad (x : Road) : V:=.agg [vt x.A,vt x.B,vi x.Minutes,vi x.Width]
theorem eRoad_frz (x : Road) : (eRoad x).frz = true:=rfl
theorem eRoad_frzE (x : Road) : frzE (eRoad x) = true:=rfl
structure Grand where
  Name : Str
  Place : Str
  Width : Int
  deriving Inhabited,DecidableEq
def eGd (x : Grand) : V:=.agg [vt x.Name,vt x.Place,vi x.Width]
theorem eGrand_frz (x : Grand) : (eGd x).frz = true:=rfl
theorem eGrand_frzE (x : Grand) : frzE (eGd x) = true:=rfl
structure Diary where
  Pcs : List Str
  Tc : List Str
  Roads : List Road
  Gds : List Grand
  Change : Int
  Lasts : Int
  deriving Inhabited,DecidableEq
def eDiary (x : Diary) : V:=.agg [eS 1 vt x.Pcs,eS 1 vt x.Tc,eS 4 eRoad x.Roads,eS 3 eGd x.Gds,vi x.Change,vi x.Lasts]
structure Item where
  Kind : Int
  From : Int
  To : Int
  Grand : Str
  Place : Str
  Who : Str
  Deposit : Int
  deriving Inhabited,DecidableEq
def eItem (x : Item) : V:=.agg [vi x.Kind,vi x.From,vi x.To,vt x.Grand,vt x.Place,vt x.Who,vi x.Deposit]
theorem zdn (x : Item) : (eItem x).frz = true:=rfl
theorem eItem_frzE (x : Item) : frzE (eItem x) = true:=rfl
structure A2s where
  a0 : Str
  a1 : Str
  deriving Inhabited,DecidableEq
def eA2 (x : A2s) : V:=.agg [vt x.a0,vt x.a1]
theorem eArr2_Str_frz (x : A2s) : (eA2 x).frz = true:=rfl
theorem zdf : KeyAB eA2 (fun x=>x.a0) (fun x=>x.a1):=⟨fun _=>rfl,fun ⟨a,b⟩ ⟨c,d⟩=>keyab_dec ⟨fun h=>by cases h; exact ⟨rfl,rfl⟩,fun h=>by cases h.1; cases h.2; rfl⟩⟩
def tunStop (x : Item) (lasts : Int) (y : Item) : Bool:=(y.Grand == x.Grand) && ((y.Kind == 1) || ((y.Kind == 0) && (decide (y.To ≤ x.From) && decide (IntKind.i64.wrap (x.From - y.To) ≤ lasts))))
def tuneL (x : Item) (lasts : Int) (l : List Item) : Nat → Int
  | 0=>-1
  | k + 1=>bif tunStop x lasts (ix l k) then (bif (ix l k).Kind == 1 then -1 else ((k : Nat) : Int)) else tuneL x lasts l k
def sortIns (x : Int) : List Int → List Int
  | []=>[x]
  | y :: l=>bif decide (x ≤ y) then x :: y :: l else y :: sortIns x l
def sortI : List Int → List Int
  | []=>[]
  | x :: l=>sortIns x (sortI l)
def insL {α : Type} (l : List α) (i : Nat) (x : α) : List α:=l.take i ++ x :: l.drop i
structure Window where
  From : Int
  To : Int
  deriving Inhabited,DecidableEq
def zah (x : Window) : V:=.agg [vi x.From,vi x.To]
structure A2i where
  a0 : Int
  a1 : Int
  deriving Inhabited,DecidableEq
def zae (x : A2i) : V:=.agg [vi x.a0,vi x.a1]
theorem zas (x : A2i) : (zae x).frz = true:=rfl
theorem eArr2_Int_frzE (x : A2i) : frzE (zae x) = true:=rfl
structure Moment where
  Grand : Str
  Minute : Int
  deriving Inhabited,DecidableEq
def eMoment (x : Moment) : V:=.agg [vt x.Grand,vi x.Minute]
def q77k (n : Nat)  : Option Unit :=
  some ()
def zea (a0 : Str) (k1 : (Unit → Option Bool)) (back : Nat → Option Bool) : Nat → Option Bool
  | v1 =>
  bif decide (v1 < a0.length) then
    bif (!(((decide ((97 : Int) ≤ (((List.getD a0 v1 0).toNat : Nat) : Int))) && (decide ((((List.getD a0 v1 0).toNat : Nat) : Int) ≤ (122 : Int)))) || ((decide ((65 : Int) ≤ (((List.getD a0 v1 0).toNat : Nat) : Int))) && (decide ((((List.getD a0 v1 0).toNat : Nat) : Int) ≤ (90 : Int)))))) && ((decide (v1 = 0)) || (((((List.getD a0 v1 0).toNat : Nat) : Int) != (45 : Int)) && ((decide ((((List.getD a0 v1 0).toNat : Nat) : Int) < (48 : Int))) || (decide ((57 : Int) < (((List.getD a0 v1 0).toNat : Nat) : Int)))))) then
      some false
    else
      chk (nI (v1 + 1)) <|
      back (v1 + 1)
  else
    k1 ()
def zeb (n : Nat) (a0 : Str) : Option Bool :=
  zal (fun (_ : Unit) =>
      some ((!(a0 == ([] : Str))) && (decide (a0.length ≤ 12)))) fun k1 =>
  loopN (zea a0 k1) n 0
def q64k (a0 : List Str) (a1 : Str) (k1 : (Unit → Option Int)) (back : Nat → Option Int) : Nat → Option Int
  | v1 =>
  bif decide (v1 < a0.length) then
    bif (a1 == (ix a0 v1)) then
      some ((v1 : Nat) : Int)
    else
      chk (nI (v1 + 1)) <|
      back (v1 + 1)
  else
    k1 ()
def q84k (n : Nat) (a0 : List Str) (a1 : Str) : Option Int :=
  zal (fun (_ : Unit) =>
      some (-1)) fun k1 =>
  loopN (q64k a0 a1 k1) n 0
def q0k (n : Nat) (a0 : List Str) (a1 : Str) : Option Bool :=
  (q84k n a0 a1).bind fun y1 =>
  some (decide ((0 : Int) ≤ y1))
def zec (n : Nat) (a0 : Str) (a1 : List Str) : Option Int :=
  (zeb n a0).bind fun y1 =>
  bif !y1 then
    some 4
  else
    (q0k n a1 a0).bind fun y2 =>
    bif y2 then
      some 5
    else
      some 0
def zdi (n : Nat) (a0 : List Str) (k1 : (Unit → Option Int)) (back : Nat → Option Int) : Nat → Option Int
  | v2 =>
  bif decide (v2 < a0.length) then
    chk (decide (v2 ≤ a0.length)) <|
    (zec n (ix a0 v2) (List.take v2 a0)).bind fun y3 =>
    bif (y3 != (0 : Int)) then
      some y3
    else
      chk (nI (v2 + 1)) <|
      back (v2 + 1)
  else
    k1 ()
def zcg (n : Nat) (a0 : List Str) (a1 : Int) : Option Int :=
  bif decide (a1 < ((a0.length : Nat) : Int)) then
    some 8
  else
    zal (fun (_ : Unit) =>
        some 0) fun k1 =>
    loopN (zdi n a0 k1) n 0
def zav (n : Nat) (a0 : Int) (a1 : Int) (a2 : Int) : Option Unit :=
  some ()
def zdh (n : Nat) (a0 : Int) : Option Unit :=
  (zav n a0 1 10000).bind fun y1 =>
  some ()
def zcb (n : Nat) (a0 : Diary) (k1 : (Unit → Option Int)) (back : Nat → Option Int) : Nat → Option Int
  | v5 =>
  bif decide (v5 < a0.Roads.length) then
    (q0k n a0.Pcs ((ix a0.Roads v5).A)).bind fun y6 =>
    (zeh (!(!y6)) (q0k n a0.Pcs ((ix a0.Roads v5).B))).bind fun y7 =>
    bif (!y6) || (!y7) then
      some 6
    else
      bif (((ix a0.Roads v5).A) == ((ix a0.Roads v5).B)) then
        some 3
      else
        (zav n ((ix a0.Roads v5).Minutes) 1 10000).bind fun y8 =>
        (zeh (!(!((decide (1 ≤ ((ix a0.Roads v5).Minutes))) && (decide (((ix a0.Roads v5).Minutes) ≤ 10000))))) (zdh n ((ix a0.Roads v5).Width))).bind fun y9 =>
        bif (!((decide (1 ≤ ((ix a0.Roads v5).Minutes))) && (decide (((ix a0.Roads v5).Minutes) ≤ 10000)))) || (!((decide (1 ≤ ((ix a0.Roads v5).Width))) && (decide (((ix a0.Roads v5).Width) ≤ 10000)))) then
          some 2
        else
          chk (nI (v5 + 1)) <|
          back (v5 + 1)
  else
    k1 ()
def zdo (n : Nat) (a0 : Diary) : Option Int :=
  bif decide (60 < a0.Roads.length) then
    some 8
  else
    zal (fun (_ : Unit) =>
        some 0) fun k1 =>
    loopN (zcb n a0 k1) n 0
def q48k (a0 : List Str) (a1 : Str) (k1 : (Unit → Option Int)) (back : Nat → Option Int) : Nat → Option Int
  | v1 =>
  bif decide (v1 < a0.length) then
    bif (a1 == (ix a0 v1)) then
      some ((v1 : Nat) : Int)
    else
      chk (nI (v1 + 1)) <|
      back (v1 + 1)
  else
    k1 ()
def q72k (n : Nat) (a0 : List Str) (a1 : Str) : Option Int :=
  zal (fun (_ : Unit) =>
      some (-1)) fun k1 =>
  loopN (q48k a0 a1 k1) n 0
def q23k (n : Nat) (a0 : List Str) (a1 : Str) : Option Bool :=
  (q72k n a0 a1).bind fun y1 =>
  some (decide ((0 : Int) ≤ y1))
def zcy (n : Nat) (a0 : Str) (a1 : List Str) : Option Int :=
  (zeb n a0).bind fun y1 =>
  bif !y1 then
    some 4
  else
    (q23k n a1 a0).bind fun y2 =>
    bif y2 then
      some 5
    else
      some 0
def zbv (n : Nat) (a0 : Diary) (k1 : (Unit → Option Int)) (back : (List Str) × Nat → Option Int) : (List Str) × Nat → Option Int
  | (v4,v5) =>
  bif decide (v5 < a0.Gds.length) then
    (zcy n ((ix a0.Gds v5).Name) v4).bind fun y6 =>
    bif (y6 != (0 : Int)) then
      some y6
    else
      (q0k n a0.Pcs ((ix a0.Gds v5).Place)).bind fun y7 =>
      bif !y7 then
        some 6
      else
        (zdh n ((ix a0.Gds v5).Width)).bind fun y8 =>
        bif !((decide (1 ≤ ((ix a0.Gds v5).Width))) && (decide (((ix a0.Gds v5).Width) ≤ 10000))) then
          some 2
        else
          chk (room 16 (v4 ++ ([(ix a0.Gds v5).Name] : List Str)).length) <|
          chk (nI (v5 + 1)) <|
          back ((v4 ++ ([(ix a0.Gds v5).Name] : List Str)),v5 + 1)
  else
    k1 ()
def zcz (n : Nat) (a0 : Diary) : Option Int :=
  bif decide (12 < a0.Gds.length) then
    some 8
  else
    zal (fun (_ : Unit) =>
        some 0) fun k1 =>
    loopN (zbv n a0 k1) n (([] : List Str),0)
def zdp (n : Nat) (a0 : Diary) : Option Int :=
  (zcg n a0.Pcs 20).bind fun y1 =>
  bif (y1 != (0 : Int)) then
    some y1
  else
    (zdo n a0).bind fun y2 =>
    bif (y2 != (0 : Int)) then
      some y2
    else
      (zcz n a0).bind fun y3 =>
      bif (y3 != (0 : Int)) then
        some y3
      else
        (zcg n a0.Tc 12).bind fun y4 =>
        bif (y4 != (0 : Int)) then
          some y4
        else
          (zav n a0.Change 0 1000).bind fun y5 =>
          (zeh (!(!((decide (0 ≤ a0.Change)) && (decide (a0.Change ≤ 1000))))) (zav n a0.Lasts 0 100000)).bind fun y6 =>
          bif (!((decide (0 ≤ a0.Change)) && (decide (a0.Change ≤ 1000)))) || (!((decide (0 ≤ a0.Lasts)) && (decide (a0.Lasts ≤ 100000)))) then
            some 2
          else
            some 0
def diary_open (n : Nat) (a0 : Diary) : Option (Int ⊕ Unit) :=
  (zdp n a0).bind fun y1 =>
  bif (y1 != (0 : Int)) then
    some (.inl y1)
  else
    some (.inr ())
def zen (n : Nat) (a0 : List Str) (a1 : List Str) (a2 : List Road) (a3 : List Grand) (a4 : Int) (a5 : Int) (a6 : List (Int × List (A2s × Int))) (a7 : Str) : Option Bool :=
  (q0k n a0 a7).bind fun y1 =>
  some y1
def zcr (a2 : List Road) (a7 : Str) (a8 : Str) (a9 : Int) (k2 : (Int × Bool → Option (Int × Bool))) (back : Int × Bool × Nat → Option (Int × Bool)) : Int × Bool × Nat → Option (Int × Bool)
  | (v3,v4,v5) =>
  bif decide (v5 < a2.length) then
    zal (fun (v6,v7) =>
        chk (nI (v5 + 1)) <|
        back (v6,v7,v5 + 1)) fun k1 =>
    bif ((((((ix a2 v5).A) == a7) && (((ix a2 v5).B) == a8)) || ((((ix a2 v5).A) == a8) && (((ix a2 v5).B) == a7))) && (decide (a9 ≤ ((ix a2 v5).Width)))) && ((!v4) || (decide (((ix a2 v5).Minutes) < v3))) then
      k1 ((ix a2 v5).Minutes,true)
    else
      k1 (v3,v4)
  else
    k2 (v3,v4)
def zcv (n : Nat) (a0 : List Str) (a1 : List Str) (a2 : List Road) (a3 : List Grand) (a4 : Int) (a5 : Int) (a6 : List (Int × List (A2s × Int))) (a7 : Str) (a8 : Str) (a9 : Int) : Option (Int × Bool) :=
  zal (fun (v8,v9) =>
      some (v8,v9)) fun k2 =>
  loopN (zcr a2 a7 a8 a9 k2) n (0,false,0)
def zbm (a0 : List Str) (v31 : Nat) (v38 : Nat) (k7 : ((List (A2s × Int)) → Option ((List (A2s × Int)) × (List (Int × List (A2s × Int)))))) (back : Nat × (List (A2s × Int)) → Option ((List (A2s × Int)) × (List (Int × List (A2s × Int))))) : Nat × (List (A2s × Int)) → Option ((List (A2s × Int)) × (List (Int × List (A2s × Int))))
  | (v41,v42) =>
  bif decide (v41 < a0.length) then
    zal (fun (v43 : (List (A2s × Int))) =>
        chk (nI (v41 + 1)) <|
        back (v41 + 1,v43)) fun k6 =>
    chk (!(((Option.isSome (List.lookup (A2s.mk (ix a0 v38) (ix a0 v31)) v42)) && (Option.isSome (List.lookup (A2s.mk (ix a0 v31) (ix a0 v41)) v42))) && !(!(Option.isSome (List.lookup (A2s.mk (ix a0 v38) (ix a0 v41)) v42)))) || inI ((Option.getD (List.lookup (A2s.mk (ix a0 v38) (ix a0 v31)) v42) (0 : Int)) + (Option.getD (List.lookup (A2s.mk (ix a0 v31) (ix a0 v41)) v42) (0 : Int)))) <|
    bif ((Option.isSome (List.lookup (A2s.mk (ix a0 v38) (ix a0 v31)) v42)) && (Option.isSome (List.lookup (A2s.mk (ix a0 v31) (ix a0 v41)) v42))) && ((!(Option.isSome (List.lookup (A2s.mk (ix a0 v38) (ix a0 v41)) v42))) || (decide (((Option.getD (List.lookup (A2s.mk (ix a0 v38) (ix a0 v31)) v42) (0 : Int)) + (Option.getD (List.lookup (A2s.mk (ix a0 v31) (ix a0 v41)) v42) (0 : Int))) < (Option.getD (List.lookup (A2s.mk (ix a0 v38) (ix a0 v41)) v42) (0 : Int))))) then
      chk (inI ((Option.getD (List.lookup (A2s.mk (ix a0 v38) (ix a0 v31)) v42) (0 : Int)) + (Option.getD (List.lookup (A2s.mk (ix a0 v31) (ix a0 v41)) v42) (0 : Int)))) <|
      k6 (mPut (A2s.mk (ix a0 v38) (ix a0 v41)) ((Option.getD (List.lookup (A2s.mk (ix a0 v38) (ix a0 v31)) v42) (0 : Int)) + (Option.getD (List.lookup (A2s.mk (ix a0 v31) (ix a0 v41)) v42) (0 : Int))) v42)
    else
      k6 v42
  else
    k7 v42
def zbl (n : Nat) (a0 : List Str) (v31 : Nat) (k8 : ((List (A2s × Int)) → Option ((List (A2s × Int)) × (List (Int × List (A2s × Int)))))) (back : Nat × (List (A2s × Int)) → Option ((List (A2s × Int)) × (List (Int × List (A2s × Int))))) : Nat × (List (A2s × Int)) → Option ((List (A2s × Int)) × (List (Int × List (A2s × Int))))
  | (v38,v39) =>
  bif decide (v38 < a0.length) then
    zal (fun (v44 : (List (A2s × Int))) =>
        chk (nI (v38 + 1)) <|
        back (v38 + 1,v44)) fun k7 =>
    loopN (zbm a0 v31 v38 k7) n (0,v39)
  else
    k8 v39
def zbk (n : Nat) (a0 : List Str) (k9 : ((List (A2s × Int)) → Option ((List (A2s × Int)) × (List (Int × List (A2s × Int)))))) (back : Nat × (List (A2s × Int)) → Option ((List (A2s × Int)) × (List (Int × List (A2s × Int))))) : Nat × (List (A2s × Int)) → Option ((List (A2s × Int)) × (List (Int × List (A2s × Int))))
  | (v31,v32) =>
  bif decide (v31 < a0.length) then
    zal (fun (v45 : (List (A2s × Int))) =>
        chk (nI (v31 + 1)) <|
        back (v31 + 1,v45)) fun k8 =>
    loopN (zbl n a0 v31 k8) n (0,v32)
  else
    k9 v32
def zbo (n : Nat) (a0 : List Str) (a1 : List Str) (a2 : List Road) (a3 : List Grand) (a4 : Int) (a5 : Int) (a6 : List (Int × List (A2s × Int))) (a7 : Int) (v8 : Nat) (k4 : ((List (A2s × Int)) → Option ((List (A2s × Int)) × (List (Int × List (A2s × Int)))))) (back : Nat × (List (A2s × Int)) → Option ((List (A2s × Int)) × (List (Int × List (A2s × Int))))) : Nat × (List (A2s × Int)) → Option ((List (A2s × Int)) × (List (Int × List (A2s × Int))))
  | (v12,v13) =>
  bif decide (v12 < a0.length) then
    zal (fun (v15 : (List (A2s × Int))) =>
        chk (nI (v12 + 1)) <|
        back (v12 + 1,v15)) fun k3 =>
    (zcv n a0 a1 a2 a3 a4 a5 a6 (ix a0 v8) (ix a0 v12) a7).bind fun y14 =>
    bif y14.2 && (!((ix a0 v8) == (ix a0 v12))) then
      k3 (mPut (A2s.mk (ix a0 v8) (ix a0 v12)) y14.1 v13)
    else
      k3 v13
  else
    k4 v13
def zbn (n : Nat) (a0 : List Str) (a1 : List Str) (a2 : List Road) (a3 : List Grand) (a4 : Int) (a5 : Int) (a6 : List (Int × List (A2s × Int))) (a7 : Int) (k5 : ((List (A2s × Int)) → Option ((List (A2s × Int)) × (List (Int × List (A2s × Int)))))) (back : Nat × (List (A2s × Int)) → Option ((List (A2s × Int)) × (List (Int × List (A2s × Int))))) : Nat × (List (A2s × Int)) → Option ((List (A2s × Int)) × (List (Int × List (A2s × Int))))
  | (v8,v9) =>
  bif decide (v8 < a0.length) then
    zal (fun (v16 : (List (A2s × Int))) =>
        chk (nI (v8 + 1)) <|
        back (v8 + 1,v16)) fun k4 =>
    loopN (zbo n a0 a1 a2 a3 a4 a5 a6 a7 v8 k4) n (0,(mPut (A2s.mk (ix a0 v8) (ix a0 v8)) 0 v9))
  else
    k5 v9
def zbu (n : Nat) (a0 : List Str) (a1 : List Str) (a2 : List Road) (a3 : List Grand) (a4 : Int) (a5 : Int) (a6 : List (Int × List (A2s × Int))) (a7 : Int) : Option ((List (A2s × Int)) × (List (Int × List (A2s × Int)))) :=
  zal (fun (_ : Unit) =>
      some ((Option.getD (List.lookup a7 a6) ([] : List (A2s × Int))),a6)) fun k1 =>
  zal (fun (_ : Unit) =>
      zal (fun (v17 : (List (A2s × Int))) =>
          zal (fun (v46 : (List (A2s × Int))) =>
              some (v46,(mPut a7 v46 a6))) fun k9 =>
          loopN (zbk n a0 k9) n (0,v17)) fun k5 =>
      loopN (zbn n a0 a1 a2 a3 a4 a5 a6 a7 k5) n (0,([] : List (A2s × Int)))) fun k2 =>
  bif (Option.isSome (List.lookup a7 a6)) then
    k1 ()
  else
    k2 ()
def zaw (n : Nat) (a0 : List Str) (a1 : List Str) (a2 : List Road) (a3 : List Grand) (a4 : Int) (a5 : Int) (a6 : List (Int × List (A2s × Int))) (a7 : Str) (a8 : Str) (a9 : Int) : Option (Int × Bool × (List (Int × List (A2s × Int)))) :=
  (zbu n a0 a1 a2 a3 a4 a5 a6 a9).bind fun y1 =>
  some ((Option.getD (List.lookup (A2s.mk a7 a8) y1.1) (0 : Int)),(Option.isSome (List.lookup (A2s.mk a7 a8) y1.1)),y1.2)
def diary_Distances_L1 (n : Nat) (a0 : Diary) (a1 : Str) (a2 : Int) (k4 : ((List Int) → Option (Int × (List Int)))) (back : (List Int) × Nat × (List (Int × List (A2s × Int))) → Option (Int × (List Int))) : (List Int) × Nat × (List (Int × List (A2s × Int))) → Option (Int × (List Int))
  | (v9,v10,v11) =>
  bif decide (v10 < a0.Pcs.length) then
    (zaw n a0.Pcs a0.Tc a0.Roads a0.Gds a0.Change a0.Lasts v11 a1 (ix a0.Pcs v10) a2).bind fun y12 =>
    zal (fun (v13 : Int) =>
        chk (room 8 (v9 ++ ([v13] : List Int)).length) <|
        chk (nI (v10 + 1)) <|
        back ((v9 ++ ([v13] : List Int)),v10 + 1,y12.2.2)) fun k3 =>
    bif !y12.2.1 then
      k3 (-1)
    else
      k3 y12.1
  else
    k4 v9
def diary_Distances (n : Nat) (a0 : Diary) (a1 : Str) (a2 : Int) : Option (Int × (List Int)) :=
  zal (fun (v4 : Int) =>
      bif (v4 != (0 : Int)) then
        some (v4,([] : List Int))
      else
        none) fun k1 =>
  zal (fun (_ : Unit) =>
      (zen n a0.Pcs a0.Tc a0.Roads a0.Gds a0.Change a0.Lasts ([] : List (Int × List (A2s × Int))) a1).bind fun y5 =>
      bif !y5 then
        some (6,([] : List Int))
      else
        (zdh n a2).bind fun y6 =>
        bif !((decide (1 ≤ a2)) && (decide (a2 ≤ 10000))) then
          some (2,([] : List Int))
        else
          zal (fun (v14 : (List Int)) =>
              some (0,v14)) fun k4 =>
          loopN (diary_Distances_L1 n a0 a1 a2 k4) n (([] : List Int),0,([] : List (Int × List (A2s × Int))))) fun k2 =>
  (diary_open n a0).bind fun y1 =>
  match y1 with
  | .inl y1 =>
    k1 y1
  | .inr y1 =>
    k2 ()
def q75k (n : Nat)  : Option Unit :=
  some ()
def diary_plan_accept_L1 (a0 : List Item) (k1 : (Unit → Option (Int × Int))) (back : Unit → Option (Int × Int)) : Unit → Option (Int × Int)
  | _ =>
  bif decide (0 < a0.length) then
    none
  else
    k1 ()
def zcw (n : Nat) (a0 : List Item) : Option (Int × Int) :=
  bif decide (100 < a0.length) then
    some (0,8)
  else
    zal (fun (_ : Unit) =>
        some ((-1),0)) fun k1 =>
    loopN (diary_plan_accept_L1 a0 k1) n ()
def diary_grand_f1 (n : Nat) (a0 : Grand) (a1 : Str) : Option Unit :=
  some ()
def q39k (n : Nat) (a0 : List Grand) (a1 : Str) (k1 : (Unit → Option Int)) (back : Nat → Option Int) : Nat → Option Int
  | v2 =>
  bif decide (v2 < a0.length) then
    (diary_grand_f1 n (ix a0 v2) a1).bind fun y3 =>
    bif ((ix a0 v2).Name == a1) then
      some ((v2 : Nat) : Int)
    else
      chk (nI (v2 + 1)) <|
      back (v2 + 1)
  else
    k1 ()
def q37k (n : Nat) (a0 : List Grand) (a1 : Str) : Option Int :=
  zal (fun (_ : Unit) =>
      some (-1)) fun k1 =>
  loopN (q39k n a0 a1 k1) n 0
def zca (n : Nat) (a0 : Diary) (a1 : Str) : Option (Str × Str × Int × Bool) :=
  (q37k n a0.Gds a1).bind fun y1 =>
  bif decide (y1 < (0 : Int)) then
    some (([] : Str),([] : Str),0,false)
  else
    chk (inB y1 a0.Gds.length) <|
    chk (decide (y1.toNat < a0.Gds.length)) <|
    some ((ix a0.Gds y1.toNat).Name,(ix a0.Gds y1.toNat).Place,(ix a0.Gds y1.toNat).Width,true)
def zbh (n : Nat) (a0 : Int) : Option Unit :=
  (zav n a0 0 1000000).bind fun y1 =>
  some ()
def zcc (n : Nat) (a0 : Diary) (a1 : Item) : Option Int :=
  (zca n a0 a1.Grand).bind fun y1 =>
  (zav n a1.Kind 0 3).bind fun y2 =>
  bif !((decide (0 ≤ a1.Kind)) && (decide (a1.Kind ≤ 3))) then
    some 15
  else
    (zbh n a1.From).bind fun y3 =>
    (zeh (!(!((decide (0 ≤ a1.From)) && (decide (a1.From ≤ 1000000))))) (zbh n a1.To)).bind fun y4 =>
    bif (!((decide (0 ≤ a1.From)) && (decide (a1.From ≤ 1000000)))) || (!((decide (0 ≤ a1.To)) && (decide (a1.To ≤ 1000000)))) then
      some 2
    else
      bif decide (a1.To ≤ a1.From) then
        some 9
      else
        (zeh (!(!y1.2.2.2)) (q0k n a0.Pcs a1.Place)).bind fun y5 =>
        bif (!y1.2.2.2) || (!y5) then
          some 6
        else
          (zeh (a1.Kind == (0 : Int)) (q0k n a0.Tc a1.Who)).bind fun y6 =>
          bif (a1.Kind == (0 : Int)) && (!y6) then
            some 6
          else
            (zeh (a1.Kind == (3 : Int)) (zeb n a1.Who)).bind fun y7 =>
            bif (a1.Kind == (3 : Int)) && (!y7) then
              some 4
            else
              (zeh (a1.Kind == (3 : Int)) (zav n a1.Deposit 0 1000000000)).bind fun y8 =>
              bif (a1.Kind == (3 : Int)) && (!((decide (0 ≤ a1.Deposit)) && (decide (a1.Deposit ≤ 1000000000)))) then
                some 2
              else
                zal (fun (v9 : Bool) =>
                    bif v9 then
                      some 3
                    else
                      some 0) fun k1 =>
                bif (a1.Kind != (3 : Int)) && (a1.Deposit != (0 : Int)) then
                  k1 ((a1.Kind != (3 : Int)) && (a1.Deposit != (0 : Int)))
                else
                  k1 (((a1.Kind == (1 : Int)) || (a1.Kind == (2 : Int))) && (!(a1.Who == ([] : Str))))
def zcn (n : Nat) (a0 : Item) (a1 : Int) (a2 : Int) (a3 : Int) (a4 : Str) (a5 : Str) (a6 : Str) (a7 : Int) (a8 : List Str) (a9 : List Str) (a10 : List Road) (a11 : List Grand) (a12 : Int) (a13 : Int) (a14 : List (Int × List (A2s × Int))) : Option Unit :=
  chk (!(a0.Grand == a4) || inI (a0.To + a12)) <|
  some ()
def q47k (n : Nat) (a0 : List Item) (a1 : Int) (a2 : Int) (a3 : Int) (a4 : Str) (a5 : Str) (a6 : Str) (a7 : Int) (a8 : List Str) (a9 : List Str) (a10 : List Road) (a11 : List Grand) (a12 : Int) (a13 : Int) (a14 : List (Int × List (A2s × Int))) (k1 : (Unit → Option Int)) (back : Nat → Option Int) : Nat → Option Int
  | v2 =>
  bif decide (v2 < a0.length) then
    (zcn n (ix a0 v2) a1 a2 a3 a4 a5 a6 a7 a8 a9 a10 a11 a12 a13 a14).bind fun y3 =>
    bif ((ix a0 v2).Grand == a4) && (decide (a2 < ((ix a0 v2).To + a12))) then
      some ((v2 : Nat) : Int)
    else
      chk (nI (v2 + 1)) <|
      back (v2 + 1)
  else
    k1 ()
def q71k (n : Nat) (a0 : List Item) (a1 : Int) (a2 : Int) (a3 : Int) (a4 : Str) (a5 : Str) (a6 : Str) (a7 : Int) (a8 : List Str) (a9 : List Str) (a10 : List Road) (a11 : List Grand) (a12 : Int) (a13 : Int) (a14 : List (Int × List (A2s × Int))) : Option Int :=
  zal (fun (_ : Unit) =>
      some (-1)) fun k1 =>
  loopN (q47k n a0 a1 a2 a3 a4 a5 a6 a7 a8 a9 a10 a11 a12 a13 a14 k1) n 0
def q46k (n : Nat) (a0 : List Item) (a1 : Int) (a2 : Int) (a3 : Int) (a4 : Str) (a5 : Str) (a6 : Str) (a7 : Int) (a8 : List Str) (a9 : List Str) (a10 : List Road) (a11 : List Grand) (a12 : Int) (a13 : Int) (a14 : List (Int × List (A2s × Int))) : Option Bool :=
  (q71k n a0 a1 a2 a3 a4 a5 a6 a7 a8 a9 a10 a11 a12 a13 a14).bind fun y1 =>
  some (decide ((0 : Int) ≤ y1))
def zco (n : Nat) (a0 : List Str) (a1 : List Str) (a2 : List Road) (a3 : List Grand) (a4 : Int) (a5 : Int) (a6 : List (Int × List (A2s × Int))) (a7 : List Item) (a8 : Item) : Option Int :=
  (q46k n a7 a8.Kind a8.From a8.To a8.Grand a8.Place a8.Who a8.Deposit a0 a1 a2 a3 a4 a5 a6).bind fun y1 =>
  bif y1 then
    some 17
  else
    some 0
def zdg (a7 : List Item) (a8 : Str) (a9 : Int) (k2 : (Str → Option Str)) (back : Str × Nat → Option Str) : Str × Nat → Option Str
  | (v3,v4) =>
  bif decide (v4 < a7.length) then
    zal (fun (v5 : Str) =>
        chk (nI (v4 + 1)) <|
        back (v5,v4 + 1)) fun k1 =>
    bif ((((ix a7 v4).Kind) == (1 : Int)) && (((ix a7 v4).Grand) == a8)) && (decide (((ix a7 v4).To) ≤ a9)) then
      k1 ((ix a7 v4).Place)
    else
      k1 v3
  else
    k2 v3
def zcf (n : Nat) (a0 : List Str) (a1 : List Str) (a2 : List Road) (a3 : List Grand) (a4 : Int) (a5 : Int) (a6 : List (Int × List (A2s × Int))) (a7 : List Item) (a8 : Str) (a9 : Int) : Option Str :=
  (zca n (Diary.mk a0 a1 a2 a3 a4 a5) a8).bind fun y1 =>
  zal (fun (v6 : Str) =>
      some v6) fun k2 =>
  loopN (zdg a7 a8 a9 k2) n (y1.2.1,0)
def zcu (n : Nat) (a0 : List Str) (a1 : List Str) (a2 : List Road) (a3 : List Grand) (a4 : Int) (a5 : Int) (a6 : List (Int × List (A2s × Int))) (a7 : List Item) (a8 : Item) : Option (Int × (List (Int × List (A2s × Int)))) :=
  (zcf n a0 a1 a2 a3 a4 a5 a6 a7 a8.Grand a8.From).bind fun y1 =>
  bif (a8.Kind != (1 : Int)) then
    bif !(y1 == a8.Place) then
      some (13,a6)
    else
      some (0,a6)
  else
    (zca n (Diary.mk a0 a1 a2 a3 a4 a5) a8.Grand).bind fun y2 =>
    (zaw n a0 a1 a2 a3 a4 a5 a6 y1 a8.Place y2.2.2.1).bind fun y3 =>
    bif (y1 == a8.Place) then
      some (24,y3.2.2)
    else
      bif !y3.2.1 then
        some (12,y3.2.2)
      else
        chk (inI (a8.To - a8.From)) <|
        bif decide ((a8.To - a8.From) < y3.1) then
          some (18,y3.2.2)
        else
          some (0,y3.2.2)
def zbs (n : Nat) (a0 : List Str) (a1 : List Str) (a2 : List Road) (a3 : List Grand) (a4 : Int) (a5 : Int) (a7 : List Item) (a8 : Item) (k2 : ((List (Int × List (A2s × Int))) → Option (Int × (List (Int × List (A2s × Int)))))) (back : Nat × (List (Int × List (A2s × Int))) → Option (Int × (List (Int × List (A2s × Int))))) : Nat × (List (Int × List (A2s × Int))) → Option (Int × (List (Int × List (A2s × Int))))
  | (v3,v4) =>
  bif decide (v3 < a7.length) then
    zal (fun (v6 : (List (Int × List (A2s × Int)))) =>
        chk (nI (v3 + 1)) <|
        back (v3 + 1,v6)) fun k1 =>
    bif (((ix a7 v3).Kind) != (0 : Int)) || (!(((ix a7 v3).Who) == a8.Who)) then
      k1 v4
    else
      (zaw n a0 a1 a2 a3 a4 a5 v4 ((ix a7 v3).Place) a8.Place 1).bind fun y5 =>
      chk (!(!(!y5.2.1)) || inI (((ix a7 v3).To) + y5.1)) <|
      bif (!y5.2.1) || (decide (a8.From < (((ix a7 v3).To) + y5.1))) then
        some (16,y5.2.2)
      else
        k1 y5.2.2
  else
    k2 v4
def zcl (n : Nat) (a0 : List Str) (a1 : List Str) (a2 : List Road) (a3 : List Grand) (a4 : Int) (a5 : Int) (a6 : List (Int × List (A2s × Int))) (a7 : List Item) (a8 : Item) : Option (Int × (List (Int × List (A2s × Int)))) :=
  bif (a8.Kind != (0 : Int)) then
    some (0,a6)
  else
    zal (fun (v7 : (List (Int × List (A2s × Int)))) =>
        some (0,v7)) fun k2 =>
    loopN (zbs n a0 a1 a2 a3 a4 a5 a7 a8 k2) n (0,a6)
def zej (n : Nat) (a0 : List Str) (a1 : List Str) (a2 : List Road) (a3 : List Grand) (a4 : Int) (a5 : Int) (a6 : List (Int × List (A2s × Int))) (a7 : List Item) (a8 : Item) : Option Int :=
  chk (decide (a7.length ≤ 4611686018427387904)) <|
  some (tuneL a8 a5 a7 a7.length)
def zcm (n : Nat) (a0 : List Str) (a1 : List Str) (a2 : List Road) (a3 : List Grand) (a4 : Int) (a5 : Int) (a6 : List (Int × List (A2s × Int))) (a7 : List Item) (a8 : Item) : Option Int :=
  (zeh (a8.Kind == (2 : Int)) (zej n a0 a1 a2 a3 a4 a5 a6 a7 a8)).bind fun y1 =>
  bif (a8.Kind == (2 : Int)) && (decide (y1 < (0 : Int))) then
    some 26
  else
    some 0
def zbq (n : Nat) (a0 : List Str) (a1 : List Str) (a2 : List Road) (a3 : List Grand) (a4 : Int) (a5 : Int) (a7 : List Item) (k1 : ((List (Int × List (A2s × Int))) → Option (Int × Int × (List (Int × List (A2s × Int)))))) (back : Int × (List (Int × List (A2s × Int))) → Option (Int × Int × (List (Int × List (A2s × Int))))) : Int × (List (Int × List (A2s × Int))) → Option (Int × Int × (List (Int × List (A2s × Int))))
  | (v6,v7) =>
  bif decide (v6 < ((a7.length : Nat) : Int)) then
    chk (inB v6 a7.length) <|
    chk (decide (v6.toNat < a7.length)) <|
    (zcc n (Diary.mk a0 a1 a2 a3 a4 a5) (ix a7 v6.toNat)).bind fun y8 =>
    bif (y8 != (0 : Int)) then
      some (v6,y8,v7)
    else
      chk (!(decide ((0 : Int) < v6)) || inI (v6 - 1)) <|
      chk (!(decide ((0 : Int) < v6)) || inB (v6 - 1) a7.length) <|
      chk (!(decide ((0 : Int) < v6)) || decide ((v6 - 1).toNat < a7.length)) <|
      bif (decide ((0 : Int) < v6)) && (decide (((ix a7 v6.toNat).From) < ((ix a7 ((v6 - 1).toNat)).From))) then
        some (v6,9,v7)
      else
        chk (inC v6 a7.length) <|
        (zco n a0 a1 a2 a3 a4 a5 v7 (List.take v6.toNat a7) (ix a7 v6.toNat)).bind fun y9 =>
        bif (y9 != (0 : Int)) then
          some (v6,y9,v7)
        else
          (zcu n a0 a1 a2 a3 a4 a5 v7 (List.take v6.toNat a7) (ix a7 v6.toNat)).bind fun y10 =>
          bif (y10.1 != (0 : Int)) then
            some (v6,y10.1,y10.2)
          else
            (zcl n a0 a1 a2 a3 a4 a5 y10.2 (List.take v6.toNat a7) (ix a7 v6.toNat)).bind fun y11 =>
            bif (y11.1 != (0 : Int)) then
              some (v6,y11.1,y11.2)
            else
              (zcm n a0 a1 a2 a3 a4 a5 y11.2 (List.take v6.toNat a7) (ix a7 v6.toNat)).bind fun y12 =>
              bif (y12 != (0 : Int)) then
                some (v6,y12,y11.2)
              else
                chk (inI (v6 + 1)) <|
                back (v6 + 1,y11.2)
  else
    k1 v7
def zbe (n : Nat) (a0 : List Str) (a1 : List Str) (a2 : List Road) (a3 : List Grand) (a4 : Int) (a5 : Int) (a6 : List (Int × List (A2s × Int))) (a7 : List Item) : Option (Int × Int × (List (Int × List (A2s × Int)))) :=
  bif decide (100 < a7.length) then
    some (0,8,a6)
  else
    zal (fun (v13 : (List (Int × List (A2s × Int)))) =>
        some ((-1),0,v13)) fun k1 =>
    loopN (zbq n a0 a1 a2 a3 a4 a5 a7 k1) n (0,a6)
def diary_Accept (n : Nat) (a0 : Diary) (a1 : List Item) : Option (Int × Int) :=
  zal (fun (v4 : Int) =>
      bif (v4 != (0 : Int)) then
        some (v4,0)
      else
        (zcw n a1).bind fun y5 =>
        some (y5.2,y5.1)) fun k1 =>
  zal (fun (_ : Unit) =>
      (zbe n a0.Pcs a0.Tc a0.Roads a0.Gds a0.Change a0.Lasts ([] : List (Int × List (A2s × Int))) a1).bind fun y6 =>
      some (y6.2.1,y6.1)) fun k2 =>
  (diary_open n a0).bind fun y1 =>
  match y1 with
  | .inl y1 =>
    k1 y1
  | .inr y1 =>
    k2 ()
def zei (n : Nat) (a0 : Diary) (a1 : List Item) : Option (Int ⊕ (Int × (List (Int × List (A2s × Int))))) :=
  zal (fun (v4 : Int) =>
      bif (v4 != (0 : Int)) then
        some (.inl v4)
      else
        (zcw n a1).bind fun y5 =>
        some (.inl y5.2)) fun k1 =>
  zal (fun (_ : Unit) =>
      (zbe n a0.Pcs a0.Tc a0.Roads a0.Gds a0.Change a0.Lasts ([] : List (Int × List (A2s × Int))) a1).bind fun y6 =>
      some (.inr (y6.2.1,y6.2.2))) fun k2 =>
  (diary_open n a0).bind fun y1 =>
  match y1 with
  | .inl y1 =>
    k1 y1
  | .inr y1 =>
    k2 ()
def q125k (n : Nat) (a0 : List Int) : Option (List Int) :=
  chk (decide (a0.length < 4611686018427387904)) <|
  some (sortI a0)
def q110k (a1 : Nat) (a2 : Nat) (v10 : Nat) (k2 : (Nat × (List Int) → Option (Nat × (List Int)))) (back : Nat × Nat × (List Int) → Option (Nat × (List Int))) : Nat × Nat × (List Int) → Option (Nat × (List Int))
  | (v13,v14,v15) =>
  bif decide (v14 < (a2 - v10)) then
    zal (fun (v16,v17) =>
        chk (nI (v14 + 1)) <|
        back (v16,v14 + 1,v17)) fun k1 =>
    chk (decide ((a1 + v10) + v14 < v15.length)) <|
    chk (inI (((v14 : Nat) : Int) - 1)) <|
    chk (inB (((v14 : Nat) : Int) - 1) (a2 - v10)) <|
    chk (decide ((a1 + v10) + ((((v14 : Nat) : Int) - 1).toNat) < v15.length)) <|
    bif ((ix v15 ((a1 + v10) + v14)) != (ix v15 ((a1 + v10) + ((((v14 : Nat) : Int) - 1).toNat)))) then
      chk (decide (v13 < a2)) <|
      chk (decide (a1 + v13 < v15.length)) <|
      chk (nI (v13 + 1)) <|
      k1 (v13 + 1,(List.set v15 (a1 + v13) (ix v15 ((a1 + v10) + v14))))
    else
      k1 (v13,v15)
  else
    k2 (v13,v15)
def q111k (n : Nat) (a0 : List Int) (a1 : Nat) (a2 : Nat) (k3 : (Unit → Option (Nat × (List Int)))) (back : Nat → Option (Nat × (List Int))) : Nat → Option (Nat × (List Int))
  | v10 =>
  bif decide (v10 < a2) then
    chk (decide (a1 + v10 < a0.length)) <|
    chk (inI (((v10 : Nat) : Int) - 1)) <|
    chk (inB (((v10 : Nat) : Int) - 1) a2) <|
    chk (decide (a1 + ((((v10 : Nat) : Int) - 1).toNat) < a0.length)) <|
    bif ((ix a0 (a1 + v10)) == (ix a0 (a1 + ((((v10 : Nat) : Int) - 1).toNat)))) then
      zal (fun (v18,v19) =>
          chk (decide (v18 < a2)) <|
          chk (decide (0 < (a2 - v18))) <|
          chk (decide ((a1 + v18) + (a2 - v18) ≤ v19.length)) <|
          chk (decide (a1 + v18 ≤ (clrP v19 (a1 + v18) (a2 - v18) (0 : Int)).length)) <|
          chk (decide (v18 ≤ a2)) <|
          some (v18,(clrP v19 (a1 + v18) (a2 - v18) (0 : Int)))) fun k2 =>
      loopN (q110k a1 a2 v10 k2) n (v10,1,a0)
    else
      chk (nI (v10 + 1)) <|
      back (v10 + 1)
  else
    k3 ()
def q90k (n : Nat) (a0 : List Int) (a1 : Nat) (a2 : Nat) : Option (Nat × (List Int)) :=
  bif decide (a2 < 2) then
    some (a2,a0)
  else
    zal (fun (_ : Unit) =>
        some (a2,a0)) fun k3 =>
    loopN (q111k n a0 a1 a2 k3) n 1
def q93k (n : Nat) (a0 : List Item) : Option (List Item) :=
  nilK (a0.isEmpty) fun b1 =>
  bif b1 then
    some ([] : List Item)
  else
    chk (room 80 a0.length) <|
    some a0
def q103k (n : Nat) (a0 : List Item) (a1 : Int) (a2 : List Item) : Option (List Item) :=
  chk (inC a1 a0.length) <|
  chk (decide (a2.length = 1)) <|
  chk (room 80 (a0.length + 1)) <|
  some (insL a0 a1.toNat (ix a2 0))
def diary_plan_add_L1 (a0 : List Item) (a1 : Item) (k1 : (Nat → Option (Int × (List Item)))) (back : Nat → Option (Int × (List Item))) : Nat → Option (Int × (List Item))
  | v1 =>
  bif (decide (v1 < a0.length)) && (decide (((ix a0 v1).From) ≤ a1.From)) then
    chk (nI (v1 + 1)) <|
    back (v1 + 1)
  else
    k1 v1
def diary_plan_add (n : Nat) (a0 : List Item) (a1 : Item) : Option (Int × (List Item)) :=
  zal (fun (v2 : Nat) =>
      (q93k n a0).bind fun y3 =>
      (q103k n y3 ((v2 : Nat) : Int) ([a1] : List Item)).bind fun y4 =>
      (zcw n y4).bind fun y5 =>
      bif (y5.2 != (0 : Int)) then
        some (y5.2,([] : List Item))
      else
        some (0,y4)) fun k1 =>
  loopN (diary_plan_add_L1 a0 a1 k1) n 0
def diary_plan_add_2_L1 (a7 : List Item) (a8 : Item) (k1 : (Nat → Option (Int × (List (Int × List (A2s × Int))) × (List Item)))) (back : Nat → Option (Int × (List (Int × List (A2s × Int))) × (List Item))) : Nat → Option (Int × (List (Int × List (A2s × Int))) × (List Item))
  | v1 =>
  bif (decide (v1 < a7.length)) && (decide (((ix a7 v1).From) ≤ a8.From)) then
    chk (nI (v1 + 1)) <|
    back (v1 + 1)
  else
    k1 v1
def diary_plan_add_2 (n : Nat) (a0 : List Str) (a1 : List Str) (a2 : List Road) (a3 : List Grand) (a4 : Int) (a5 : Int) (a6 : List (Int × List (A2s × Int))) (a7 : List Item) (a8 : Item) : Option (Int × (List (Int × List (A2s × Int))) × (List Item)) :=
  zal (fun (v2 : Nat) =>
      (q93k n a7).bind fun y3 =>
      (q103k n y3 ((v2 : Nat) : Int) ([a8] : List Item)).bind fun y4 =>
      (zbe n a0 a1 a2 a3 a4 a5 a6 y4).bind fun y5 =>
      bif (y5.2.1 != (0 : Int)) then
        some (y5.2.1,y5.2.2,([] : List Item))
      else
        some (0,y5.2.2,y4)) fun k1 =>
  loopN (diary_plan_add_2_L1 a7 a8 k1) n 0
def diary_FreeFrom_L2 (n : Nat) (a1 : List Item) (a2 : Item) (y7 : Nat × (List Int)) (k4 : (Unit → Option (Int × Int))) (back : Nat → Option (Int × Int)) : Nat → Option (Int × Int)
  | v9 =>
  bif decide (v9 < y7.1) then
    zal (fun (_ : Unit) =>
        chk (nI (v9 + 1)) <|
        back (v9 + 1)) fun k3 =>
    chk (decide (v9 < y7.2.length)) <|
    chk (!(!(decide ((ix y7.2 v9) < a2.From))) || inI ((ix y7.2 v9) + (a2.To - a2.From))) <|
    bif (decide ((ix y7.2 v9) < a2.From)) || (decide ((1000000 : Int) < ((ix y7.2 v9) + (a2.To - a2.From)))) then
      k3 ()
    else
      chk (inI ((ix y7.2 v9) + (a2.To - a2.From))) <|
      (diary_plan_add n a1 (Item.mk a2.Kind (ix y7.2 v9) ((ix y7.2 v9) + (a2.To - a2.From)) a2.Grand a2.Place a2.Who a2.Deposit)).bind fun y10 =>
      bif (y10.1 == (0 : Int)) then
        some (0,(ix y7.2 v9))
      else
        k3 ()
  else
    k4 ()
def diary_FreeFrom_L1 (a0 : Diary) (a1 : List Item) (a2 : Item) (k2 : (Unit → Option (Int × Int))) (back : Unit → Option (Int × Int)) : Unit → Option (Int × Int)
  | _ =>
  bif decide (0 < a1.length) then
    chk (inI (((ix a1 0).To) + a0.Change)) <|
    chk (room 8 (([a2.From] : List Int) ++ ([(ix a1 0).From,(ix a1 0).To,((ix a1 0).To) + a0.Change] : List Int)).length) <|
    none
  else
    k2 ()
def diary_FreeFrom_L4 (n : Nat) (a0 : Diary) (a1 : List Item) (a2 : Item) (y26 : Nat × (List Int)) (k9 : (Unit → Option (Int × Int))) (back : Nat × (List (Int × List (A2s × Int))) → Option (Int × Int)) : Nat × (List (Int × List (A2s × Int))) → Option (Int × Int)
  | (v29,v30) =>
  bif decide (v29 < y26.1) then
    zal (fun (v32 : (List (Int × List (A2s × Int)))) =>
        chk (nI (v29 + 1)) <|
        back (v29 + 1,v32)) fun k8 =>
    chk (decide (v29 < y26.2.length)) <|
    chk (!(!(decide ((ix y26.2 v29) < a2.From))) || inI ((ix y26.2 v29) + (a2.To - a2.From))) <|
    bif (decide ((ix y26.2 v29) < a2.From)) || (decide ((1000000 : Int) < ((ix y26.2 v29) + (a2.To - a2.From)))) then
      k8 v30
    else
      chk (inI ((ix y26.2 v29) + (a2.To - a2.From))) <|
      (diary_plan_add_2 n a0.Pcs a0.Tc a0.Roads a0.Gds a0.Change a0.Lasts v30 a1 (Item.mk a2.Kind (ix y26.2 v29) ((ix y26.2 v29) + (a2.To - a2.From)) a2.Grand a2.Place a2.Who a2.Deposit)).bind fun y31 =>
      bif (y31.1 == (0 : Int)) then
        some (0,(ix y26.2 v29))
      else
        k8 y31.2.1
  else
    k9 ()
def diary_FreeFrom_L3 (n : Nat) (a0 : Diary) (a1 : List Item) (a2 : Item) (k7 : ((List Int) × (List (Int × List (A2s × Int))) → Option (Int × Int))) (back : Nat × (List Int) × (List (Int × List (A2s × Int))) → Option (Int × Int)) : Nat × (List Int) × (List (Int × List (A2s × Int))) → Option (Int × Int)
  | (v17,v18,v19) =>
  bif decide (v17 < a1.length) then
    zal (fun (v21,v22) =>
        chk (nI (v17 + 1)) <|
        back (v17 + 1,v21,v22)) fun k6 =>
    chk (inI (((ix a1 v17).To) + a0.Change)) <|
    chk (room 8 (v18 ++ ([(ix a1 v17).From,(ix a1 v17).To,((ix a1 v17).To) + a0.Change] : List Int)).length) <|
    (zaw n a0.Pcs a0.Tc a0.Roads a0.Gds a0.Change a0.Lasts v19 ((ix a1 v17).Place) a2.Place 1).bind fun y20 =>
    bif y20.2.1 then
      chk (inI (((ix a1 v17).To) + y20.1)) <|
      chk (room 8 ((v18 ++ ([(ix a1 v17).From,(ix a1 v17).To,((ix a1 v17).To) + a0.Change] : List Int)) ++ ([((ix a1 v17).To) + y20.1] : List Int)).length) <|
      k6 (((v18 ++ ([(ix a1 v17).From,(ix a1 v17).To,((ix a1 v17).To) + a0.Change] : List Int)) ++ ([((ix a1 v17).To) + y20.1] : List Int)),y20.2.2)
    else
      k6 ((v18 ++ ([(ix a1 v17).From,(ix a1 v17).To,((ix a1 v17).To) + a0.Change] : List Int)),y20.2.2)
  else
    k7 (v18,v19)
def diary_FreeFrom (n : Nat) (a0 : Diary) (a1 : List Item) (a2 : Item) : Option (Int × Int) :=
  zal (fun (v4 : Int) =>
      bif (v4 != (0 : Int)) then
        some (v4,0)
      else
        bif decide (100 ≤ a1.length) then
          some (8,0)
        else
          (zcc n a0 a2).bind fun y5 =>
          bif (y5 != (0 : Int)) then
            some (y5,0)
          else
            zal (fun (_ : Unit) =>
                (q125k n ([a2.From] : List Int)).bind fun y6 =>
                chk (inI (a2.To - a2.From)) <|
                zal (fun (_ : Unit) =>
                    some (12,0)) fun k4 =>
                (q90k n y6 0 1).bind fun y7 =>
                loopN (diary_FreeFrom_L2 n a1 a2 y7 k4) n 0) fun k2 =>
            loopN (diary_FreeFrom_L1 a0 a1 a2 k2) n ()) fun k1 =>
  zal (fun (v11,v12) =>
      bif (v11 != (0 : Int)) then
        some (v11,0)
      else
        bif decide (100 ≤ a1.length) then
          some (8,0)
        else
          (zcc n a0 a2).bind fun y13 =>
          bif (y13 != (0 : Int)) then
            some (y13,0)
          else
            zal (fun (v23,v24) =>
                (q125k n v23).bind fun y25 =>
                chk (decide (v23.length = y25.length)) <|
                chk (inI (a2.To - a2.From)) <|
                zal (fun (_ : Unit) =>
                    some (12,0)) fun k9 =>
                (q90k n y25 0 y25.length).bind fun y26 =>
                chk (decide (y25.length = y26.2.length)) <|
                loopN (diary_FreeFrom_L4 n a0 a1 a2 y26 k9) n (0,v24)) fun k7 =>
            loopN (diary_FreeFrom_L3 n a0 a1 a2 k7) n (0,([a2.From] : List Int),v12)) fun k5 =>
  (zei n a0 a1).bind fun y1 =>
  match y1 with
  | .inl y1 =>
    k1 y1
  | .inr y1 =>
    k5 (y1.1,y1.2)
def diary_CheckWindows_L1 (n : Nat) (a0 : List Window) (k1 : (Unit → Option Int)) (back : Nat → Option Int) : Nat → Option Int
  | v3 =>
  bif decide (v3 < a0.length) then
    (zav n ((ix a0 v3).From) 0 1000).bind fun y4 =>
    (zeh (!(!((decide (0 ≤ ((ix a0 v3).From))) && (decide (((ix a0 v3).From) ≤ 1000))))) (zav n ((ix a0 v3).To) 0 1000)).bind fun y5 =>
    bif (!((decide (0 ≤ ((ix a0 v3).From))) && (decide (((ix a0 v3).From) ≤ 1000)))) || (!((decide (0 ≤ ((ix a0 v3).To))) && (decide (((ix a0 v3).To) ≤ 1000)))) then
      some 2
    else
      bif decide (((ix a0 v3).To) ≤ ((ix a0 v3).From)) then
        some 9
      else
        chk (nI (v3 + 1)) <|
        back (v3 + 1)
  else
    k1 ()
def diary_CheckWindows (n : Nat) (a0 : List Window) : Option Int :=
  bif decide (60 < a0.length) then
    some 8
  else
    zal (fun (_ : Unit) =>
        some 0) fun k1 =>
    loopN (diary_CheckWindows_L1 n a0 k1) n 0
def q123k (n : Nat) (a0 : Int) (a1 : Int) : Option Unit :=
  some ()
def q143k (n : Nat) (a0 : Int) (a1 : Int) : Option Unit :=
  (q123k n a0 a1).bind fun y1 =>
  some ()
def q116k (a0 : List Int) (a1 : Int) (k1 : ((List Int) → Option (List Int))) (back : Nat × (List Int) → Option (List Int)) : Nat × (List Int) → Option (List Int)
  | (v2,v3) =>
  bif decide (v2 < ((List.replicate ((IntKind.u64.wrap ((IntKind.u64.wrap ((a0.length : Nat) : Int)) * (IntKind.u64.wrap a1))).toNat) (0 : Int)).length)) then
    chk (decide (v2 ≤ ((List.replicate ((IntKind.u64.wrap ((IntKind.u64.wrap ((a0.length : Nat) : Int)) * (IntKind.u64.wrap a1))).toNat) (0 : Int)).length))) <|
    chk (decide (v2 + (((List.replicate ((IntKind.u64.wrap ((IntKind.u64.wrap ((a0.length : Nat) : Int)) * (IntKind.u64.wrap a1))).toNat) (0 : Int)).length) - v2) ≤ v3.length)) <|
    chk (decide (0 + v2 ≤ v3.length)) <|
    chk (nI (v2 + (Nat.min (List.take v2 (List.drop 0 v3)).length (((List.replicate ((IntKind.u64.wrap ((IntKind.u64.wrap ((a0.length : Nat) : Int)) * (IntKind.u64.wrap a1))).toNat) (0 : Int)).length) - v2)))) <|
    back (v2 + (Nat.min (List.take v2 (List.drop 0 v3)).length (((List.replicate ((IntKind.u64.wrap ((IntKind.u64.wrap ((a0.length : Nat) : Int)) * (IntKind.u64.wrap a1))).toNat) (0 : Int)).length) - v2)),(cpyP v3 v2 (List.take (Nat.min (List.take v2 (List.drop 0 v3)).length (((List.replicate ((IntKind.u64.wrap ((IntKind.u64.wrap ((a0.length : Nat) : Int)) * (IntKind.u64.wrap a1))).toNat) (0 : Int)).length) - v2)) (List.take v2 (List.drop 0 v3)))))
  else
    k1 v3
def q105k (n : Nat) (a0 : List Int) (a1 : Int) : Option (List Int) :=
  bif decide (a1 < (0 : Int)) then
    none
  else
    (q143k n (IntKind.u64.wrap ((a0.length : Nat) : Int)) (IntKind.u64.wrap a1)).bind fun y1 =>
    bif (decide ((0 : Int) < (IntKind.u64.wrap ((IntKind.u64.wrap ((IntKind.u64.wrap ((Int.fdiv (IntKind.u64.wrap ((a0.length : Nat) : Int)) (2 ^ (min 32 64))) * (Int.fdiv (IntKind.u64.wrap a1) (2 ^ (min 32 64))))) + (Int.fdiv (IntKind.u64.wrap ((IntKind.u64.wrap ((Int.fdiv (IntKind.u64.wrap ((a0.length : Nat) : Int)) (2 ^ (min 32 64))) * (iAnd .u64 (IntKind.u64.wrap a1) 4294967295))) + (Int.fdiv (IntKind.u64.wrap ((iAnd .u64 (IntKind.u64.wrap ((a0.length : Nat) : Int)) 4294967295) * (iAnd .u64 (IntKind.u64.wrap a1) 4294967295))) (2 ^ (min 32 64))))) (2 ^ (min 32 64))))) + (Int.fdiv (IntKind.u64.wrap ((iAnd .u64 (IntKind.u64.wrap ((IntKind.u64.wrap ((Int.fdiv (IntKind.u64.wrap ((a0.length : Nat) : Int)) (2 ^ (min 32 64))) * (iAnd .u64 (IntKind.u64.wrap a1) 4294967295))) + (Int.fdiv (IntKind.u64.wrap ((iAnd .u64 (IntKind.u64.wrap ((a0.length : Nat) : Int)) 4294967295) * (iAnd .u64 (IntKind.u64.wrap a1) 4294967295))) (2 ^ (min 32 64))))) 4294967295) + (IntKind.u64.wrap ((iAnd .u64 (IntKind.u64.wrap ((a0.length : Nat) : Int)) 4294967295) * (Int.fdiv (IntKind.u64.wrap a1) (2 ^ (min 32 64))))))) (2 ^ (min 32 64))))))) || (decide ((9223372036854775807 : Int) < (IntKind.u64.wrap ((IntKind.u64.wrap ((a0.length : Nat) : Int)) * (IntKind.u64.wrap a1))))) then
      none
    else
      chk (inI (IntKind.u64.wrap ((IntKind.u64.wrap ((a0.length : Nat) : Int)) * (IntKind.u64.wrap a1)))) <|
      chk (decide (0 ≤ (IntKind.u64.wrap ((IntKind.u64.wrap ((a0.length : Nat) : Int)) * (IntKind.u64.wrap a1))))) <|
      chk (mkroom 8 ((IntKind.u64.wrap ((IntKind.u64.wrap ((a0.length : Nat) : Int)) * (IntKind.u64.wrap a1))).toNat)) <|
      chk (decide (0 + ((List.replicate ((IntKind.u64.wrap ((IntKind.u64.wrap ((a0.length : Nat) : Int)) * (IntKind.u64.wrap a1))).toNat) (0 : Int)).length) ≤ (List.replicate ((IntKind.u64.wrap ((IntKind.u64.wrap ((a0.length : Nat) : Int)) * (IntKind.u64.wrap a1))).toNat) (0 : Int)).length)) <|
      chk (decide (0 + a0.length ≤ a0.length)) <|
      zal (fun (v4 : (List Int)) =>
          some v4) fun k1 =>
      loopN (q116k a0 a1 k1) n (Nat.min (List.take a0.length (List.drop 0 a0)).length ((List.replicate ((IntKind.u64.wrap ((IntKind.u64.wrap ((a0.length : Nat) : Int)) * (IntKind.u64.wrap a1))).toNat) (0 : Int)).length),(cpyP (List.replicate ((IntKind.u64.wrap ((IntKind.u64.wrap ((a0.length : Nat) : Int)) * (IntKind.u64.wrap a1))).toNat) (0 : Int)) 0 (List.take (Nat.min (List.take a0.length (List.drop 0 a0)).length ((List.replicate ((IntKind.u64.wrap ((IntKind.u64.wrap ((a0.length : Nat) : Int)) * (IntKind.u64.wrap a1))).toNat) (0 : Int)).length)) (List.take a0.length (List.drop 0 a0)))))
def diary_schedule_L1 (a0 : List Window) (v8 : Nat) (v9 : List Int) (k2 : (Int → Option (List Int))) (back : Int × Nat → Option (List Int)) : Int × Nat → Option (List Int)
  | (v11,v12) =>
  bif decide (v12 < a0.length) then
    zal (fun (v13 : Int) =>
        chk (nI (v12 + 1)) <|
        back (v13,v12 + 1)) fun k1 =>
    chk (decide (v12 < ((List.replicate ((IntKind.u64.wrap ((IntKind.u64.wrap ((([(-1)] : List Int).length : Nat) : Int)) * (IntKind.u64.wrap ((a0.length : Nat) : Int)))).toNat) (0 : Int)).length))) <|
    chk (decide (v12 < v9.length)) <|
    chk (!((((decide ((ix v9 v12) < (0 : Int))) && (decide (((ix a0 v12).From) ≤ ((v8 : Nat) : Int)))) && (decide (((v8 : Nat) : Int) < ((ix a0 v12).To)))) && !(decide (v11 < (0 : Int)))) || inB v11 a0.length) <|
    chk (!((((decide ((ix v9 v12) < (0 : Int))) && (decide (((ix a0 v12).From) ≤ ((v8 : Nat) : Int)))) && (decide (((v8 : Nat) : Int) < ((ix a0 v12).To)))) && !(decide (v11 < (0 : Int)))) || decide (v11.toNat < a0.length)) <|
    bif (((decide ((ix v9 v12) < (0 : Int))) && (decide (((ix a0 v12).From) ≤ ((v8 : Nat) : Int)))) && (decide (((v8 : Nat) : Int) < ((ix a0 v12).To)))) && ((decide (v11 < (0 : Int))) || (decide (((ix a0 v12).To) < ((ix a0 v11.toNat).To)))) then
      k1 ((v12 : Nat) : Int)
    else
      k1 v11
  else
    k2 v11
def diary_schedule_L2 (n : Nat) (a0 : List Window) (k4 : ((List Int) → Option (List Int))) (back : Nat × (List Int) → Option (List Int)) : Nat × (List Int) → Option (List Int)
  | (v8,v9) =>
  bif decide (v8 < 1000) then
    zal (fun (v15 : (List Int)) =>
        chk (nI (v8 + 1)) <|
        back (v8 + 1,v15)) fun k3 =>
    zal (fun (v14 : Int) =>
        bif decide ((0 : Int) ≤ v14) then
          chk (inB v14 ((List.replicate ((IntKind.u64.wrap ((IntKind.u64.wrap ((([(-1)] : List Int).length : Nat) : Int)) * (IntKind.u64.wrap ((a0.length : Nat) : Int)))).toNat) (0 : Int)).length)) <|
          chk (decide (v14.toNat < v9.length)) <|
          k3 (List.set v9 v14.toNat ((v8 : Nat) : Int))
        else
          k3 v9) fun k2 =>
    loopN (diary_schedule_L1 a0 v8 v9 k2) n ((-1),0)
  else
    k4 v9
def diary_schedule (n : Nat) (a0 : List Window) : Option (List Int) :=
  (q105k n ([(-1)] : List Int) ((a0.length : Nat) : Int)).bind fun y1 =>
  zal (fun (v16 : (List Int)) =>
      some v16) fun k4 =>
  loopN (diary_schedule_L2 n a0 k4) n (0,y1)
def diary_Most (n : Nat) (a0 : List Window) : Option (Int ⊕ (List Int)) :=
  (diary_CheckWindows n a0).bind fun y1 =>
  bif (y1 != (0 : Int)) then
    some (.inl y1)
  else
    (diary_schedule n a0).bind fun y2 =>
    some (.inr y2)
def q120k (a0 : List Int) (a1 : List Int) (k1 : (Unit → Option Bool)) (back : Nat → Option Bool) : Nat → Option Bool
  | v1 =>
  bif decide (v1 < a0.length) then
    chk (decide (v1 < a1.length)) <|
    bif ((ix a0 v1) != (ix a1 v1)) then
      some false
    else
      chk (nI (v1 + 1)) <|
      back (v1 + 1)
  else
    k1 ()
def q73k (n : Nat) (a0 : List Int) (a1 : List Int) : Option Bool :=
  bif !decide (a0.length = a1.length) then
    some false
  else
    zal (fun (_ : Unit) =>
        some true) fun k1 =>
    loopN (q120k a0 a1 k1) n 0
def q106k (a0 : List Int) (a1 : Nat) (a2 : Nat) (a3 : List Int) (k1 : (Unit → Option Bool)) (back : Nat → Option Bool) : Nat → Option Bool
  | v1 =>
  bif decide (v1 < a2) then
    chk (decide (a1 + v1 < a0.length)) <|
    chk (decide (v1 < a3.length)) <|
    bif ((ix a0 (a1 + v1)) != (ix a3 v1)) then
      some false
    else
      chk (nI (v1 + 1)) <|
      back (v1 + 1)
  else
    k1 ()
def q88k (n : Nat) (a0 : List Int) (a1 : Nat) (a2 : Nat) (a3 : List Int) : Option Bool :=
  bif !decide (a2 = a3.length) then
    some false
  else
    zal (fun (_ : Unit) =>
        some true) fun k1 =>
    loopN (q106k a0 a1 a2 a3 k1) n 0
def q89k (n : Nat)  : Option Bool :=
  (q77k n).bind fun y1 =>
  (diary_Distances n (Diary.mk ([([115,104,111,112] : Str),([104,97,108,108] : Str),([104,111,109,101] : Str)] : List Str) ([([97,110,110] : Str),([98,111,98] : Str)] : List Str) ([(Road.mk ([115,104,111,112] : Str) ([104,97,108,108] : Str) 30 200),(Road.mk ([104,97,108,108] : Str) ([104,111,109,101] : Str) 20 100),(Road.mk ([115,104,111,112] : Str) ([104,111,109,101] : Str) 60 150)] : List Road) ([(Grand.mk ([103] : Str) ([115,104,111,112] : Str) 150),(Grand.mk ([117] : Str) ([104,111,109,101] : Str) 100)] : List Grand) 10 300) ([115,104,111,112] : Str) 100).bind fun y2 =>
  (q77k n).bind fun y3 =>
  (q75k n).bind fun y4 =>
  (diary_Accept n (Diary.mk ([([115,104,111,112] : Str),([104,97,108,108] : Str),([104,111,109,101] : Str)] : List Str) ([([97,110,110] : Str),([98,111,98] : Str)] : List Str) ([(Road.mk ([115,104,111,112] : Str) ([104,97,108,108] : Str) 30 200),(Road.mk ([104,97,108,108] : Str) ([104,111,109,101] : Str) 20 100),(Road.mk ([115,104,111,112] : Str) ([104,111,109,101] : Str) 60 150)] : List Road) ([(Grand.mk ([103] : Str) ([115,104,111,112] : Str) 150),(Grand.mk ([117] : Str) ([104,111,109,101] : Str) 100)] : List Grand) 10 300) ([(Item.mk 1 0 40 ([103] : Str) ([104,97,108,108] : Str) ([] : Str) 0),(Item.mk 0 50 110 ([103] : Str) ([104,97,108,108] : Str) ([97,110,110] : Str) 0),(Item.mk 2 200 300 ([103] : Str) ([104,97,108,108] : Str) ([] : Str) 0)] : List Item)).bind fun y5 =>
  (q77k n).bind fun y6 =>
  (q75k n).bind fun y7 =>
  (diary_FreeFrom n (Diary.mk ([([115,104,111,112] : Str),([104,97,108,108] : Str),([104,111,109,101] : Str)] : List Str) ([([97,110,110] : Str),([98,111,98] : Str)] : List Str) ([(Road.mk ([115,104,111,112] : Str) ([104,97,108,108] : Str) 30 200),(Road.mk ([104,97,108,108] : Str) ([104,111,109,101] : Str) 20 100),(Road.mk ([115,104,111,112] : Str) ([104,111,109,101] : Str) 60 150)] : List Road) ([(Grand.mk ([103] : Str) ([115,104,111,112] : Str) 150),(Grand.mk ([117] : Str) ([104,111,109,101] : Str) 100)] : List Grand) 10 300) ([(Item.mk 1 0 40 ([103] : Str) ([104,97,108,108] : Str) ([] : Str) 0),(Item.mk 0 50 110 ([103] : Str) ([104,97,108,108] : Str) ([97,110,110] : Str) 0),(Item.mk 2 200 300 ([103] : Str) ([104,97,108,108] : Str) ([] : Str) 0)] : List Item) (Item.mk 0 120 180 ([117] : Str) ([104,111,109,101] : Str) ([97,110,110] : Str) 0)).bind fun y8 =>
  zal (fun (v12 : Int) =>
      zal (fun (v16 : Bool) =>
          some v16) fun k2 =>
      bif (y2.1 == (0 : Int)) then
        (q73k n y2.2 ([0,30,50] : List Int)).bind fun y13 =>
        bif ((((((y2.1 == (0 : Int)) && y13) && (y5.1 == (0 : Int))) && (y5.2 == ((-1) : Int))) && (y8.1 == (0 : Int))) && (y8.2 == (130 : Int))) && (v12 == (0 : Int)) then
          (q73k n ([] : List Int) ([0,1,2,(-1)] : List Int)).bind fun y14 =>
          k2 ((((((((y2.1 == (0 : Int)) && y13) && (y5.1 == (0 : Int))) && (y5.2 == ((-1) : Int))) && (y8.1 == (0 : Int))) && (y8.2 == (130 : Int))) && (v12 == (0 : Int))) && y14)
        else
          k2 ((((((((y2.1 == (0 : Int)) && y13) && (y5.1 == (0 : Int))) && (y5.2 == ((-1) : Int))) && (y8.1 == (0 : Int))) && (y8.2 == (130 : Int))) && (v12 == (0 : Int))) && false)
      else
        bif ((((((y2.1 == (0 : Int)) && false) && (y5.1 == (0 : Int))) && (y5.2 == ((-1) : Int))) && (y8.1 == (0 : Int))) && (y8.2 == (130 : Int))) && (v12 == (0 : Int)) then
          (q73k n ([] : List Int) ([0,1,2,(-1)] : List Int)).bind fun y15 =>
          k2 ((((((((y2.1 == (0 : Int)) && false) && (y5.1 == (0 : Int))) && (y5.2 == ((-1) : Int))) && (y8.1 == (0 : Int))) && (y8.2 == (130 : Int))) && (v12 == (0 : Int))) && y15)
        else
          k2 ((((((((y2.1 == (0 : Int)) && false) && (y5.1 == (0 : Int))) && (y5.2 == ((-1) : Int))) && (y8.1 == (0 : Int))) && (y8.2 == (130 : Int))) && (v12 == (0 : Int))) && false)) fun k1 =>
  zal (fun (v17 : (List Int)) =>
      zal (fun (v21 : Bool) =>
          some v21) fun k4 =>
      bif (y2.1 == (0 : Int)) then
        (q73k n y2.2 ([0,30,50] : List Int)).bind fun y18 =>
        bif ((((((y2.1 == (0 : Int)) && y18) && (y5.1 == (0 : Int))) && (y5.2 == ((-1) : Int))) && (y8.1 == (0 : Int))) && (y8.2 == (130 : Int))) && true then
          (q88k n v17 0 ((List.replicate ((IntKind.u64.wrap ((IntKind.u64.wrap ((([(-1)] : List Int).length : Nat) : Int)) * (IntKind.u64.wrap ((([(Window.mk 0 2),(Window.mk 0 2),(Window.mk 1 3),(Window.mk 2 3)] : List Window).length : Nat) : Int)))).toNat) (0 : Int)).length) ([0,1,2,(-1)] : List Int)).bind fun y19 =>
          k4 ((((((((y2.1 == (0 : Int)) && y18) && (y5.1 == (0 : Int))) && (y5.2 == ((-1) : Int))) && (y8.1 == (0 : Int))) && (y8.2 == (130 : Int))) && true) && y19)
        else
          k4 ((((((((y2.1 == (0 : Int)) && y18) && (y5.1 == (0 : Int))) && (y5.2 == ((-1) : Int))) && (y8.1 == (0 : Int))) && (y8.2 == (130 : Int))) && true) && false)
      else
        bif ((((((y2.1 == (0 : Int)) && false) && (y5.1 == (0 : Int))) && (y5.2 == ((-1) : Int))) && (y8.1 == (0 : Int))) && (y8.2 == (130 : Int))) && true then
          (q88k n v17 0 ((List.replicate ((IntKind.u64.wrap ((IntKind.u64.wrap ((([(-1)] : List Int).length : Nat) : Int)) * (IntKind.u64.wrap ((([(Window.mk 0 2),(Window.mk 0 2),(Window.mk 1 3),(Window.mk 2 3)] : List Window).length : Nat) : Int)))).toNat) (0 : Int)).length) ([0,1,2,(-1)] : List Int)).bind fun y20 =>
          k4 ((((((((y2.1 == (0 : Int)) && false) && (y5.1 == (0 : Int))) && (y5.2 == ((-1) : Int))) && (y8.1 == (0 : Int))) && (y8.2 == (130 : Int))) && true) && y20)
        else
          k4 ((((((((y2.1 == (0 : Int)) && false) && (y5.1 == (0 : Int))) && (y5.2 == ((-1) : Int))) && (y8.1 == (0 : Int))) && (y8.2 == (130 : Int))) && true) && false)) fun k3 =>
  (diary_Most n ([(Window.mk 0 2),(Window.mk 0 2),(Window.mk 1 3),(Window.mk 2 3)] : List Window)).bind fun y9 =>
  match y9 with
  | .inl y9 =>
    k1 y9
  | .inr y9 =>
    k3 y9
def q67k (a0 : List Str) (k1 : (Unit → Option Bool)) (back : Nat → Option Bool) : Nat → Option Bool
  | v1 =>
  bif decide (v1 < a0.length) then
    bif decide (30 < ((ix a0 v1).length)) then
      some false
    else
      chk (nI (v1 + 1)) <|
      back (v1 + 1)
  else
    k1 ()
def q51k (n : Nat) (a0 : List Str) (a1 : Int) (a2 : Int) : Option Bool :=
  zal (fun (_ : Unit) =>
      chk (!((!(decide (((a0.length : Nat) : Int) ≤ a1))) && (decide (a2 < ((a0.length : Nat) : Int)))) || inI (a2 + 3)) <|
      some ((decide (((a0.length : Nat) : Int) ≤ a1)) || ((decide (a2 < ((a0.length : Nat) : Int))) && (decide (((a0.length : Nat) : Int) ≤ (a2 + 3)))))) fun k1 =>
  loopN (q67k a0 k1) n 0
def q42k (a0 : Diary) (k2 : (Unit → Option Bool)) (back : Nat → Option Bool) : Nat → Option Bool
  | v4 =>
  bif decide (v4 < a0.Gds.length) then
    bif (decide (30 < (((ix a0.Gds v4).Name).length))) || (decide (30 < (((ix a0.Gds v4).Place).length))) then
      some false
    else
      chk (nI (v4 + 1)) <|
      back (v4 + 1)
  else
    k2 ()
def q66k (a0 : Diary) (k1 : (Unit → Option Bool)) (back : Nat → Option Bool) : Nat → Option Bool
  | v3 =>
  bif decide (v3 < a0.Roads.length) then
    bif (decide (30 < (((ix a0.Roads v3).A).length))) || (decide (30 < (((ix a0.Roads v3).B).length))) then
      some false
    else
      chk (nI (v3 + 1)) <|
      back (v3 + 1)
  else
    k1 ()
def q74k (n : Nat) (a0 : Diary) : Option Bool :=
  (q51k n a0.Pcs 6 20).bind fun y1 =>
  (zeh (!(!y1)) (q51k n a0.Tc 4 12)).bind fun y2 =>
  bif (((((!y1) || (!y2)) || ((decide (8 < a0.Roads.length)) && (decide (a0.Roads.length ≤ 60)))) || (decide (63 < a0.Roads.length))) || ((decide (4 < a0.Gds.length)) && (decide (a0.Gds.length ≤ 12)))) || (decide (15 < a0.Gds.length)) then
    some false
  else
    zal (fun (_ : Unit) =>
        zal (fun (_ : Unit) =>
            some true) fun k2 =>
        loopN (q42k a0 k2) n 0) fun k1 =>
    loopN (q66k a0 k1) n 0
def q92k (n : Nat) (a0 : Item) : Option Unit :=
  some ()
def q29k (n : Nat) (a0 : Int) : Option Unit :=
  some ()
def q81k (n : Nat) (a0 : Int) : Option Unit :=
  some ()
def q65k (n : Nat) (a0 : Str) (k1 : (Unit → Option Bool)) (back : Nat → Option Bool) : Nat → Option Bool
  | v4 =>
  bif decide (v4 < a0.length) then
    (q29k n (((List.getD a0 v4 0).toNat : Nat) : Int)).bind fun y5 =>
    (zeh (!(((decide ((97 : Int) ≤ (((List.getD a0 v4 0).toNat : Nat) : Int))) && (decide ((((List.getD a0 v4 0).toNat : Nat) : Int) ≤ (122 : Int)))) || ((decide ((65 : Int) ≤ (((List.getD a0 v4 0).toNat : Nat) : Int))) && (decide ((((List.getD a0 v4 0).toNat : Nat) : Int) ≤ (90 : Int)))))) (q81k n (((List.getD a0 v4 0).toNat : Nat) : Int))).bind fun y6 =>
    bif ((!(((decide ((97 : Int) ≤ (((List.getD a0 v4 0).toNat : Nat) : Int))) && (decide ((((List.getD a0 v4 0).toNat : Nat) : Int) ≤ (122 : Int)))) || ((decide ((65 : Int) ≤ (((List.getD a0 v4 0).toNat : Nat) : Int))) && (decide ((((List.getD a0 v4 0).toNat : Nat) : Int) ≤ (90 : Int)))))) && (!((decide ((48 : Int) ≤ (((List.getD a0 v4 0).toNat : Nat) : Int))) && (decide ((((List.getD a0 v4 0).toNat : Nat) : Int) ≤ (57 : Int)))))) && ((((List.getD a0 v4 0).toNat : Nat) : Int) != (45 : Int)) then
      some false
    else
      chk (nI (v4 + 1)) <|
      back (v4 + 1)
  else
    k1 ()
def q28k (n : Nat) (a0 : Str) : Option Bool :=
  chk (!(!((decide (a0.length = 0)) || (decide (12 < a0.length)))) || decide (0 < a0.length)) <|
  (zeh (!((decide (a0.length = 0)) || (decide (12 < a0.length)))) (q29k n (((List.getD a0 0 0).toNat : Nat) : Int))).bind fun y1 =>
  bif ((decide (a0.length = 0)) || (decide (12 < a0.length))) || (!(((decide ((97 : Int) ≤ (((List.getD a0 0 0).toNat : Nat) : Int))) && (decide ((((List.getD a0 0 0).toNat : Nat) : Int) ≤ (122 : Int)))) || ((decide ((65 : Int) ≤ (((List.getD a0 0 0).toNat : Nat) : Int))) && (decide ((((List.getD a0 0 0).toNat : Nat) : Int) ≤ (90 : Int)))))) then
    some false
  else
    zal (fun (_ : Unit) =>
        some true) fun k1 =>
    loopN (q65k n a0 k1) n 0
def q57k (a0 : List Str) (a1 : Str) (k1 : (Unit → Option Bool)) (back : Nat → Option Bool) : Nat → Option Bool
  | v1 =>
  bif decide (v1 < a0.length) then
    bif ((ix a0 v1) == a1) then
      some true
    else
      chk (nI (v1 + 1)) <|
      back (v1 + 1)
  else
    k1 ()
def q22k (n : Nat) (a0 : List Str) (a1 : Str) : Option Bool :=
  zal (fun (_ : Unit) =>
      some false) fun k1 =>
  loopN (q57k a0 a1 k1) n 0
def q69k (n : Nat) (a0 : List Str) (k1 : (Unit → Option Int)) (back : Nat → Option Int) : Nat → Option Int
  | v3 =>
  bif decide (v3 < a0.length) then
    (q28k n (ix a0 v3)).bind fun y4 =>
    bif !y4 then
      some 4
    else
      chk (decide (v3 ≤ a0.length)) <|
      (q22k n (List.take v3 a0) (ix a0 v3)).bind fun y5 =>
      bif y5 then
        some 5
      else
        chk (nI (v3 + 1)) <|
        back (v3 + 1)
  else
    k1 ()
def q52k (n : Nat) (a0 : List Str) (a1 : Int) : Option Int :=
  bif decide (a1 < ((a0.length : Nat) : Int)) then
    some 8
  else
    zal (fun (_ : Unit) =>
        some 0) fun k1 =>
    loopN (q69k n a0 k1) n 0
def q70k (a0 : Diary) (a1 : Str) (k1 : (Unit → Option Int)) (back : Nat → Option Int) : Nat → Option Int
  | v1 =>
  bif decide (v1 < a0.Pcs.length) then
    bif ((ix a0.Pcs v1) == a1) then
      some ((v1 : Nat) : Int)
    else
      chk (nI (v1 + 1)) <|
      back (v1 + 1)
  else
    k1 ()
def q10k (n : Nat) (a0 : Diary) (a1 : Str) : Option Int :=
  zal (fun (_ : Unit) =>
      some (-1)) fun k1 =>
  loopN (q70k a0 a1 k1) n 0
def q1k (n : Nat) (a0 : Int) (a1 : Int) (a2 : Int) : Option Unit :=
  some ()
def q30k (n : Nat) (a0 : Int) : Option Unit :=
  (q1k n a0 1 10000).bind fun y1 =>
  some ()
def q54k (a0 : Diary) (a1 : Str) (k1 : (Unit → Option Int)) (back : Nat → Option Int) : Nat → Option Int
  | v1 =>
  bif decide (v1 < a0.Gds.length) then
    bif (((ix a0.Gds v1).Name) == a1) then
      some ((v1 : Nat) : Int)
    else
      chk (nI (v1 + 1)) <|
      back (v1 + 1)
  else
    k1 ()
def q4k (n : Nat) (a0 : Diary) (a1 : Str) : Option Int :=
  zal (fun (_ : Unit) =>
      some (-1)) fun k1 =>
  loopN (q54k a0 a1 k1) n 0
def q9k (n : Nat) (a0 : Diary) (k2 : (Unit → Option Int)) (back : Nat → Option Int) : Nat → Option Int
  | v15 =>
  bif decide (v15 < a0.Gds.length) then
    (q28k n ((ix a0.Gds v15).Name)).bind fun y16 =>
    bif !y16 then
      some 4
    else
      (q4k n a0 ((ix a0.Gds v15).Name)).bind fun y17 =>
      bif decide (y17 < ((v15 : Nat) : Int)) then
        some 5
      else
        (q10k n a0 ((ix a0.Gds v15).Place)).bind fun y18 =>
        bif decide (y18 < (0 : Int)) then
          some 6
        else
          (q30k n ((ix a0.Gds v15).Width)).bind fun y19 =>
          bif !((decide (1 ≤ ((ix a0.Gds v15).Width))) && (decide (((ix a0.Gds v15).Width) ≤ 10000))) then
            some 2
          else
            chk (nI (v15 + 1)) <|
            back (v15 + 1)
  else
    k2 ()
def q8k (n : Nat) (a0 : Diary) (k1 : (Unit → Option Int)) (back : Nat → Option Int) : Nat → Option Int
  | v6 =>
  bif decide (v6 < a0.Roads.length) then
    (q10k n a0 ((ix a0.Roads v6).A)).bind fun y7 =>
    (zeh (!(decide (y7 < (0 : Int)))) (q10k n a0 ((ix a0.Roads v6).B))).bind fun y8 =>
    bif (decide (y7 < (0 : Int))) || (decide (y8 < (0 : Int))) then
      some 6
    else
      bif (((ix a0.Roads v6).A) == ((ix a0.Roads v6).B)) then
        some 3
      else
        (q1k n ((ix a0.Roads v6).Minutes) 1 10000).bind fun y9 =>
        (zeh (!(!((decide (1 ≤ ((ix a0.Roads v6).Minutes))) && (decide (((ix a0.Roads v6).Minutes) ≤ 10000))))) (q30k n ((ix a0.Roads v6).Width))).bind fun y10 =>
        bif (!((decide (1 ≤ ((ix a0.Roads v6).Minutes))) && (decide (((ix a0.Roads v6).Minutes) ≤ 10000)))) || (!((decide (1 ≤ ((ix a0.Roads v6).Width))) && (decide (((ix a0.Roads v6).Width) ≤ 10000)))) then
          some 2
        else
          chk (nI (v6 + 1)) <|
          back (v6 + 1)
  else
    k1 ()
def q27k (n : Nat) (a0 : Diary) : Option Int :=
  (q52k n a0.Pcs 20).bind fun y1 =>
  bif (y1 != (0 : Int)) then
    some y1
  else
    bif decide (60 < a0.Roads.length) then
      some 8
    else
      zal (fun (_ : Unit) =>
          bif decide (12 < a0.Gds.length) then
            some 8
          else
            zal (fun (_ : Unit) =>
                (q52k n a0.Tc 12).bind fun y20 =>
                bif (y20 != (0 : Int)) then
                  some y20
                else
                  (q1k n a0.Change 0 1000).bind fun y21 =>
                  (zeh (!(!((decide (0 ≤ a0.Change)) && (decide (a0.Change ≤ 1000))))) (q1k n a0.Lasts 0 100000)).bind fun y22 =>
                  bif (!((decide (0 ≤ a0.Change)) && (decide (a0.Change ≤ 1000)))) || (!((decide (0 ≤ a0.Lasts)) && (decide (a0.Lasts ≤ 100000)))) then
                    some 2
                  else
                    some 0) fun k2 =>
            loopN (q9k n a0 k2) n 0) fun k1 =>
      loopN (q8k n a0 k1) n 0
def q41k (n : Nat) (a0 : List Str) : Option Unit :=
  chk (room 16 a0.length) <|
  some ()
def q40k (n : Nat) (a0 : Diary) : Option Unit :=
  (q41k n a0.Pcs).bind fun y1 =>
  (q41k n a0.Tc).bind fun y2 =>
  chk (room 48 a0.Roads.length) <|
  chk (room 40 a0.Gds.length) <|
  some ()
def q3k (n : Nat) (a0 : Int) : Option Unit :=
  (q1k n a0 0 1000000).bind fun y1 =>
  some ()
def q35k (n : Nat) (a0 : Diary) (a1 : Item) : Option Int :=
  (q1k n a1.Kind 0 3).bind fun y1 =>
  bif !((decide (0 ≤ a1.Kind)) && (decide (a1.Kind ≤ 3))) then
    some 15
  else
    (q3k n a1.From).bind fun y2 =>
    (zeh (!(!((decide (0 ≤ a1.From)) && (decide (a1.From ≤ 1000000))))) (q3k n a1.To)).bind fun y3 =>
    bif (!((decide (0 ≤ a1.From)) && (decide (a1.From ≤ 1000000)))) || (!((decide (0 ≤ a1.To)) && (decide (a1.To ≤ 1000000)))) then
      some 2
    else
      bif decide (a1.To ≤ a1.From) then
        some 9
      else
        (q4k n a0 a1.Grand).bind fun y4 =>
        (zeh (!(decide (y4 < (0 : Int)))) (q10k n a0 a1.Place)).bind fun y5 =>
        bif (decide (y4 < (0 : Int))) || (decide (y5 < (0 : Int))) then
          some 6
        else
          (zeh (a1.Kind == (0 : Int)) (q22k n a0.Tc a1.Who)).bind fun y6 =>
          bif (a1.Kind == (0 : Int)) && (!y6) then
            some 6
          else
            bif (a1.Kind == (3 : Int)) then
              (q28k n a1.Who).bind fun y7 =>
              bif !y7 then
                some 4
              else
                (q1k n a1.Deposit 0 1000000000).bind fun y8 =>
                bif !((decide (0 ≤ a1.Deposit)) && (decide (a1.Deposit ≤ 1000000000))) then
                  some 2
                else
                  some 0
            else
              bif (a1.Deposit != (0 : Int)) || ((a1.Kind != (0 : Int)) && (!(a1.Who == ([] : Str)))) then
                some 3
              else
                some 0
def q82k (n : Nat) (a0 : List Item) (k1 : (Unit → Option Bool)) (back : Nat → Option Bool) : Nat → Option Bool
  | v2 =>
  bif decide (v2 < a0.length) then
    (q92k n (ix a0 v2)).bind fun y3 =>
    bif !(((decide ((ix a0 v2).Grand.length ≤ 30)) && (decide ((ix a0 v2).Place.length ≤ 30))) && (decide ((ix a0 v2).Who.length ≤ 30))) then
      some false
    else
      chk (nI (v2 + 1)) <|
      back (v2 + 1)
  else
    k1 ()
def q86k (n : Nat) (a0 : List Item) : Option Bool :=
  zal (fun (_ : Unit) =>
      some ((decide (a0.length ≤ 10)) || ((decide (100 < a0.length)) && (decide (a0.length ≤ 103))))) fun k1 =>
  loopN (q82k n a0 k1) n 0
def q126k (n : Nat) (a0 : List Item) : Option Unit :=
  chk (room 80 a0.length) <|
  some ()
def q16k (n : Nat) (a0 : List Item) : Option Unit :=
  chk (room 80 a0.length) <|
  some ()
def q60k (a0 : Diary) (a1 : Str) (a2 : Str) (a3 : Int) (k2 : (Int → Option Int)) (back : Int × Nat → Option Int) : Int × Nat → Option Int
  | (v2,v3) =>
  bif decide (v3 < a0.Roads.length) then
    zal (fun (v4 : Int) =>
        chk (nI (v3 + 1)) <|
        back (v4,v3 + 1)) fun k1 =>
    bif ((((((ix a0.Roads v3).A) == a1) && (((ix a0.Roads v3).B) == a2)) || ((((ix a0.Roads v3).A) == a2) && (((ix a0.Roads v3).B) == a1))) && (decide (a3 ≤ ((ix a0.Roads v3).Width)))) && ((decide (v2 < (0 : Int))) || (decide (((ix a0.Roads v3).Minutes) < v2))) then
      k1 ((ix a0.Roads v3).Minutes)
    else
      k1 v2
  else
    k2 v2
def q59k (n : Nat) (a0 : Diary) (a1 : Str) (a2 : Str) (a3 : Int) : Option Int :=
  zal (fun (v5 : Int) =>
      some v5) fun k2 =>
  loopN (q60k a0 a1 a2 a3 k2) n ((-1),0)
def q18k (n : Nat) (a0 : Diary) (a2 : Int) (v44 : Nat) (k3 : (Bool × (List Int) → Option (List Int))) (back : Bool × Nat × (List Int) → Option (List Int)) : Bool × Nat × (List Int) → Option (List Int)
  | (v49,v50,v51) =>
  bif decide (v50 < v51.length) then
    zal (fun (v53,v54) =>
        chk (nI (v50 + 1)) <|
        back (v53,v50 + 1,v54)) fun k2 =>
    chk (decide (v44 < a0.Pcs.length)) <|
    chk (decide (v50 < a0.Pcs.length)) <|
    (q59k n a0 (ix a0.Pcs v44) (ix a0.Pcs v50) a2).bind fun y52 =>
    chk (decide (v44 < v51.length)) <|
    chk (!((!((decide ((ix v51 v44) < (0 : Int))) || (decide (y52 < (0 : Int))))) && (decide ((0 : Int) ≤ (ix v51 v50)))) || inI ((ix v51 v44) + y52)) <|
    bif ((decide ((ix v51 v44) < (0 : Int))) || (decide (y52 < (0 : Int)))) || ((decide ((0 : Int) ≤ (ix v51 v50))) && (decide ((ix v51 v50) ≤ ((ix v51 v44) + y52)))) then
      k2 (v49,v51)
    else
      chk (inI ((ix v51 v44) + y52)) <|
      k2 (true,(List.set v51 v50 ((ix v51 v44) + y52)))
  else
    k3 (v49,v51)
def q19k (n : Nat) (a0 : Diary) (a2 : Int) (k4 : (Bool × (List Int) → Option (List Int))) (back : Bool × Nat × (List Int) → Option (List Int)) : Bool × Nat × (List Int) → Option (List Int)
  | (v43,v44,v45) =>
  bif decide (v44 < v45.length) then
    zal (fun (v55,v56) =>
        chk (nI (v44 + 1)) <|
        back (v55,v44 + 1,v56)) fun k3 =>
    loopN (q18k n a0 a2 v44 k3) n (v43,0,v45)
  else
    k4 (v43,v45)
def q20k (n : Nat) (a0 : Diary) (a2 : Int) (k5 : ((List Int) → Option (List Int))) (k4 : Bool × (List Int) → Option (List Int)) : Bool × (List Int) → Option (List Int)
  | (v30,v31) =>
  bif v30 then
    loopN (q19k n a0 a2 k4) n (false,0,v31)
  else
    k5 v31
def q17k (k1 : ((List Int) → Option (List Int))) (back : Nat × (List Int) → Option (List Int)) : Nat × (List Int) → Option (List Int)
  | (v1,v2) =>
  bif decide (v1 < v2.length) then
    chk (nI (v1 + 1)) <|
    back (v1 + 1,(List.set v2 v1 (-1)))
  else
    k1 v2
def q36k (n : Nat) (a0 : Diary) (a1 : Str) (a2 : Int) : Option (List Int) :=
  chk (mkroom 8 a0.Pcs.length) <|
  zal (fun (v3 : (List Int)) =>
      (q10k n a0 a1).bind fun y4 =>
      chk (inB y4 v3.length) <|
      chk (decide (y4.toNat < v3.length)) <|
      zal (fun (v57 : (List Int)) =>
          some v57) fun k5 =>
      loopN (q20k n a0 a2 k5) n (true,(List.set v3 y4.toNat 0))) fun k1 =>
  loopN (q17k k1) n (0,(List.replicate a0.Pcs.length (0 : Int)))
def q25k (n : Nat) (a0 : Diary) (a1 : Str) (a2 : Str) (a3 : Int) : Option Int :=
  (q36k n a0 a1 a3).bind fun y1 =>
  (q10k n a0 a2).bind fun y2 =>
  chk (inB y2 y1.length) <|
  chk (decide (y2.toNat < y1.length)) <|
  some (ix y1 y2.toNat)
def zet (n : Nat) (a0 : Item) (a1 : Str) (a2 : Int) : Option Unit :=
  some ()
def q33k (n : Nat) (a0 : List Item) (a1 : Str) (a2 : Int) (k1 : (Unit → Option Int)) (back : Nat → Option Int) : Nat → Option Int
  | v2 =>
  bif decide (v2 < a0.length) then
    (zet n (ix a0 v2) a1 a2).bind fun y3 =>
    bif ((((ix a0 v2).Kind == (1 : Int)) && ((ix a0 v2).Grand == a1)) && (decide ((ix a0 v2).From ≤ a2))) && (decide (a2 < (ix a0 v2).To)) then
      some ((v2 : Nat) : Int)
    else
      chk (nI (v2 + 1)) <|
      back (v2 + 1)
  else
    k1 ()
def q56k (n : Nat) (a0 : List Item) (a1 : Str) (a2 : Int) : Option Int :=
  zal (fun (_ : Unit) =>
      some (-1)) fun k1 =>
  loopN (q33k n a0 a1 a2 k1) n 0
def q11k (n : Nat) (a0 : List Item) (a1 : Str) (a2 : Int) : Option Bool :=
  (q56k n a0 a1 a2).bind fun y1 =>
  some (decide ((0 : Int) ≤ y1))
def diary_PlaceOf (n : Nat) (a0 : Diary) (a1 : List Item) (a2 : Moment) : Option (Int × Str) :=
  zal (fun (v4 : Int) =>
      bif (v4 != (0 : Int)) then
        some (v4,([] : Str))
      else
        (zca n a0 a2.Grand).bind fun y5 =>
        bif !y5.2.2.2 then
          some (6,([] : Str))
        else
          (zbh n a2.Minute).bind fun y6 =>
          bif !((decide (0 ≤ a2.Minute)) && (decide (a2.Minute ≤ 1000000))) then
            some (2,([] : Str))
          else
            (q11k n a1 a2.Grand a2.Minute).bind fun y7 =>
            bif y7 then
              some (0,([] : Str))
            else
              none) fun k1 =>
  zal (fun (v8,v9) =>
      bif (v8 != (0 : Int)) then
        some (v8,([] : Str))
      else
        (zca n a0 a2.Grand).bind fun y10 =>
        bif !y10.2.2.2 then
          some (6,([] : Str))
        else
          (zbh n a2.Minute).bind fun y11 =>
          bif !((decide (0 ≤ a2.Minute)) && (decide (a2.Minute ≤ 1000000))) then
            some (2,([] : Str))
          else
            (q11k n a1 a2.Grand a2.Minute).bind fun y12 =>
            bif y12 then
              some (0,([] : Str))
            else
              (zcf n a0.Pcs a0.Tc a0.Roads a0.Gds a0.Change a0.Lasts v9 a1 a2.Grand a2.Minute).bind fun y13 =>
              some (0,y13)) fun k2 =>
  (zei n a0 a1).bind fun y1 =>
  match y1 with
  | .inl y1 =>
    k1 y1
  | .inr y1 =>
    k2 (y1.1,y1.2)
def q61k (a1 : List Item) (a2 : Str) (a3 : Int) (k2 : (Str → Option Str)) (back : Str × Nat → Option Str) : Str × Nat → Option Str
  | (v3,v4) =>
  bif decide (v4 < a1.length) then
    zal (fun (v5 : Str) =>
        chk (nI (v4 + 1)) <|
        back (v5,v4 + 1)) fun k1 =>
    bif ((((ix a1 v4).Kind) == (1 : Int)) && (((ix a1 v4).Grand) == a2)) && (decide (((ix a1 v4).To) ≤ a3)) then
      k1 ((ix a1 v4).Place)
    else
      k1 v3
  else
    k2 v3
def q38k (n : Nat) (a0 : Diary) (a1 : List Item) (a2 : Str) (a3 : Int) : Option Str :=
  (q4k n a0 a2).bind fun y1 =>
  chk (inB y1 a0.Gds.length) <|
  chk (decide (y1.toNat < a0.Gds.length)) <|
  zal (fun (v6 : Str) =>
      some v6) fun k2 =>
  loopN (q61k a1 a2 a3 k2) n ((ix a0.Gds y1.toNat).Place,0)
def q68k (a0 : Diary) (a1 : List Item) (a2 : Item) (k3 : (Int → Option Int)) (back : Int × Nat → Option Int) : Int × Nat → Option Int
  | (v2,v3) =>
  bif decide (v3 < a1.length) then
    zal (fun (v5 : Int) =>
        chk (nI (v3 + 1)) <|
        back (v5,v3 + 1)) fun k2 =>
    bif !(((ix a1 v3).Grand) == a2.Grand) then
      k2 v2
    else
      zal (fun (v4 : Int) =>
          chk (!((((ix a1 v3).Kind) == (0 : Int)) && (decide (((ix a1 v3).To) ≤ a2.From))) || inI (a2.From - ((ix a1 v3).To))) <|
          bif ((((ix a1 v3).Kind) == (0 : Int)) && (decide (((ix a1 v3).To) ≤ a2.From))) && (decide ((a2.From - ((ix a1 v3).To)) ≤ a0.Lasts)) then
            k2 ((v3 : Nat) : Int)
          else
            k2 v4) fun k1 =>
      bif (((ix a1 v3).Kind) == (1 : Int)) then
        k1 (-1)
      else
        k1 v2
  else
    k3 v2
def q32k (n : Nat) (a0 : Diary) (a1 : List Item) (a2 : Item) : Option Int :=
  zal (fun (v6 : Int) =>
      some v6) fun k3 =>
  loopN (q68k a0 a1 a2 k3) n ((-1),0)
def q21k (n : Nat) (a0 : Diary) (a1 : List Item) (a2 : Item) (k4 : (Unit → Option Int)) (back : Nat → Option Int) : Nat → Option Int
  | v6 =>
  bif (decide (v6 < a1.length)) && (a2.Kind == (0 : Int)) then
    zal (fun (_ : Unit) =>
        chk (nI (v6 + 1)) <|
        back (v6 + 1)) fun k3 =>
    chk (decide (v6 < a1.length)) <|
    bif (((ix a1 v6).Kind) != (0 : Int)) || (!(((ix a1 v6).Who) == a2.Who)) then
      k3 ()
    else
      (q25k n a0 ((ix a1 v6).Place) a2.Place 1).bind fun y7 =>
      chk (!(!(decide (y7 < (0 : Int)))) || inI (((ix a1 v6).To) + y7)) <|
      bif (decide (y7 < (0 : Int))) || (decide (a2.From < (((ix a1 v6).To) + y7))) then
        some 16
      else
        k3 ()
  else
    k4 ()
def q63k (a0 : Diary) (a1 : List Item) (a2 : Item) (k1 : (Unit → Option Int)) (back : Nat → Option Int) : Nat → Option Int
  | v1 =>
  bif decide (v1 < a1.length) then
    chk (!(((ix a1 v1).Grand) == a2.Grand) || inI (((ix a1 v1).To) + a0.Change)) <|
    bif (((ix a1 v1).Grand) == a2.Grand) && (decide (a2.From < (((ix a1 v1).To) + a0.Change))) then
      some 17
    else
      chk (nI (v1 + 1)) <|
      back (v1 + 1)
  else
    k1 ()
def q62k (n : Nat) (a0 : Diary) (a1 : List Item) (a2 : Item) : Option Int :=
  zal (fun (_ : Unit) =>
      (q38k n a0 a1 a2.Grand a2.From).bind fun y2 =>
      bif (a2.Kind != (1 : Int)) && (!(y2 == a2.Place)) then
        some 13
      else
        zal (fun (_ : Unit) =>
            zal (fun (_ : Unit) =>
                (zeh (a2.Kind == (2 : Int)) (q32k n a0 a1 a2)).bind fun y8 =>
                bif (a2.Kind == (2 : Int)) && (decide (y8 < (0 : Int))) then
                  some 26
                else
                  some 0) fun k4 =>
            loopN (q21k n a0 a1 a2 k4) n 0) fun k2 =>
        bif (a2.Kind == (1 : Int)) then
          bif (y2 == a2.Place) then
            some 24
          else
            (q4k n a0 a2.Grand).bind fun y3 =>
            chk (inB y3 a0.Gds.length) <|
            chk (decide (y3.toNat < a0.Gds.length)) <|
            (q25k n a0 y2 a2.Place ((ix a0.Gds y3.toNat).Width)).bind fun y4 =>
            bif decide (y4 < (0 : Int)) then
              some 12
            else
              chk (inI (a2.To - a2.From)) <|
              bif decide ((a2.To - a2.From) < y4) then
                some 18
              else
                k2 ()
        else
          k2 ()) fun k1 =>
  loopN (q63k a0 a1 a2 k1) n 0
def q34k (n : Nat) (a0 : Diary) (a1 : List Item) (k1 : (Unit → Option (Int × Int))) (back : Nat → Option (Int × Int)) : Nat → Option (Int × Int)
  | v4 =>
  bif decide (v4 < a1.length) then
    (q35k n a0 (ix a1 v4)).bind fun y5 =>
    bif (y5 != (0 : Int)) then
      some (y5,((v4 : Nat) : Int))
    else
      chk (!(decide (0 < v4)) || inI (((v4 : Nat) : Int) - 1)) <|
      chk (!(decide (0 < v4)) || inB (((v4 : Nat) : Int) - 1) a1.length) <|
      chk (!(decide (0 < v4)) || decide ((((v4 : Nat) : Int) - 1).toNat < a1.length)) <|
      bif (decide (0 < v4)) && (decide (((ix a1 v4).From) < ((ix a1 ((((v4 : Nat) : Int) - 1).toNat)).From))) then
        some (9,((v4 : Nat) : Int))
      else
        chk (decide (v4 ≤ a1.length)) <|
        (q62k n a0 (List.take v4 a1) (ix a1 v4)).bind fun y6 =>
        bif (y6 != (0 : Int)) then
          some (y6,((v4 : Nat) : Int))
        else
          chk (nI (v4 + 1)) <|
          back (v4 + 1)
  else
    k1 ()
def q58k (n : Nat) (a0 : Diary) (a1 : List Item) : Option (Int × Int) :=
  (q27k n a0).bind fun y1 =>
  bif (y1 != (0 : Int)) then
    some (y1,0)
  else
    bif decide (100 < a1.length) then
      some (8,0)
    else
      zal (fun (_ : Unit) =>
          some (0,(-1))) fun k1 =>
      loopN (q34k n a0 a1 k1) n 0
def q122k (n : Nat) (a0 : Int) : Option Int :=
  zal (fun (v1,v2) =>
      zal (fun (v3,v4) =>
          zal (fun (v5,v6) =>
              chk (inB (IntKind.u8.wrap v5) (([0,1,2,2,3,3,3,3,4,4,4,4,4,4,4,4,5,5,5,5,5,5,5,5,5,5,5,5,5,5,5,5,6,6,6,6,6,6,6,6,6,6,6,6,6,6,6,6,6,6,6,6,6,6,6,6,6,6,6,6,6,6,6,6,7,7,7,7,7,7,7,7,7,7,7,7,7,7,7,7,7,7,7,7,7,7,7,7,7,7,7,7,7,7,7,7,7,7,7,7,7,7,7,7,7,7,7,7,7,7,7,7,7,7,7,7,7,7,7,7,7,7,7,7,7,7,7,7,8,8,8,8,8,8,8,8,8,8,8,8,8,8,8,8,8,8,8,8,8,8,8,8,8,8,8,8,8,8,8,8,8,8,8,8,8,8,8,8,8,8,8,8,8,8,8,8,8,8,8,8,8,8,8,8,8,8,8,8,8,8,8,8,8,8,8,8,8,8,8,8,8,8,8,8,8,8,8,8,8,8,8,8,8,8,8,8,8,8,8,8,8,8,8,8,8,8,8,8,8,8,8,8,8,8,8,8,8,8,8,8,8,8,8,8,8,8,8,8,8,8,8,8,8,8,8,8] : Str).length)) <|
              chk (inI (v6 + (((List.getD ([0,1,2,2,3,3,3,3,4,4,4,4,4,4,4,4,5,5,5,5,5,5,5,5,5,5,5,5,5,5,5,5,6,6,6,6,6,6,6,6,6,6,6,6,6,6,6,6,6,6,6,6,6,6,6,6,6,6,6,6,6,6,6,6,7,7,7,7,7,7,7,7,7,7,7,7,7,7,7,7,7,7,7,7,7,7,7,7,7,7,7,7,7,7,7,7,7,7,7,7,7,7,7,7,7,7,7,7,7,7,7,7,7,7,7,7,7,7,7,7,7,7,7,7,7,7,7,7,8,8,8,8,8,8,8,8,8,8,8,8,8,8,8,8,8,8,8,8,8,8,8,8,8,8,8,8,8,8,8,8,8,8,8,8,8,8,8,8,8,8,8,8,8,8,8,8,8,8,8,8,8,8,8,8,8,8,8,8,8,8,8,8,8,8,8,8,8,8,8,8,8,8,8,8,8,8,8,8,8,8,8,8,8,8,8,8,8,8,8,8,8,8,8,8,8,8,8,8,8,8,8,8,8,8,8,8,8,8,8,8,8,8,8,8,8,8,8,8,8,8,8,8,8,8,8,8] : Str) ((IntKind.u8.wrap v5).toNat) 0).toNat : Nat) : Int))) <|
              some (v6 + (((List.getD ([0,1,2,2,3,3,3,3,4,4,4,4,4,4,4,4,5,5,5,5,5,5,5,5,5,5,5,5,5,5,5,5,6,6,6,6,6,6,6,6,6,6,6,6,6,6,6,6,6,6,6,6,6,6,6,6,6,6,6,6,6,6,6,6,7,7,7,7,7,7,7,7,7,7,7,7,7,7,7,7,7,7,7,7,7,7,7,7,7,7,7,7,7,7,7,7,7,7,7,7,7,7,7,7,7,7,7,7,7,7,7,7,7,7,7,7,7,7,7,7,7,7,7,7,7,7,7,7,8,8,8,8,8,8,8,8,8,8,8,8,8,8,8,8,8,8,8,8,8,8,8,8,8,8,8,8,8,8,8,8,8,8,8,8,8,8,8,8,8,8,8,8,8,8,8,8,8,8,8,8,8,8,8,8,8,8,8,8,8,8,8,8,8,8,8,8,8,8,8,8,8,8,8,8,8,8,8,8,8,8,8,8,8,8,8,8,8,8,8,8,8,8,8,8,8,8,8,8,8,8,8,8,8,8,8,8,8,8,8,8,8,8,8,8,8,8,8,8,8,8,8,8,8,8,8,8] : Str) ((IntKind.u8.wrap v5).toNat) 0).toNat : Nat) : Int))) fun k3 =>
          bif decide ((256 : Int) ≤ v3) then
            chk (inI (v4 + 8)) <|
            k3 (Int.fdiv v3 (2 ^ (min 8 64)),v4 + 8)
          else
            k3 (v3,v4)) fun k2 =>
      bif decide ((65536 : Int) ≤ v1) then
        chk (inI (v2 + 16)) <|
        k2 (Int.fdiv v1 (2 ^ (min 16 64)),v2 + 16)
      else
        k2 (v1,v2)) fun k1 =>
  bif decide ((4294967296 : Int) ≤ a0) then
    k1 (Int.fdiv a0 (2 ^ (min 32 64)),32)
  else
    k1 (a0,0)
def q87k (n : Nat) (a0 : Int) : Option Int :=
  (q122k n a0).bind fun y1 =>
  some y1
def q96k (n : Nat) (a0 : Int) : Option Unit :=
  some ()
def q50k (n : Nat) (a0 : Int) (a1 : Int) : Option Int :=
  (q96k n a0).bind fun y1 =>
  (q96k n a1).bind fun y2 =>
  bif (a0 != a0) then
    bif (a1 != a1) then
      some 0
    else
      some (-1)
  else
    bif (a1 != a1) then
      some 1
    else
      bif decide (a0 < a1) then
        some (-1)
      else
        bif decide (a1 < a0) then
          some 1
        else
          some 0
def q141k (a0 : List Int) (k1 : (Unit → Option Int)) (back : Nat → Option Int) : Nat → Option Int
  | v1 =>
  bif decide (v1 < a0.length) then
    bif ((ix a0 v1) != (0 : Int)) then
      some (ix a0 v1)
    else
      chk (nI (v1 + 1)) <|
      back (v1 + 1)
  else
    k1 ()
def q152k (n : Nat) (a0 : List Int) : Option Int :=
  zal (fun (_ : Unit) =>
      some 0) fun k1 =>
  loopN (q141k a0 k1) n 0
def diary_Busy_f1 (n : Nat) (a0 : A2i) (a1 : A2i) : Option Int :=
  (q50k n a0.a0 a1.a0).bind fun y1 =>
  (q50k n a0.a1 a1.a1).bind fun y2 =>
  (q152k n ([y1,y2] : List Int)).bind fun y3 =>
  some y3
def q7k (n : Nat) (a1 : Int) (k1 : ((List A2i) → Option (List A2i))) (back : Int × (List A2i) → Option (List A2i)) : Int × (List A2i) → Option (List A2i)
  | (v9,v10) =>
  chk (!(decide (a1 < v9)) || inB v9 v10.length) <|
  chk (!(decide (a1 < v9)) || decide (v9.toNat < v10.length)) <|
  chk (!(decide (a1 < v9)) || inI (v9 - 1)) <|
  chk (!(decide (a1 < v9)) || inB (v9 - 1) v10.length) <|
  chk (!(decide (a1 < v9)) || decide ((v9 - 1).toNat < v10.length)) <|
  (zeh (decide (a1 < v9)) (diary_Busy_f1 n (ix v10 v9.toNat) (ix v10 ((v9 - 1).toNat)))).bind fun y11 =>
  bif (decide (a1 < v9)) && (decide (y11 < (0 : Int))) then
    chk (inI (v9 - 1)) <|
    chk (inB (v9 - 1) v10.length) <|
    chk (decide ((v9 - 1).toNat < v10.length)) <|
    chk (inB v9 v10.length) <|
    chk (decide (v9.toNat < v10.length)) <|
    chk (decide ((v9 - 1).toNat < (List.set v10 v9.toNat (ix v10 ((v9 - 1).toNat))).length)) <|
    back (v9 - 1,(List.set (List.set v10 v9.toNat (ix v10 ((v9 - 1).toNat))) ((v9 - 1).toNat) (ix v10 v9.toNat)))
  else
    k1 v10
def q2k (n : Nat) (a1 : Int) (a2 : Int) (back : Int × (List A2i) → Option (List A2i)) : Int × (List A2i) → Option (List A2i)
  | (v6,v7) =>
  bif decide (v6 < a2) then
    zal (fun (v12 : (List A2i)) =>
        chk (inI (v6 + 1)) <|
        back (v6 + 1,v12)) fun k1 =>
    loopN (q7k n a1 k1) n (v6,v7)
  else
    some v7
def q6k (n : Nat) (a0 : List A2i) (a1 : Int) (a2 : Int) : Option (List A2i) :=
  chk (inI (a1 + 1)) <|
  loopN (q2k n a1 a2) n (a1 + 1,a0)
def q49k (n : Nat) (a0 : List A2i) (a1 : Int) (a2 : Int) (a3 : Int) (back : Unit → Option (List A2i)) : Unit → Option (List A2i)
  | _ =>
  chk (inI (a2 - a1)) <|
  bif decide ((a2 - a1) ≤ (12 : Int)) then
    (q6k n a0 a1 a2).bind fun y1 =>
    chk (decide (a0.length = y1.length)) <|
    some y1
  else
    bif (a3 == (0 : Int)) then
      none
    else
      none
def q15k (n : Nat) (a0 : List A2i) (a1 : Int) (a2 : Int) (a3 : Int) : Option (List A2i) :=
  loopN (q49k n a0 a1 a2 a3) n ()
def q53k (n : Nat) (a0 : List A2i) : Option (List A2i) :=
  (q87k n (IntKind.u64.wrap ((a0.length : Nat) : Int))).bind fun y1 =>
  (q15k n a0 0 ((a0.length : Nat) : Int) y1).bind fun y2 =>
  chk (decide (a0.length = y2.length)) <|
  some y2
def diary_Busy_L1 (a1 : List Item) (a2 : Str) (y3 : Str × Str × Int × Bool) (k3 : ((List A2i) → Option (Int × (List A2i)))) (back : (List A2i) × Nat → Option (Int × (List A2i))) : (List A2i) × Nat → Option (Int × (List A2i))
  | (v6,v7) =>
  bif decide (v7 < a1.length) then
    zal (fun (v8 : (List A2i)) =>
        chk (nI (v7 + 1)) <|
        back (v8,v7 + 1)) fun k2 =>
    bif (y3.2.2.2 && (((ix a1 v7).Grand) == a2)) || (((!y3.2.2.2) && (((ix a1 v7).Kind) == (0 : Int))) && (((ix a1 v7).Who) == a2)) then
      chk (room 16 (v6 ++ ([(A2i.mk ((ix a1 v7).From) ((ix a1 v7).To))] : List A2i)).length) <|
      k2 (v6 ++ ([(A2i.mk ((ix a1 v7).From) ((ix a1 v7).To))] : List A2i))
    else
      k2 v6
  else
    k3 v6
def diary_Busy (n : Nat) (a0 : Diary) (a1 : List Item) (a2 : Str) : Option (Int × (List A2i)) :=
  zal (fun (v2 : Int) =>
      bif (v2 != (0 : Int)) then
        some (v2,([] : List A2i))
      else
        (zca n a0 a2).bind fun y3 =>
        (zeh (!y3.2.2.2) (q0k n a0.Tc a2)).bind fun y4 =>
        bif (!y3.2.2.2) && (!y4) then
          some (6,([] : List A2i))
        else
          zal (fun (v9 : (List A2i)) =>
              (q53k n v9).bind fun y10 =>
              chk (decide (v9.length = y10.length)) <|
              some (0,y10)) fun k3 =>
          loopN (diary_Busy_L1 a1 a2 y3 k3) n (([] : List A2i),0)) fun k1 =>
  (zei n a0 a1).bind fun y1 =>
  match y1 with
  | .inl y1 =>
    k1 y1
  | .inr y1 =>
    k1 y1.1
def zel (a1 : List Item) (a2 : Int) (k3 : (Int → Option (Int × Int))) (back : Int × Nat → Option (Int × Int)) : Int × Nat → Option (Int × Int)
  | (v5,v6) =>
  bif decide (v6 < a1.length) then
    zal (fun (v7 : Int) =>
        chk (nI (v6 + 1)) <|
        back (v7,v6 + 1)) fun k2 =>
    bif ((((ix a1 v6).Kind) == (3 : Int)) && (decide (((ix a1 v6).From) ≤ a2))) && (decide (a2 < ((ix a1 v6).To))) then
      chk (inI (v5 + ((ix a1 v6).Deposit))) <|
      k2 (v5 + ((ix a1 v6).Deposit))
    else
      k2 v5
  else
    k3 v5
def zeq (n : Nat) (a0 : Diary) (a1 : List Item) (a2 : Int) : Option (Int × Int) :=
  zal (fun (v2 : Int) =>
      bif (v2 != (0 : Int)) then
        some (v2,0)
      else
        (zbh n a2).bind fun y3 =>
        bif !((decide (0 ≤ a2)) && (decide (a2 ≤ 1000000))) then
          some (2,0)
        else
          zal (fun (v8 : Int) =>
              some (0,v8)) fun k3 =>
          loopN (zel a1 a2 k3) n (0,0)) fun k1 =>
  (zei n a0 a1).bind fun y1 =>
  match y1 with
  | .inl y1 =>
    k1 y1
  | .inr y1 =>
    k1 y1.1
def q76k (a1 : List Item) (a2 : Str) (y1 : Int) (k2 : ((List A2i) → Option ((List A2i) × Bool))) (back : (List A2i) × Nat → Option ((List A2i) × Bool)) : (List A2i) × Nat → Option ((List A2i) × Bool)
  | (v4,v5) =>
  bif decide (v5 < a1.length) then
    zal (fun (v6 : (List A2i)) =>
        chk (nI (v5 + 1)) <|
        back (v6,v5 + 1)) fun k1 =>
    bif ((decide ((0 : Int) ≤ y1)) && (((ix a1 v5).Grand) == a2)) || (((!(decide ((0 : Int) ≤ y1))) && (((ix a1 v5).Kind) == (0 : Int))) && (((ix a1 v5).Who) == a2)) then
      chk (room 16 (v4 ++ ([(A2i.mk ((ix a1 v5).From) ((ix a1 v5).To))] : List A2i)).length) <|
      k1 (v4 ++ ([(A2i.mk ((ix a1 v5).From) ((ix a1 v5).To))] : List A2i))
    else
      k1 v4
  else
    k2 v4
def q78k (n : Nat) (a0 : Diary) (a1 : List Item) (a2 : Str) : Option ((List A2i) × Bool) :=
  (q4k n a0 a2).bind fun y1 =>
  (zeh (!(decide ((0 : Int) ≤ y1))) (q22k n a0.Tc a2)).bind fun y2 =>
  bif (!(decide ((0 : Int) ≤ y1))) && (!y2) then
    some (([] : List A2i),false)
  else
    zal (fun (v7 : (List A2i)) =>
        some (v7,true)) fun k2 =>
    loopN (q76k a1 a2 y1 k2) n (([] : List A2i),0)
def q44k (a0 : List Item) (a1 : Int) (k2 : (Int → Option Int)) (back : Int × Nat → Option Int) : Int × Nat → Option Int
  | (v2,v3) =>
  bif decide (v3 < a0.length) then
    zal (fun (v4 : Int) =>
        chk (nI (v3 + 1)) <|
        back (v4,v3 + 1)) fun k1 =>
    bif (decide (((ix a0 v3).From) ≤ a1)) && (decide (a1 < ((ix a0 v3).To))) then
      chk (inI (v2 + ((ix a0 v3).Deposit))) <|
      k1 (v2 + ((ix a0 v3).Deposit))
    else
      k1 v2
  else
    k2 v2
def q24k (n : Nat) (a0 : List Item) (a1 : Int) : Option Int :=
  zal (fun (v5 : Int) =>
      some v5) fun k2 =>
  loopN (q44k a0 a1 k2) n (0,0)
def q55k (a1 : List Item) (a2 : Moment) (k1 : (Unit → Option Str)) (back : Nat → Option Str) : Nat → Option Str
  | v1 =>
  bif decide (v1 < a1.length) then
    bif (((((ix a1 v1).Kind) == (1 : Int)) && (((ix a1 v1).Grand) == a2.Grand)) && (decide (((ix a1 v1).From) ≤ a2.Minute))) && (decide (a2.Minute < ((ix a1 v1).To))) then
      some ([] : Str)
    else
      chk (nI (v1 + 1)) <|
      back (v1 + 1)
  else
    k1 ()
def q31k (n : Nat) (a0 : Diary) (a1 : List Item) (a2 : Moment) : Option Str :=
  zal (fun (_ : Unit) =>
      (q38k n a0 a1 a2.Grand a2.Minute).bind fun y2 =>
      some y2) fun k1 =>
  loopN (q55k a1 a2 k1) n 0
def q12k (y9 : Int × (List A2i)) (y14 : (List A2i) × Bool) (k1 : (Unit → Option Bool)) (back : Nat → Option Bool) : Nat → Option Bool
  | v15 =>
  bif decide (v15 < y9.2.length) then
    chk (decide (v15 < y14.1.length)) <|
    bif (!((((ix y9.2 v15).a0) == ((ix y14.1 v15).a0)) && ((((ix y9.2 v15).a1) == ((ix y14.1 v15).a1)) && true))) then
      some false
    else
      chk (nI (v15 + 1)) <|
      back (v15 + 1)
  else
    k1 ()
def q43k (n : Nat) (a0 : Diary) (a1 : List Item) (a2 : Moment) : Option Bool :=
  (q89k n).bind fun y1 =>
  bif !y1 then
    some false
  else
    (q74k n a0).bind fun y2 =>
    (zeh (!(!y2)) (q86k n a1)).bind fun y3 =>
    bif ((!y2) || (!y3)) || (decide (30 < a2.Grand.length)) then
      some true
    else
      (q40k n a0).bind fun y4 =>
      (q16k n a1).bind fun y5 =>
      (diary_PlaceOf n a0 a1 a2).bind fun y6 =>
      (q40k n a0).bind fun y7 =>
      (q16k n a1).bind fun y8 =>
      (diary_Busy n a0 a1 a2.Grand).bind fun y9 =>
      (q40k n a0).bind fun y10 =>
      (q16k n a1).bind fun y11 =>
      (zeq n a0 a1 a2.Minute).bind fun y12 =>
      (q58k n a0 a1).bind fun y13 =>
      bif (y13.1 != (0 : Int)) then
        chk (!((((y6.1 == y13.1) && (y9.1 == y13.1)) && (y12.1 == y13.1)) && (y6.2 == ([] : Str))) || inI (((y9.2.length : Nat) : Int) + y12.2)) <|
        some (((((y6.1 == y13.1) && (y9.1 == y13.1)) && (y12.1 == y13.1)) && (y6.2 == ([] : Str))) && ((((y9.2.length : Nat) : Int) + y12.2) == (0 : Int)))
      else
        (q78k n a0 a1 a2.Grand).bind fun y14 =>
        bif (((!y14.2) && (y9.1 != (6 : Int))) || (y14.2 && (y9.1 != (0 : Int)))) || (!decide (y9.2.length = y14.1.length)) then
          some false
        else
          zal (fun (_ : Unit) =>
              zal (fun (_ : Unit) =>
                  (q4k n a0 a2.Grand).bind fun y18 =>
                  bif decide (y18 < (0 : Int)) then
                    some ((y6.1 == (6 : Int)) && (y6.2 == ([] : Str)))
                  else
                    (q3k n a2.Minute).bind fun y19 =>
                    bif !((decide (0 ≤ a2.Minute)) && (decide (a2.Minute ≤ 1000000))) then
                      some ((y6.1 == (2 : Int)) && (y6.2 == ([] : Str)))
                    else
                      (zeh (y6.1 == (0 : Int)) (q31k n a0 a1 a2)).bind fun y20 =>
                      some ((y6.1 == (0 : Int)) && (y6.2 == y20))) fun k2 =>
              (q3k n a2.Minute).bind fun y16 =>
              bif !((decide (0 ≤ a2.Minute)) && (decide (a2.Minute ≤ 1000000))) then
                bif (y12.1 != (2 : Int)) || (y12.2 != (0 : Int)) then
                  some false
                else
                  k2 ()
              else
                (zeh (!(y12.1 != (0 : Int))) (q24k n a1 a2.Minute)).bind fun y17 =>
                bif (y12.1 != (0 : Int)) || (y12.2 != y17) then
                  some false
                else
                  k2 ()) fun k1 =>
          loopN (q12k y9 y14 k1) n 0
end
section
set_option maxRecDepth 4000
open Go
theorem zct {α β : Type} (F : (α → Option β) → α → Option β) (n : Nat) (t : α) : loopN F (n + 1) t = F (loopN F n) t:=rfl
@[simp] theorem zbf {α : Type} (k : Option α) : chk true k = k:=rfl
theorem chk_of {α : Type} {b : Bool} {k : Option α} (h : b = true) : chk b k = k:=by subst h; rfl
@[simp] theorem zaf {α β : Type} (j : α → Option β) (f : (α → Option β) → Option β) : zal j f = f j:=rfl
@[simp] theorem zbd {α : Type} [Inhabited α] (g : Bool) (x : α) : (zeh g (some x)) = some (bif g then x else default):=by cases g <;> rfl
theorem zch {n : Nat} (h : n ≤ 9223372036854775807) : nI n = true:=by simp [nI,h]
theorem zfd {n : Int} (h : -9223372036854775808 ≤ n) (h2 : n ≤ 9223372036854775807) : inI n = true:=by simp [inI,h,h2]
theorem room_of {b n : Nat} (h : n * b ≤ 140737488355328) (h2 : n ≤ 9223372036854775807) : room b n = true:=by simp [room,h,h2]
theorem inB_of {q : Int} {n : Nat} (h : 0 ≤ q) (h2 : q.toNat < n) : inB q n = true:=by simp [inB,h,h2]
theorem inC_of {q : Int} {n : Nat} (h : 0 ≤ q) (h2 : q.toNat ≤ n) : inC q n = true:=by simp [inC,h,h2]
theorem drop_ix {α : Type} [Inhabited α] {l : List α} {v : Nat} (h : v < l.length) : l.drop v = ix l v :: l.drop (v + 1):=by
  rw [zdl h]; exact List.drop_eq_getElem_cons h
theorem drop_nil {α : Type} {l : List α} {v : Nat} (h : ¬ v < l.length) : l.drop v = []:=List.drop_eq_nil_of_le (by omega)
def isL (c : UInt8) : Bool:=(decide ((97 : Int) ≤ ((c.toNat : Nat) : Int)) && decide (((c.toNat : Nat) : Int) ≤ (122 : Int))) || (decide ((65 : Int) ≤ ((c.toNat : Nat) : Int)) && decide (((c.toNat : Nat) : Int) ≤ (90 : Int)))
def isD (c : UInt8) : Bool:=decide ((48 : Int) ≤ ((c.toNat : Nat) : Int)) && decide (((c.toNat : Nat) : Int) ≤ (57 : Int))
def okC (c : UInt8) : Bool:=isL c || isD c || (((c.toNat : Nat) : Int) == (45 : Int))
def nameB (s : Str) : Bool:=match s with
  | []=>false
  | c :: r=>isL c && r.all okC && decide (r.length < 12)
end
section
set_option maxRecDepth 4000
open Go
theorem zdx {x : Int} (h : ¬ x = 0) : (x != 0) = true:=by simp [bne,h]
def zem (E : Nat → Int) : Nat → Nat → Int
  | _,0=>0
  | v,m + 1=>bif E v != 0 then E v else zem E (v + 1) m
theorem firstE_zero {E : Nat → Int} : ∀ {m v : Nat},zem E v m = 0 → ∀ j,v ≤ j → j < v + m → E j = 0
  | 0,v,_,j,h1,h2=>by omega
  | m + 1,v,h,j,h1,h2=>by
    unfold zem at h
    by_cases e : E v = 0
    · simp [e] at h
      by_cases hj : j = v
      · rw [hj]; exact e
      · exact firstE_zero h j (by omega) (by omega)
    · rw [zdx e,cond_true] at h; exact absurd h e
theorem loop_first {σ R : Type} {F : (σ → Option R) → σ → Option R} {st : Nat → σ} {E : Nat → Int} {err : Int → Option R} {k : Option R} {len : Nat}
    (h1 : ∀ back v,v < len → (∀ j,j < v → E j = 0) → F back (st v) = bif E v != 0 then err (E v) else back (st (v + 1)))
    (h2 : ∀ back,(∀ j,j < len → E j = 0) → F back (st len) = k) : ∀ n v,len - v < n → v ≤ len → (∀ j,j < v → E j = 0) → loopN F n (st v) = bif zem E v (len - v) != 0 then err (zem E v (len - v)) else k:=by
  intro n
  induction n with
  | zero=>intro v h; omega
  | succ n ih =>
    intro v hn hv hz
    rw [zct]
    by_cases h : v < len
    · rw [h1 _ v h hz,show len - v = (len - (v + 1)) + 1 by omega]
      unfold zem
      by_cases e : E v = 0
      · simp only [e,bne_self_eq_false,cond_false]
        exact ih (v + 1) (by omega) (by omega) fun j hj=>by
          by_cases hjv : j = v
          · rw [hjv]; exact e
          · exact hz j (by omega)
      · rw [zdx e,cond_true,cond_true,zdx e,cond_true]
    · have : v = len:=by omega
      subst this
      rw [h2 _ hz,Nat.sub_self]
      simp [zem]
theorem loop_through {σ R : Type} {F : (σ → Option R) → σ → Option R} {st : Nat → σ} {k : Option R} {len : Nat} (h1 : ∀ back v,v < len → F back (st v) = back (st (v + 1))) (h2 : ∀ back,F back (st len) = k) : ∀ n,len < n → loopN F n (st 0) = k:=by
  intro n hn
  have:=loop_first (F:=F) (st:=st) (E:=fun _=>0) (err:=fun _=>none) (k:=k) (len:=len) (fun back v hv _=>by simp [h1 back v hv]) (fun back _=>h2 back) n 0 (by omega) (by omega) (fun _ _=>rfl)
  rw [this,Nat.sub_zero]
  have : zem (fun _=>(0 : Int)) 0 len = 0:=by
    have : ∀ m v,zem (fun _=>(0 : Int)) v m = 0:=by
      intro m
      induction m with
      | zero=>intro v; rfl
      | succ m ih=>intro v; simp [zem,ih]
    exact this _ _
  rw [this]; rfl
def zdm {α : Type} (p : α → Bool) (l : List α) : Int:=match l.findIdx? p with
  | some i=>((i : Nat) : Int)
  | none=>-1
theorem findI_neg {α : Type} {p : α → Bool} {l : List α} (h : zdm p l < 0) : zdm p l = -1 ∧ ∀ x ∈ l,p x = false:=by
  unfold zdm at h ⊢
  split at h
  · omega
  · rename_i e
    rw [List.findIdx?_eq_none_iff] at e
    exact ⟨rfl,e⟩
theorem findI_pos {α : Type} [Inhabited α] {p : α → Bool} {l : List α} (h : ¬ zdm p l < 0) : 0 ≤ zdm p l ∧ (zdm p l).toNat < l.length ∧ p (ix l (zdm p l).toNat) = true ∧ ∀ j,j < (zdm p l).toNat → p (ix l j) = false:=by
  unfold zdm at h ⊢
  split at h
  · rename_i i e
    rw [List.findIdx?_eq_some_iff_getElem] at e
    obtain ⟨hi,hp,hb⟩:=e
    refine ⟨by omega,by simpa using hi,?_,fun j hj=>?_⟩
    · rw [zdl (by simpa using hi)]; simpa using hp
    · have hj : j < i:=by simpa using hj
      rw [zdl (by omega)]
      simpa using hb j hj
  · omega
end
section
set_option maxRecDepth 4000
open Go
theorem loop_find' {α R : Type} [Inhabited α] {l : List α} {p : α → Bool} {F : (Nat → Option R) → Nat → Option R} {yes : Nat → Option R} {no : Option R}
    (h1 : ∀ back v,v < l.length → F back v = bif p (ix l v) then yes v else back (v + 1)) (h2 : ∀ back,F back l.length = no) :
    ∀ n v,v ≤ l.length → l.length - v < n → loopN F n v = match (l.drop v).findIdx? p with | some i=>yes (v + i) | none=>no:=by
  intro n
  induction n with
  | zero=>intro v _ h; omega
  | succ n ih =>
    intro v hv hn
    rw [zct]
    by_cases h : v < l.length
    · rw [h1 _ v h,drop_ix h,List.findIdx?_cons]
      cases hp : p (ix l v) with
      | true=>simp
      | false =>
        simp only [cond_false,Bool.false_eq_true,if_false]
        rw [ih (v + 1) (by omega) (by omega)]
        cases hh : (l.drop (v + 1)).findIdx? p with
        | none=>simp
        | some i=>simp [Nat.add_assoc,Nat.add_comm 1 i]
    · have : v = l.length:=by omega
      subst this
      rw [h2,drop_nil h]
      simp
theorem any_findIdx {α : Type} (p : α → Bool) (l : List α) : (l.findIdx? p).isSome = l.any p:=by
  induction l with
  | nil=>rfl
  | cons x l ih =>
    rw [List.findIdx?_cons,List.any_cons]
    cases p x <;> simp [ih]
theorem loop_any' {α R : Type} [Inhabited α] {l : List α} {p : α → Bool} {F : (Nat → Option R) → Nat → Option R} {bad no : Option R}
    (h1 : ∀ back v,v < l.length → F back v = bif p (ix l v) then bad else back (v + 1)) (h2 : ∀ back,F back l.length = no) (n : Nat) (hn : l.length < n) : loopN F n 0 = bif l.any p then bad else no:=by
  rw [loop_find' (yes:=fun _=>bad) h1 h2 n 0 (by omega) (by omega),List.drop_zero,← any_findIdx]
  cases l.findIdx? p <;> rfl
theorem loop_findI {α : Type} [Inhabited α] {l : List α} {p : α → Bool} {F : (Nat → Option Int) → Nat → Option Int}
    (h1 : ∀ back v,v < l.length → F back v = bif p (ix l v) then some ((v : Nat) : Int) else back (v + 1)) (h2 : ∀ back,F back l.length = some (-1)) (n : Nat) (hn : l.length < n) : loopN F n 0 = some (zdm p l):=by
  rw [loop_find' h1 h2 n 0 (by omega) (by omega),List.drop_zero,zdm]
  cases l.findIdx? p <;> simp
theorem findI_any {α : Type} (p : α → Bool) (l : List α) : decide ((0 : Int) ≤ zdm p l) = l.any p:=by
  rw [← any_findIdx,zdm]
  cases l.findIdx? p <;> simp
theorem findI_none {α : Type} (p : α → Bool) (l : List α) : decide (zdm p l < (0 : Int)) = !l.any p:=by
  rw [← any_findIdx,zdm]
  cases l.findIdx? p
  · simp
  · simp only [Option.isSome_some,Bool.not_true,decide_eq_false_iff_not]; omega
theorem findI_take {α : Type} [Inhabited α] {p : α → Bool} {l : List α} {i : Nat} : (l.take i).any p = (decide (zdm p l < (i : Int)) && l.any p):=by
  rw [← any_findIdx,← any_findIdx,zdm]
  cases h : l.findIdx? p with
  | none =>
    rw [List.findIdx?_eq_none_iff] at h
    have : (l.take i).findIdx? p = none:=by
      rw [List.findIdx?_eq_none_iff]
      exact fun x hx=>h x (List.mem_of_mem_take hx)
    simp [this]
  | some j =>
    rw [List.findIdx?_eq_some_iff_getElem] at h
    obtain ⟨hj,hp,hb⟩:=h
    simp only [Option.isSome_some,Bool.and_true]
    rw [any_findIdx,Bool.eq_iff_iff,List.any_eq_true,decide_eq_true_eq]
    constructor
    · rintro ⟨x,hx,hpx⟩
      obtain ⟨k,hk,rfl⟩:=List.mem_iff_getElem.1 hx
      simp only [List.length_take] at hk
      rw [List.getElem_take] at hpx
      by_cases hkj : k < j
      · have:=hb k hkj
        rw [hpx] at this; simp at this
      · omega
    · intro hji
      have hji : j < i:=by omega
      exact ⟨l[j],List.mem_iff_getElem.2 ⟨j,by simp; omega,by simp⟩,hp⟩
theorem loop_fold {σ R : Type} {F : (σ × Nat → Option R) → σ × Nat → Option R} {st : Nat → σ} {k : Option R} {len : Nat} (h1 : ∀ back v,v < len → F back (st v,v) = back (st (v + 1),v + 1)) (h2 : ∀ back,F back (st len,len) = k) (n : Nat) (hn : len < n) {s0 : σ} (h0 : st 0 = s0) : loopN F n (s0,0) = k:=by
  subst h0
  exact loop_through (st:=fun v=>(st v,v)) h1 h2 n hn
theorem loop_fold' {σ R : Type} {F : (Nat × σ → Option R) → Nat × σ → Option R} {st : Nat → σ} {k : Option R} {len : Nat} (h1 : ∀ back v,v < len → F back (v,st v) = back (v + 1,st (v + 1))) (h2 : ∀ back,F back (len,st len) = k) (n : Nat) (hn : len < n) {s0 : σ} (h0 : st 0 = s0) : loopN F n (0,s0) = k:=by
  subst h0
  exact loop_through (st:=fun v=>(v,st v)) h1 h2 n hn
theorem ix_take {α : Type} [Inhabited α] {l : List α} {i v : Nat} (h : v < i) (hl : v < l.length) : ix (l.take i) v = ix l v:=by
  rw [zdl (by simp; omega),zdl hl,List.getElem_take]
end
section
set_option maxRecDepth 4000
open Go
theorem getD_ix (s : Str) (v : Nat) : List.getD s v 0 = ix s v:=by
  simp only [ix,List.getD]; rfl
theorem isName_loop (s : Str) (k : Unit → Option Bool) : ∀ (n v : Nat),s.length - v < n → 0 < v → s.length < 9223372036854775807 → loopN (zea s k) n v = bif (s.drop v).all okC then k () else some false:=by
  intro n
  induction n with
  | zero=>intro v h; omega
  | succ n ih =>
    intro v hn hv hl
    rw [zct,zea]
    by_cases h : v < s.length
    · rw [drop_ix h]
      have h2 : ¬ v = 0:=by omega
      simp only [h,getD_ix,decide_true,cond_true,h2,decide_false,Bool.false_or,List.all_cons,zch (by omega : v + 1 ≤ 9223372036854775807),zbf]
      rw [ih (v + 1) (by omega) (by omega) hl]
      have key : (!((decide ((97 : Int) ≤ (((ix s v).toNat : Nat) : Int)) && decide ((((ix s v).toNat : Nat) : Int) ≤ (122 : Int))) || (decide ((65 : Int) ≤ (((ix s v).toNat : Nat) : Int)) && decide ((((ix s v).toNat : Nat) : Int) ≤ (90 : Int)))) && (((((ix s v).toNat : Nat) : Int) != (45 : Int)) && (decide ((((ix s v).toNat : Nat) : Int) < (48 : Int)) || decide ((57 : Int) < (((ix s v).toNat : Nat) : Int))))) = !okC (ix s v):=by
        have hd : (decide ((((ix s v).toNat : Nat) : Int) < (48 : Int)) || decide ((57 : Int) < (((ix s v).toNat : Nat) : Int))) = !isD (ix s v):=by
          simp only [isD,Bool.not_and,← decide_not,Int.not_le]
        rw [hd]
        show (!isL (ix s v) && _) = _
        simp only [okC]
        cases isL (ix s v) <;> cases isD (ix s v) <;> cases hh : (((((ix s v).toNat : Nat) : Int)) == (45 : Int)) <;> simp [bne,hh]
      rw [key]
      cases okC (ix s v) <;> simp
    · rw [drop_nil h]
      simp [h]
theorem isName_eq (s : Str) (n : Nat) (hn : s.length + 1 < n) (hl : s.length < 9223372036854775807) : zeb n s = some (nameB s):=by
  obtain ⟨n,rfl⟩ : ∃ m,n = m + 1:=⟨n - 1,by omega⟩
  rw [zeb,zaf,zct,zea]
  cases s with
  | nil=>simp [nameB]
  | cons c r =>
    have h0 : 0 < (c :: r).length:=by simp
    have hix : ix (c :: r) 0 = c:=rfl
    simp only [h0,getD_ix,decide_true,cond_true,hix,Bool.true_or,Bool.and_true,zch (by simp : 0 + 1 ≤ 9223372036854775807),zbf]
    rw [isName_loop _ _ n 1 (by simp at hn ⊢; omega) (by omega) hl]
    show (bif !isL c then some false else _) = _
    simp only [nameB,List.drop_succ_cons,List.drop_zero]
    cases hL : isL c <;> cases hA : r.all okC <;> simp
    omega
theorem IsName_loop (s : Str) (n0 : Nat) (k : Unit → Option Bool) : ∀ (n v : Nat),s.length - v < n → s.length < 9223372036854775807 → loopN (q65k n0 s k) n v = bif (s.drop v).all okC then k () else some false:=by
  intro n
  induction n with
  | zero=>intro v h; omega
  | succ n ih =>
    intro v hn hl
    rw [zct,q65k]
    by_cases h : v < s.length
    · rw [drop_ix h]
      simp only [h,decide_true,cond_true,q29k,q81k,zbd,Option.bind_some,getD_ix,List.all_cons,zch (by omega : v + 1 ≤ 9223372036854775807),zbf]
      rw [ih (v + 1) (by omega) hl]
      show (bif ((!isL (ix s v)) && (!isD (ix s v))) && ((((ix s v).toNat : Nat) : Int) != (45 : Int)) then _ else _) = _
      simp only [okC]
      cases isL (ix s v) <;> cases isD (ix s v) <;> cases hh : (((((ix s v).toNat : Nat) : Int)) == (45 : Int)) <;> simp [bne,hh]
    · rw [drop_nil h]
      simp [h]
theorem IsName_eq (s : Str) (n : Nat) (hn : s.length + 1 < n) (hl : s.length < 9223372036854775807) : q28k n s = some (nameB s):=by
  rw [q28k]
  simp only [q29k,zbd,Option.bind_some,getD_ix,zaf]
  rw [IsName_loop _ _ _ _ _ (by omega) hl]
  cases s with
  | nil=>simp [nameB]
  | cons c r =>
    have h0 : ¬ (c :: r).length = 0:=by simp
    have h1 : 0 < (c :: r).length:=by simp
    have hix : ix (c :: r) 0 = c:=rfl
    simp only [h0,h1,decide_true,decide_false,Bool.false_or,Bool.or_true,zbf,hix,List.drop_zero]
    show (bif (decide (12 < (c :: r).length)) || (!isL c) then _ else _) = _
    simp only [nameB,List.all_cons,okC,List.length_cons]
    by_cases hlen : r.length < 12
    · have : ¬ 12 < r.length + 1:=by omega
      cases hL : isL c <;> cases hA : r.all okC <;> simp [this,hlen,hA]
    · have : 12 < r.length + 1:=by omega
      simp [this,hlen]
variable {n : Nat}
def isS (s : Str) (x : Str) : Bool:=x == s
theorem HasText_eq (l : List Str) (s : Str) (hn : l.length < n) (hl : l.length < 9223372036854775807) : q22k n l s = some (l.any (isS s)):=by
  rw [q22k,zaf,loop_any' (p:=isS s) (fun back v hv=>?_) (fun back=>?_) n hn]
  · cases l.any (isS s) <;> rfl
  · rw [q57k]; simp only [hv,decide_true,cond_true,zch (by omega : v + 1 ≤ 9223372036854775807),zbf]; rfl
  · rw [q57k]; simp
theorem isS_comm (s x : Str) : (s == x) = isS s x:=by
  unfold isS
  rw [Bool.eq_iff_iff,beq_iff_eq,beq_iff_eq]
  exact eq_comm
theorem Contains_eq (l : List Str) (s : Str) (hn : l.length < n) (hl : l.length < 9223372036854775807) : q0k n l s = some (l.any (isS s)):=by
  rw [q0k,q84k,zaf,loop_findI (p:=isS s) (fun back v hv=>?_) (fun back=>?_) n hn]
  · simp only [Option.bind_some,findI_any]
  · rw [q64k]; simp only [hv,decide_true,cond_true,zch (by omega : v + 1 ≤ 9223372036854775807),zbf,isS_comm]
  · rw [q64k]; simp
theorem Contains2_eq (l : List Str) (s : Str) (hn : l.length < n) (hl : l.length < 9223372036854775807) : q23k n l s = some (l.any (isS s)):=by
  rw [q23k,q72k,zaf,loop_findI (p:=isS s) (fun back v hv=>?_) (fun back=>?_) n hn]
  · simp only [Option.bind_some,findI_any]
  · rw [q48k]; simp only [hv,decide_true,cond_true,zch (by omega : v + 1 ≤ 9223372036854775807),zbf,isS_comm]
  · rw [q48k]; simp
theorem bif_id {x : Int} : (bif x != 0 then some x else some 0) = some x:=by
  by_cases h : x = 0
  · simp [h]
  · rw [zdx h]; rfl
theorem loop_errs {F : (Nat → Option Int) → Nat → Option Int} {E : Nat → Int} {k : Int} {len : Nat}
    (h1 : ∀ back v,v < len → F back v = bif E v != 0 then some (E v) else back (v + 1)) (h2 : ∀ back,F back len = some k) (hn : len < n) :
    loopN F n 0 = some (bif zem E 0 len != 0 then zem E 0 len else k):=by
  rw [loop_first (st:=fun v=>v) (E:=E) (err:=some) (k:=some k) (len:=len) (fun back v hv _=>h1 back v hv) (fun back _=>h2 back) n 0 (by omega) (by omega) (fun j h=>by omega),Nat.sub_zero]
  cases zem E 0 len != 0 <;> rfl
theorem bif_int {x : Int} : (bif x != 0 then x else 0) = x:=by
  by_cases h : x = 0
  · simp [h]
  · rw [zdx h]; rfl
structure OkD (d : Diary) : Prop where
  places : d.Pcs.length ≤ 23
  techs : d.Tc.length ≤ 15
  roads : d.Roads.length ≤ 63
  grands : d.Gds.length ≤ 15
  place : ∀ x ∈ d.Pcs,x.length ≤ 30
  tech : ∀ x ∈ d.Tc,x.length ≤ 30
  roadA : ∀ x ∈ d.Roads,x.A.length ≤ 30
  roadB : ∀ x ∈ d.Roads,x.B.length ≤ 30
  grandN : ∀ x ∈ d.Gds,x.Name.length ≤ 30
  grandP : ∀ x ∈ d.Gds,x.Place.length ≤ 30
theorem short_eq (l : List Str) (a b : Int) (hn : l.length < n) (hl : l.length ≤ 9223372036854775807) (hb : 0 ≤ b) (hb2 : b ≤ 100) :
    q51k n l a b = some (!(l.any fun s=>decide (30 < s.length)) && (decide (((l.length : Nat) : Int) ≤ a) || (decide (b < ((l.length : Nat) : Int)) && decide (((l.length : Nat) : Int) ≤ b + 3)))):=by
  rw [q51k,zaf,loop_any' (l:=l) (p:=fun s=>decide (30 < s.length)) (bad:=some false) (no:=chk (!((!(decide (((l.length : Nat) : Int) ≤ a))) && (decide (b < ((l.length : Nat) : Int)))) || inI (b + 3)) (some ((decide (((l.length : Nat) : Int) ≤ a)) || ((decide (b < ((l.length : Nat) : Int))) && (decide (((l.length : Nat) : Int) ≤ (b + 3))))))) (fun back v hv=>?_) (fun back=>?_) n hn]
  · have hi : inI (b + 3) = true:=zfd (by omega) (by omega)
    simp only [hi,Bool.or_true,zbf]
    cases l.any _ <;> rfl
  · rw [q67k]; simp only [hv,decide_true,cond_true,zch (by omega : v + 1 ≤ 9223372036854775807),zbf]
  · rw [q67k]; simp
theorem Light_eq (d : Diary) (hn : 1000 < n) (hp : d.Pcs.length < n) (ht : d.Tc.length < n) (hp2 : d.Pcs.length ≤ 9223372036854775807) (ht2 : d.Tc.length ≤ 9223372036854775807) : ∃ b,q74k n d = some b ∧ (b = true → OkD d):=by
  rw [q74k,short_eq (n:=n) d.Pcs 6 20 hp hp2 (by omega) (by omega),short_eq (n:=n) d.Tc 4 12 ht ht2 (by omega) (by omega)]
  simp only [Option.bind_some,zbd]
  have anyf : ∀ {l : List Str},(l.any fun s=>decide (30 < s.length)) = false → ∀ s ∈ l,s.length ≤ 30:=fun h s hs=>by
    rw [List.any_eq_false] at h
    have:=h s hs
    simpa using this
  generalize hg : (_ || decide (15 < d.Gds.length)) = g
  cases g with
  | true=>exact ⟨false,rfl,fun h=>by cases h⟩
  | false =>
    simp only [cond_false,zaf]
    simp only [Bool.or_eq_false_iff,Bool.not_eq_false',Bool.and_eq_true,decide_eq_false_iff_not] at hg
    obtain ⟨⟨⟨⟨⟨hA,hB⟩,hR1⟩,hR2⟩,hG1⟩,hG2⟩:=hg
    rw [hA.1,hA.2] at hB
    simp only [Bool.and_true,Bool.not_true,Bool.not_false,cond_true,Bool.and_eq_true,Bool.not_eq_true',Bool.or_eq_true,decide_eq_true_eq] at hA hB
    have hR : d.Roads.length ≤ 63:=by omega
    have hG : d.Gds.length ≤ 15:=by omega
    rw [loop_any' (l:=d.Roads) (p:=fun x=>decide (30 < x.A.length) || decide (30 < x.B.length)) (bad:=some false) (no:=loopN (q42k d fun _=>some true) n 0) (fun back v hv=>?_) (fun back=>?_) n (by omega),
      loop_any' (l:=d.Gds) (p:=fun x=>decide (30 < x.Name.length) || decide (30 < x.Place.length)) (bad:=some false) (no:=some true) (fun back v hv=>?_) (fun back=>?_) n (by omega)]
    · cases h1 : d.Roads.any fun x=>decide (30 < x.A.length) || decide (30 < x.B.length) with
      | true=>exact ⟨false,rfl,fun h=>by cases h⟩
      | false =>
        cases h2 : d.Gds.any fun x=>decide (30 < x.Name.length) || decide (30 < x.Place.length) with
        | true=>exact ⟨false,rfl,fun h=>by cases h⟩
        | false =>
          refine ⟨true,rfl,fun _=>?_⟩
          rw [List.any_eq_false] at h1 h2
          refine ⟨by omega,by omega,hR,hG,anyf hA.1,anyf hB.1,fun x hx=>?_,fun x hx=>?_,fun x hx=>?_,fun x hx=>?_⟩
          · have:=h1 x hx; simp at this; omega
          · have:=h1 x hx; simp at this; omega
          · have:=h2 x hx; simp at this; omega
          · have:=h2 x hx; simp at this; omega
    · rw [q42k]; simp only [hv,decide_true,cond_true,zch (by omega : v + 1 ≤ 9223372036854775807),zbf]
    · rw [q42k]; simp
    · rw [q66k]; simp only [hv,decide_true,cond_true,zch (by omega : v + 1 ≤ 9223372036854775807),zbf]
    · rw [q66k]; simp
end
section
set_option maxRecDepth 4000
open Go
variable {n : Nat}
def namesE (l : List Str) (v : Nat) : Int:=bif !nameB (ix l v) then 4 else bif (l.take v).any (isS (ix l v)) then 5 else 0
def namesD (l : List Str) (most : Int) : Int:=bif decide (most < ((l.length : Nat) : Int)) then 8 else zem (namesE l) 0 l.length
theorem checkName_eq {l : List Str} {s : Str} (hn : 1000 < n) (hs : s.length ≤ 30) (hl : l.length ≤ 900) : zec n s l = some (bif !nameB s then 4 else bif l.any (isS s) then 5 else 0):=by
  rw [zec,isName_eq s n (by omega) (by omega)]
  simp only [Option.bind_some,Contains_eq (n:=n) l s (by omega) (by omega)]
  cases nameB s <;> cases l.any (isS s) <;> rfl
theorem checkNames_eq {l : List Str} (most : Int) (hn : 1000 < n) (hl : l.length ≤ 900) (hs : ∀ x ∈ l,x.length ≤ 30) : zcg n l most = some (namesD l most):=by
  rw [zcg,namesD]
  cases decide (most < ((l.length : Nat) : Int)) with
  | true=>rfl
  | false =>
    simp only [cond_false,zaf]
    rw [loop_errs (E:=namesE l) (k:=0) (fun back v hv=>?_) (fun back=>?_) (by omega : l.length < n),bif_int]
    · rw [zdi]
      have hle : v ≤ l.length:=by omega
      simp only [hv,hle,decide_true,cond_true,zbf,checkName_eq (n:=n) (l:=l.take v) hn (hs _ (zby hv)) (by simp; omega),Option.bind_some,zch (by omega : v + 1 ≤ 9223372036854775807),namesE]
    · rw [zdi]; simp
theorem names_ref {l : List Str} (most : Int) (hn : 1000 < n) (hl : l.length ≤ 900) (hs : ∀ x ∈ l,x.length ≤ 30) : q52k n l most = some (namesD l most):=by
  rw [q52k,namesD]
  cases decide (most < ((l.length : Nat) : Int)) with
  | true=>rfl
  | false =>
    simp only [cond_false,zaf]
    rw [loop_errs (E:=namesE l) (k:=0) (fun back v hv=>?_) (fun back=>?_) (by omega : l.length < n),bif_int]
    · rw [q69k]
      have hle : v ≤ l.length:=by omega
      have h1:=hs _ (zby hv)
      simp only [hv,hle,decide_true,cond_true,zbf,IsName_eq (ix l v) n (by omega) (by omega),Option.bind_some,HasText_eq (n:=n) (l.take v) (ix l v) (by simp; omega) (by simp; omega),zch (by omega : v + 1 ≤ 9223372036854775807),namesE]
      cases nameB (ix l v) <;> cases (l.take v).any (isS (ix l v)) <;> rfl
    · rw [q69k]; simp
theorem namesD_nodup {l : List Str} {most : Int} (h : namesD l most = 0) : l.Nodup ∧ ((l.length : Nat) : Int) ≤ most ∧ ∀ s ∈ l,nameB s = true:=by
  rw [namesD] at h
  cases hm : decide (most < ((l.length : Nat) : Int)) with
  | true=>rw [hm] at h; simp at h
  | false =>
    rw [hm,cond_false] at h
    have hz:=firstE_zero h
    refine ⟨?_,by simp at hm; omega,fun s hs=>?_⟩
    · rw [List.nodup_iff_pairwise_ne,List.pairwise_iff_getElem]
      intro i j hi hj hij he
      have:=hz j (by omega) (by omega)
      rw [namesE,zdl hj] at this
      have ha : (l.take j).any (isS l[j]) = true:=by
        rw [List.any_eq_true]
        refine ⟨l[i],List.mem_iff_getElem.2 ⟨i,by simp; omega,by simp⟩,?_⟩
        rw [isS,he]; simp
      rw [ha] at this
      cases hh : nameB l[j] <;> rw [hh] at this <;> simp at this
    · obtain ⟨i,hi,rfl⟩:=List.mem_iff_getElem.1 hs
      have:=hz i (by omega) (by omega)
      rw [namesE,zdl hi] at this
      cases hh : nameB l[i] with
      | true=>rfl
      | false=>rw [hh] at this; simp at this
theorem place_eq (d : Diary) (s : Str) (hn : d.Pcs.length < n) (hl : d.Pcs.length < 9223372036854775807) : q10k n d s = some (zdm (isS s) d.Pcs):=by
  rw [q10k,zaf]
  refine loop_findI (fun back v hv=>?_) (fun back=>?_) n hn
  · rw [q70k]; simp only [hv,decide_true,cond_true,zch (by omega : v + 1 ≤ 9223372036854775807),zbf]; rfl
  · rw [q70k]; simp
def isG (s : Str) (x : Grand) : Bool:=x.Name == s
theorem GrandAt_eq (d : Diary) (s : Str) (hn : d.Gds.length < n) (hl : d.Gds.length < 9223372036854775807) : q4k n d s = some (zdm (isG s) d.Gds):=by
  rw [q4k,zaf]
  refine loop_findI (fun back v hv=>?_) (fun back=>?_) n hn
  · rw [q54k]; simp only [hv,decide_true,cond_true,zch (by omega : v + 1 ≤ 9223372036854775807),zbf]; rfl
  · rw [q54k]; simp
def isW (w : Int) : Bool:=(decide (1 ≤ w)) && (decide (w ≤ 10000))
def roadE (d : Diary) (v : Nat) : Int :=
  bif (!d.Pcs.any (isS (ix d.Roads v).A)) || (!d.Pcs.any (isS (ix d.Roads v).B)) then 6 else
  bif (ix d.Roads v).A == (ix d.Roads v).B then 3 else
  bif (!isW (ix d.Roads v).Minutes) || (!isW (ix d.Roads v).Width) then 2 else 0
theorem roads_step (d : Diary) (hd : OkD d) (hn : 1000 < n) (v : Nat) (hv : v < d.Roads.length) (k : Unit → Option Int) (back : Nat → Option Int) :
    zcb n d k back v = bif roadE d v != 0 then some (roadE d v) else back (v + 1):=by
  have hp:=hd.places
  have hr:=hd.roads
  rw [zcb]
  simp only [hv,decide_true,cond_true,Contains_eq (n:=n) d.Pcs _ (by omega) (by omega),Option.bind_some,zbd,zav,zdh,zch (by omega : v + 1 ≤ 9223372036854775807),zbf,roadE,isW]
  cases d.Pcs.any (isS (ix d.Roads v).A) <;> cases d.Pcs.any (isS (ix d.Roads v).B) <;> cases (ix d.Roads v).A == (ix d.Roads v).B <;> cases decide (1 ≤ (ix d.Roads v).Minutes) && decide ((ix d.Roads v).Minutes ≤ 10000) <;> cases decide (1 ≤ (ix d.Roads v).Width) && decide ((ix d.Roads v).Width ≤ 10000) <;> rfl
theorem roads_refstep (d : Diary) (hd : OkD d) (hn : 1000 < n) (v : Nat) (hv : v < d.Roads.length) (k : Unit → Option Int) (back : Nat → Option Int) :
    q8k n d k back v = bif roadE d v != 0 then some (roadE d v) else back (v + 1):=by
  have hp:=hd.places
  have hr:=hd.roads
  rw [q8k]
  simp only [hv,decide_true,cond_true,place_eq (n:=n) d _ (by omega) (by omega),findI_none,Option.bind_some,zbd,q1k,q30k,zch (by omega : v + 1 ≤ 9223372036854775807),zbf,roadE,isW]
  have hdef : decide ((default : Int) < 0) = false:=rfl
  cases d.Pcs.any (isS (ix d.Roads v).A) <;> simp only [Bool.not_true,Bool.not_false,cond_true,cond_false,findI_none,hdef,Bool.true_or,Bool.false_or] <;> cases d.Pcs.any (isS (ix d.Roads v).B) <;> cases (ix d.Roads v).A == (ix d.Roads v).B <;> cases decide (1 ≤ (ix d.Roads v).Minutes) && decide ((ix d.Roads v).Minutes ≤ 10000) <;> cases decide (1 ≤ (ix d.Roads v).Width) && decide ((ix d.Roads v).Width ≤ 10000) <;> rfl
def roadsD (d : Diary) : Int:=bif decide (60 < d.Roads.length) then 8 else zem (roadE d) 0 d.Roads.length
theorem checkRoads_eq (d : Diary) (hd : OkD d) (hn : 1000 < n) : zdo n d = some (roadsD d):=by
  have hr:=hd.roads
  rw [zdo,roadsD]
  cases decide (60 < d.Roads.length) with
  | true=>rfl
  | false =>
    simp only [cond_false,zaf]
    rw [loop_errs (E:=roadE d) (k:=0) (fun back v hv=>roads_step d hd hn v hv _ back) (fun back=>by rw [zcb]; simp) (by omega : d.Roads.length < n),bif_int]
def grandE (d : Diary) (v : Nat) : Int :=
  bif !nameB (ix d.Gds v).Name then 4 else bif (d.Gds.take v).any (isG (ix d.Gds v).Name) then 5 else
  bif !d.Pcs.any (isS (ix d.Gds v).Place) then 6 else bif !isW (ix d.Gds v).Width then 2 else 0
def grandsD (d : Diary) : Int:=bif decide (12 < d.Gds.length) then 8 else zem (grandE d) 0 d.Gds.length
theorem checkName2_eq {l : List Str} {s : Str} (hn : 1000 < n) (hs : s.length ≤ 30) (hl : l.length ≤ 900) : zcy n s l = some (bif !nameB s then 4 else bif l.any (isS s) then 5 else 0):=by
  rw [zcy,isName_eq s n (by omega) (by omega)]
  simp only [Option.bind_some,Contains2_eq (n:=n) l s (by omega) (by omega)]
  cases nameB s <;> cases l.any (isS s) <;> rfl
theorem any_mapName (l : List Grand) (s : Str) : (l.map Grand.Name).any (isS s) = l.any (isG s):=by
  rw [List.any_map]; rfl
theorem checkGrands_eq (d : Diary) (hd : OkD d) (hn : 1000 < n) : zcz n d = some (grandsD d):=by
  have hg:=hd.grands
  have hp:=hd.places
  rw [zcz,grandsD]
  cases decide (12 < d.Gds.length) with
  | true=>rfl
  | false =>
    simp only [cond_false,zaf]
    have:=loop_first (F:=zbv n d fun _=>some 0) (st:=fun v=>((d.Gds.take v).map Grand.Name,v)) (E:=grandE d) (err:=some) (k:=some 0) (len:=d.Gds.length) (fun back v hv _=>?_) (fun back _=>?_) n 0 (by omega) (by omega) (fun j h=>by omega)
    · simp only [List.take_zero,List.map_nil,Nat.sub_zero] at this
      rw [this]
      exact bif_id
    · rw [zbv]
      have h1:=hd.grandN _ (zby hv)
      have hroom : room 16 ((d.Gds.take v).map Grand.Name ++ [(ix d.Gds v).Name]).length = true:=room_of (by simp; omega) (by simp; omega)
      have htake : (d.Gds.take (v + 1)).map Grand.Name = (d.Gds.take v).map Grand.Name ++ [(ix d.Gds v).Name]:=by
        rw [List.take_succ_eq_append_getElem hv,zdl hv,List.map_append]; rfl
      simp only [hv,decide_true,cond_true,checkName2_eq (n:=n) (l:=(d.Gds.take v).map Grand.Name) hn h1 (by simp; omega),Option.bind_some,Contains_eq (n:=n) d.Pcs _ (by omega) (by omega),zdh,zav,zch (by omega : v + 1 ≤ 9223372036854775807),zbf,hroom,any_mapName,htake,grandE,isW]
      cases nameB (ix d.Gds v).Name <;> cases (d.Gds.take v).any (isG (ix d.Gds v).Name) <;> cases d.Pcs.any (isS (ix d.Gds v).Place) <;> cases decide (1 ≤ (ix d.Gds v).Width) && decide ((ix d.Gds v).Width ≤ 10000) <;> rfl
    · rw [zbv]; simp
theorem grands_refstep (d : Diary) (hd : OkD d) (hn : 1000 < n) (v : Nat) (hv : v < d.Gds.length) (k : Unit → Option Int) (back : Nat → Option Int) :
    q9k n d k back v = bif grandE d v != 0 then some (grandE d v) else back (v + 1):=by
  have hg:=hd.grands
  have hp:=hd.places
  have h1:=hd.grandN _ (zby hv)
  have hany : d.Gds.any (isG (ix d.Gds v).Name) = true:=by
    rw [List.any_eq_true]; exact ⟨_,zby hv,by simp [isG]⟩
  have hft : decide (zdm (isG (ix d.Gds v).Name) d.Gds < (v : Int)) = (d.Gds.take v).any (isG (ix d.Gds v).Name):=by rw [findI_take,hany,Bool.and_true]
  rw [q9k]
  simp only [hv,decide_true,cond_true,IsName_eq (ix d.Gds v).Name n (by omega) (by omega),GrandAt_eq (n:=n) d _ (by omega) (by omega),hft,place_eq (n:=n) d _ (by omega) (by omega),findI_none,Option.bind_some,q1k,q30k,zch (by omega : v + 1 ≤ 9223372036854775807),zbf,grandE,isW]
  cases nameB (ix d.Gds v).Name <;> cases (d.Gds.take v).any (isG (ix d.Gds v).Name) <;> cases d.Pcs.any (isS (ix d.Gds v).Place) <;> cases decide (1 ≤ (ix d.Gds v).Width) && decide ((ix d.Gds v).Width ≤ 10000) <;> rfl
def zbc (a b w : Int) : Bool:=(decide (a ≤ w)) && (decide (w ≤ b))
def zcp (d : Diary) : Int :=
  bif namesD d.Pcs 20 != 0 then namesD d.Pcs 20 else bif roadsD d != 0 then roadsD d else bif grandsD d != 0 then grandsD d else
  bif namesD d.Tc 12 != 0 then namesD d.Tc 12 else bif (!zbc 0 1000 d.Change) || (!zbc 0 100000 d.Lasts) then 2 else 0
theorem CheckDiary_eq (d : Diary) (hd : OkD d) (hn : 1000 < n) : zdp n d = some (zcp d):=by
  have hp:=hd.places
  have ht:=hd.techs
  rw [zdp,checkNames_eq 20 hn (by omega) hd.place]
  simp only [Option.bind_some,checkRoads_eq d hd hn,checkGrands_eq d hd hn,checkNames_eq 12 hn (by omega : d.Tc.length ≤ 900) hd.tech,zav,zbd,zcp,zbc]
  cases namesD d.Pcs 20 != 0 <;> cases roadsD d != 0 <;> cases grandsD d != 0 <;> cases namesD d.Tc 12 != 0 <;> cases decide (0 ≤ d.Change) && decide (d.Change ≤ 1000) <;> cases decide (0 ≤ d.Lasts) && decide (d.Lasts ≤ 100000) <;> rfl
theorem CheckDiary_ref (d : Diary) (hd : OkD d) (hn : 1000 < n) : q27k n d = some (zcp d):=by
  have hp:=hd.places
  have ht:=hd.techs
  have hr:=hd.roads
  have hg:=hd.grands
  rw [q27k,names_ref 20 hn (by omega) hd.place]
  simp only [Option.bind_some,zaf,names_ref 12 hn (by omega : d.Tc.length ≤ 900) hd.tech,q1k,zbd]
  have L2 : ∀ K : Option Int,loopN (q9k n d fun _=>K) n 0 = bif zem (grandE d) 0 d.Gds.length != 0 then some (zem (grandE d) 0 d.Gds.length) else K:=fun K=>by
    rw [loop_first (st:=fun v=>v) (E:=grandE d) (err:=some) (k:=K) (len:=d.Gds.length) (fun back v hv _=>grands_refstep d hd hn v hv _ back) (fun back _=>by rw [q9k]; simp) n 0 (by omega) (by omega) (fun j h=>by omega),Nat.sub_zero]
  have L1 : ∀ K : Option Int,loopN (q8k n d fun _=>K) n 0 = bif zem (roadE d) 0 d.Roads.length != 0 then some (zem (roadE d) 0 d.Roads.length) else K:=fun K=>by
    rw [loop_first (st:=fun v=>v) (E:=roadE d) (err:=some) (k:=K) (len:=d.Roads.length) (fun back v hv _=>roads_refstep d hd hn v hv _ back) (fun back _=>by rw [q8k]; simp) n 0 (by omega) (by omega) (fun j h=>by omega),Nat.sub_zero]
  rw [L2,L1,zcp,roadsD,grandsD]
  simp only [zbc]
  cases namesD d.Pcs 20 != 0 <;> cases decide (60 < d.Roads.length) <;> cases decide (12 < d.Gds.length) <;> simp only [cond_true,cond_false] <;>
    cases zem (roadE d) 0 d.Roads.length != 0 <;> cases zem (grandE d) 0 d.Gds.length != 0 <;> cases namesD d.Tc 12 != 0 <;> cases decide (0 ≤ d.Change) && decide (d.Change ≤ 1000) <;> cases decide (0 ≤ d.Lasts) && decide (d.Lasts ≤ 100000) <;> rfl
theorem IndexGrand_eq (l : List Grand) (s : Str) (hn : l.length < n) (hl : l.length < 9223372036854775807) : q37k n l s = some (zdm (isG s) l):=by
  rw [q37k,zaf]
  refine loop_findI (fun back v hv=>?_) (fun back=>?_) n hn
  · rw [q39k]; simp only [hv,diary_grand_f1,Option.bind_some,decide_true,cond_true,zch (by omega : v + 1 ≤ 9223372036854775807),zbf]; rfl
  · rw [q39k]; simp
def zbz (l : List Grand) (s : Str) : Option Grand:=l.find? (isG s)
theorem grand_eq (d : Diary) (s : Str) (hg : d.Gds.length ≤ 900) (hn : 1000 < n) : zca n d s = some (match zbz d.Gds s with | some g=>(g.Name,g.Place,g.Width,true) | none=>([],[],0,false)):=by
  rw [zca,IndexGrand_eq (n:=n) d.Gds s (by omega) (by omega)]
  simp only [Option.bind_some]
  by_cases h : zdm (isG s) d.Gds < 0
  · have:=(findI_neg h).2
    have hf : zbz d.Gds s = none:=List.find?_eq_none.2 fun x hx=>by rw [this x hx]; simp
    simp [h,hf]
  · obtain ⟨h1,h2,h3,h4⟩:=findI_pos h
    have hf : zbz d.Gds s = some (ix d.Gds (zdm (isG s) d.Gds).toNat):=by
      rw [zbz,List.find?_eq_some_iff_getElem]
      refine ⟨h3,(zdm (isG s) d.Gds).toNat,h2,(zdl h2).symm,fun j hj=>?_⟩
      have:=h4 j hj
      rw [zdl (by omega)] at this
      simp [this]
    have hB : inB (zdm (isG s) d.Gds) d.Gds.length = true:=inB_of h1 h2
    simp only [hf,hB,h,h2,decide_true,decide_false,cond_false,zbf]
theorem grandOf_some (l : List Grand) (s : Str) : (zbz l s).isSome = l.any (isG s):=by
  rw [zbz,Bool.eq_iff_iff,List.find?_isSome,List.any_eq_true]
def itemD (d : Diary) (x : Item) : Int :=
  bif !zbc 0 3 x.Kind then 15 else bif (!zbc 0 1000000 x.From) || (!zbc 0 1000000 x.To) then 2 else bif decide (x.To ≤ x.From) then 9 else
  bif (!d.Gds.any (isG x.Grand)) || (!d.Pcs.any (isS x.Place)) then 6 else bif (x.Kind == 0) && (!d.Tc.any (isS x.Who)) then 6 else
  bif x.Kind == 3 then (bif !nameB x.Who then 4 else bif !zbc 0 1000000000 x.Deposit then 2 else 0) else
  bif (x.Deposit != 0) || ((x.Kind != 0) && (!(x.Who == ([] : Str)))) then 3 else 0
structure OkI (x : Item) : Prop where
  grand : x.Grand.length ≤ 30
  place : x.Place.length ≤ 30
  who : x.Who.length ≤ 30
theorem checkItem_eq (d : Diary) (x : Item) (hp : d.Pcs.length ≤ 900) (ht : d.Tc.length ≤ 900) (hg : d.Gds.length ≤ 900) (hx : x.Who.length ≤ 900) (hn : 1000 < n) : zcc n d x = some (itemD d x):=by
  rw [zcc,grand_eq d x.Grand hg hn]
  have hG:=grandOf_some d.Gds x.Grand
  have hdef : (default : Bool) = false:=rfl
  simp only [Option.bind_some,zav,zbh,zbd,Contains_eq (n:=n) d.Pcs x.Place (by omega) (by omega),Contains_eq (n:=n) d.Tc x.Who (by omega) (by omega),isName_eq x.Who n (by omega) (by omega),zaf,itemD,hdef]
  rw [← hG]
  show (bif !zbc 0 3 x.Kind then some 15 else bif (!zbc 0 1000000 x.From) || (!zbc 0 1000000 x.To) then some 2 else _) = _
  cases hk : zbc 0 3 x.Kind with
  | false=>rfl
  | true =>
    have hk4 : x.Kind = 0 ∨ x.Kind = 1 ∨ x.Kind = 2 ∨ x.Kind = 3:=by
      simp [zbc] at hk; omega
    simp only [Bool.not_true,cond_false]
    cases (!zbc 0 1000000 x.From) || (!zbc 0 1000000 x.To) with
    | true=>rfl
    | false =>
    cases decide (x.To ≤ x.From) with
    | true=>rfl
    | false =>
    simp only [cond_false,zbc]
    have e0 : ((match zbz d.Gds x.Grand with | some g=>(g.Name,g.Place,g.Width,true) | none=>(([] : Str),([] : Str),(0 : Int),false)).2.2.2) = (zbz d.Gds x.Grand).isSome:=by cases zbz d.Gds x.Grand <;> rfl
    rw [e0]
    cases (zbz d.Gds x.Grand).isSome with
    | false=>rfl
    | true =>
    cases d.Pcs.any (isS x.Place) with
    | false=>rfl
    | true =>
    rcases hk4 with e | e | e | e <;> rw [e] <;> cases d.Tc.any (isS x.Who) <;> cases nameB x.Who <;> cases decide (0 ≤ x.Deposit) && decide (x.Deposit ≤ 1000000000) <;> cases x.Deposit != 0 <;> cases x.Who == ([] : Str) <;> rfl
theorem CheckItem_ref (d : Diary) (x : Item) (hp : d.Pcs.length ≤ 900) (ht : d.Tc.length ≤ 900) (hg : d.Gds.length ≤ 900) (hx : x.Who.length ≤ 900) (hn : 1000 < n) : q35k n d x = some (itemD d x):=by
  rw [q35k]
  simp only [Option.bind_some,q1k,q3k,zbd,place_eq (n:=n) d x.Place (by omega) (by omega),GrandAt_eq (n:=n) d x.Grand (by omega) (by omega),HasText_eq (n:=n) d.Tc x.Who (by omega) (by omega),IsName_eq x.Who n (by omega) (by omega),itemD,findI_none]
  show (bif !zbc 0 3 x.Kind then some 15 else bif (!zbc 0 1000000 x.From) || (!zbc 0 1000000 x.To) then some 2 else _) = _
  cases hk : zbc 0 3 x.Kind with
  | false=>rfl
  | true =>
    have hk4 : x.Kind = 0 ∨ x.Kind = 1 ∨ x.Kind = 2 ∨ x.Kind = 3:=by
      simp [zbc] at hk; omega
    simp only [Bool.not_true,cond_false]
    cases (!zbc 0 1000000 x.From) || (!zbc 0 1000000 x.To) with
    | true=>rfl
    | false =>
    cases decide (x.To ≤ x.From) with
    | true=>rfl
    | false =>
    simp only [cond_false,zbc]
    cases d.Gds.any (isG x.Grand) with
    | false=>rfl
    | true =>
    simp only [Bool.not_true,Bool.not_false,cond_true,findI_none,Bool.false_or]
    cases d.Pcs.any (isS x.Place) with
    | false=>rfl
    | true =>
    rcases hk4 with e | e | e | e <;> rw [e] <;> cases d.Tc.any (isS x.Who) <;> cases nameB x.Who <;> cases decide (0 ≤ x.Deposit) && decide (x.Deposit ≤ 1000000000) <;> cases x.Deposit != 0 <;> cases x.Who == ([] : Str) <;> rfl
end
section
set_option maxRecDepth 4000
open Go
set_option maxRecDepth 100000 in
theorem awake_ok (m : Nat) : q89k (m + 2000) = some true:=by kernel_rfl
theorem town_ok (d : Diary) (n : Nat) (hd : OkD d) : q40k n d = some ():=by
  obtain ⟨h1,h2,h3,h4,_,_,_,_,_,_⟩:=hd
  have r1 : room 16 d.Pcs.length = true:=room_of (by omega) (by omega)
  have r2 : room 16 d.Tc.length = true:=room_of (by omega) (by omega)
  have r3 : room 48 d.Roads.length = true:=room_of (by omega) (by omega)
  have r4 : room 40 d.Gds.length = true:=room_of (by omega) (by omega)
  simp only [q40k,q41k,r1,r2,r3,r4,zbf,Option.bind_some]
end
section
set_option maxRecDepth 4000
open Go
theorem lookup_mPut {α β : Type} [BEq α] [LawfulBEq α] (x : α) (v : β) (y : α) : ∀ m : List (α × β),List.lookup y (mPut x v m) = bif y == x then some v else List.lookup y m:=by
  intro m
  induction m with
  | nil =>
    simp only [mPut,List.lookup]
    cases y == x <;> rfl
  | cons p m ih =>
    obtain ⟨k,u⟩:=p
    simp only [mPut]
    by_cases h : x = k
    · subst h
      simp only [beq_self_eq_true,List.lookup]
      cases y == x <;> rfl
    · have e : (x == k) = false:=by simpa using h
      rw [e]
      simp only [List.lookup]
      cases hy : y == k
      · exact ih
      · have : y = k:=eq_of_beq hy
        have : (y == x) = false:=by rw [this]; simpa using Ne.symm h
        rw [this]; rfl
theorem zbr {α : Type} [Inhabited α] {l : List α} {v : Nat} (h : v < l.length) : l.take (v + 1) = l.take v ++ [ix l v]:=by
  rw [List.take_succ_eq_append_getElem h,zdl h]
end
section
set_option maxRecDepth 4000
open Go
variable {n : Nat}
def conn (a b : Str) (w : Int) (r : Road) : Bool:=(((r.A == a) && (r.B == b)) || ((r.A == b) && (r.B == a))) && (decide (w ≤ r.Width))
def joinStep (a b : Str) (w : Int) (s : Int × Bool) (r : Road) : Int × Bool:=bif conn a b w r && ((!s.2) || (decide (r.Minutes < s.1))) then (r.Minutes,true) else s
def zdz (l : List Road) (a b : Str) (w : Int) : Int × Bool:=l.foldl (joinStep a b w) (0,false)
theorem joinB_snoc (l : List Road) (r : Road) (a b : Str) (w : Int) : zdz (l ++ [r]) a b w = joinStep a b w (zdz l a b w) r:=by
  rw [zdz,List.foldl_append]; rfl
theorem loop_triple {σ τ R : Type} {F : (σ × τ × Nat → Option R) → σ × τ × Nat → Option R} {st : Nat → σ × τ} {k : Option R} {len : Nat} (h1 : ∀ back v,v < len → F back ((st v).1,(st v).2,v) = back ((st (v + 1)).1,(st (v + 1)).2,v + 1)) (h2 : ∀ back,F back ((st len).1,(st len).2,len) = k) (n : Nat) (hn : len < n) {s0 : σ} {t0 : τ} (h0 : st 0 = (s0,t0)) : loopN F n (s0,t0,0) = k:=by
  have:=loop_through (st:=fun v=>((st v).1,(st v).2,v)) h1 h2 n hn
  simpa only [h0] using this
theorem joined_eq (p t : List Str) (roads : List Road) (g : List Grand) (c ls : Int) (m : List (Int × List (A2s × Int))) (a b : Str) (w : Int) (hn : 1000 < n) (hl : roads.length ≤ 900) :
    zcv n p t roads g c ls m a b w = some (zdz roads a b w):=by
  rw [zcv,zaf]
  refine loop_triple (st:=fun v=>zdz (roads.take v) a b w) (len:=roads.length) (fun back v hv=>?_) (fun back=>?_) n (by omega) rfl
  · rw [zcr]
    simp only [hv,decide_true,cond_true,zaf,zch (by omega : v + 1 ≤ 9223372036854775807),zbf,zbr hv,joinB_snoc]
    show (bif conn a b w (ix roads v) && _ then _ else _) = _
    simp only [joinStep]
    cases conn a b w (ix roads v) && ((!(zdz (List.take v roads) a b w).2) || (decide ((ix roads v).Minutes < (zdz (List.take v roads) a b w).1))) <;> rfl
  · rw [zcr]
    simp only [Nat.lt_irrefl,decide_false,cond_false,List.take_length]
theorem joinB_spec (a b : Str) (w : Int) : ∀ l : List Road,(zdz l a b w).2 = l.any (conn a b w) ∧ ((zdz l a b w).2 = true → (∃ r ∈ l,conn a b w r = true ∧ r.Minutes = (zdz l a b w).1) ∧ ∀ r ∈ l,conn a b w r = true → (zdz l a b w).1 ≤ r.Minutes):=by
  intro l
  suffices h : ∀ l : List Road,(zdz l.reverse a b w).2 = l.reverse.any (conn a b w) ∧ ((zdz l.reverse a b w).2 = true → (∃ r ∈ l.reverse,conn a b w r = true ∧ r.Minutes = (zdz l.reverse a b w).1) ∧ ∀ r ∈ l.reverse,conn a b w r = true → (zdz l.reverse a b w).1 ≤ r.Minutes) by
    have:=h l.reverse
    rwa [List.reverse_reverse] at this
  intro l
  induction l with
  | nil=>exact ⟨rfl,fun h=>by cases h⟩
  | cons r l ih =>
    rw [List.reverse_cons,joinB_snoc,joinStep,List.any_append,List.any_cons,List.any_nil,Bool.or_false,← ih.1]
    obtain ⟨ih0,ih⟩:=ih
    generalize zdz l.reverse a b w = s at ih0 ih ⊢
    obtain ⟨x,y⟩:=s
    cases hc : conn a b w r with
    | false =>
      simp only [Bool.false_and,cond_false,Bool.or_false,true_and]
      intro hy
      obtain ⟨⟨r',h1,h2⟩,h3⟩:=ih hy
      refine ⟨⟨r',List.mem_append_left _ h1,h2⟩,fun q hq hcq=>?_⟩
      rcases List.mem_append.1 hq with hq | hq
      · exact h3 q hq hcq
      · rw [List.mem_singleton.1 hq,hc] at hcq; cases hcq
    | true =>
      simp only [Bool.true_and,Bool.or_true]
      cases y with
      | false =>
        simp only [Bool.not_false,Bool.true_or,cond_true,true_and,forall_const]
        refine ⟨⟨r,by simp,hc,rfl⟩,fun q hq hcq=>?_⟩
        rcases List.mem_append.1 hq with hq | hq
        · have:=List.any_eq_false.1 ih0.symm q hq; exact absurd hcq this
        · rw [List.mem_singleton.1 hq]; exact Int.le_refl _
      | true =>
        obtain ⟨⟨r',h1,h2⟩,h3⟩:=ih rfl
        simp only [Bool.not_true,Bool.false_or]
        by_cases hlt : r.Minutes < x
        · rw [decide_eq_true hlt]
          simp only [cond_true,true_and,forall_const]
          refine ⟨⟨r,by simp,hc,rfl⟩,fun q hq hcq=>?_⟩
          rcases List.mem_append.1 hq with hq | hq
          · have:=h3 q hq hcq; simp only at this; omega
          · rw [List.mem_singleton.1 hq]; exact Int.le_refl _
        · rw [decide_eq_false hlt]
          simp only [cond_false,true_and,forall_const]
          refine ⟨⟨r',List.mem_append_left _ h1,h2⟩,fun q hq hcq=>?_⟩
          rcases List.mem_append.1 hq with hq | hq
          · exact h3 q hq hcq
          · rw [List.mem_singleton.1 hq]; show x ≤ r.Minutes; omega
end
section
set_option maxRecDepth 4000
section
variable {α : Type}
inductive Walk (J : α → α → Nat → Prop) (S : α → Prop) : α → α → Nat → Prop
  | refl (a : α) : Walk J S a a 0
  | edge {a b : α} {m : Nat} (h : J a b m) : Walk J S a b m
  | cons {a c b : α} {m l : Nat} (h : J a c m) (hc : S c) (k : Walk J S c b l) : Walk J S a b (m + l)
variable {J : α → α → Nat → Prop} {S S' : α → Prop} {a b c k : α} {l l1 l2 m d : Nat}
theorem Walk.mono (hS : ∀ x,S x → S' x) (h : Walk J S a b l) : Walk J S' a b l:=by
  induction h with
  | refl a=>exact .refl a
  | edge h=>exact .edge h
  | cons h hc _ ih=>exact .cons h (hS _ hc) ih
theorem Walk.ends (P : α → Prop) (hJ : ∀ a b m,J a b m → P a ∧ P b) (h : Walk J S a b l) : Walk J P a b l:=by
  induction h with
  | refl a=>exact .refl a
  | edge h=>exact .edge h
  | cons h hc _ ih=>exact .cons h (hJ _ _ _ h).2 ih
theorem Walk.trans (h : Walk J S a c l1) (hc : S c) (g : Walk J S c b l2) : Walk J S a b (l1 + l2):=by
  induction h with
  | refl a=>simpa using g
  | edge h=>exact .cons h hc g
  | cons h hd _ ih =>
    rw [Nat.add_assoc]
    exact .cons h hd (ih hc g)
theorem Walk.split (h : Walk J (fun x=>S x ∨ x = k) a b l) : (∃ l',l' ≤ l ∧ Walk J S a b l') ∨ ∃ l1 l2,Walk J S a k l1 ∧ Walk J S k b l2 ∧ l1 + l2 ≤ l:=by
  induction h with
  | refl a=>exact .inl ⟨0,Nat.le_refl _,.refl a⟩
  | edge h=>exact .inl ⟨_,Nat.le_refl _,.edge h⟩
  | @cons a c b m l h hc _ ih =>
    rcases ih with ⟨l',h1,h2⟩ | ⟨l1,l2,h1,h2,h3⟩
    · rcases hc with hc | rfl
      · exact .inl ⟨m + l',by omega,.cons h hc h2⟩
      · exact .inr ⟨m,l',.edge h,h2,by omega⟩
    · rcases hc with hc | rfl
      · exact .inr ⟨m + l1,l2,.cons h hc h1,h2,by omega⟩
      · exact .inr ⟨m,l2,.edge h,h2,by omega⟩
theorem Walk.symm (hJ : ∀ a b m,J a b m → J b a m) (h : Walk J (fun _=>True) a b l) : Walk J (fun _=>True) b a l:=by
  induction h with
  | refl a=>exact .refl a
  | edge h=>exact .edge (hJ _ _ _ h)
  | @cons a c b m l h hc _ ih =>
    rw [Nat.add_comm]
    exact ih.trans trivial (.edge (hJ _ _ _ h))
def IsDist (J : α → α → Nat → Prop) (a b : α) (o : Option Nat) : Prop:=(∀ d,o = some d → Walk J (fun _=>True) a b d) ∧ ∀ l,Walk J (fun _=>True) a b l → ∃ d,o = some d ∧ d ≤ l
theorem IsDist.unique {o o' : Option Nat} (h : IsDist J a b o) (g : IsDist J a b o') : o = o':=by
  cases o with
  | none =>
    cases o' with
    | none=>rfl
    | some d=>obtain ⟨_,h1,_⟩:=h.2 d (g.1 d rfl); cases h1
  | some d =>
    cases o' with
    | none=>obtain ⟨_,h1,_⟩:=g.2 d (h.1 d rfl); cases h1
    | some d' =>
      obtain ⟨x,h1,h2⟩:=h.2 d' (g.1 d' rfl)
      obtain ⟨y,h3,h4⟩:=g.2 d (h.1 d rfl)
      cases h1; cases h3
      congr 1; omega
def TabSound (J : α → α → Nat → Prop) (m : α → α → Option Nat) : Prop:=∀ a b d,m a b = some d → Walk J (fun _=>True) a b d
def TabLe (m m' : α → α → Option Nat) : Prop:=∀ a b d,m a b = some d → ∃ d',m' a b = some d' ∧ d' ≤ d
def TabCl (J : α → α → Nat → Prop) (P S : α → Prop) (m : α → α → Option Nat) : Prop:=∀ a b l,P a → P b → Walk J S a b l → ∃ d,m a b = some d ∧ d ≤ l
theorem TabLe.refl (m : α → α → Option Nat) : TabLe m m:=fun _ _ d h=>⟨d,h,Nat.le_refl _⟩
theorem TabLe.trans {m m' m'' : α → α → Option Nat} (h : TabLe m m') (g : TabLe m' m'') : TabLe m m'':=fun a b d e=>by
  obtain ⟨d',h1,h2⟩:=h a b d e
  obtain ⟨d'',h3,h4⟩:=g a b d' h1
  exact ⟨d'',h3,by omega⟩
theorem TabCl.step {P : α → Prop} {m m' : α → α → Option Nat} (h : TabCl J P S m) (hk : P k) (hle : TabLe m m')
    (hs : ∀ a b d1 d2,P a → P b → m a k = some d1 → m k b = some d2 → ∃ d,m' a b = some d ∧ d ≤ d1 + d2) : TabCl J P (fun x=>S x ∨ x = k) m':=by
  intro a b l ha hb hw
  rcases hw.split with ⟨l',h1,h2⟩ | ⟨l1,l2,h1,h2,h3⟩
  · obtain ⟨d,e1,e2⟩:=h a b l' ha hb h2
    obtain ⟨d',e3,e4⟩:=hle a b d e1
    exact ⟨d',e3,by omega⟩
  · obtain ⟨d1,e1,e2⟩:=h a k l1 ha hk h1
    obtain ⟨d2,e3,e4⟩:=h k b l2 hk hb h2
    obtain ⟨d,e5,e6⟩:=hs a b d1 d2 ha hb e1 e3
    exact ⟨d,e5,by omega⟩
theorem TabCl.dist {P : α → Prop} (hJ : ∀ a b m,J a b m → P a ∧ P b) {m : α → α → Option Nat} (h : TabCl J P P m) (hs : TabSound J m) {a b : α} (ha : P a) (hb : P b) : IsDist J a b (m a b) :=
  ⟨fun d hd=>hs a b d hd,fun l hl=>h a b l ha hb (hl.ends P hJ)⟩
theorem isDist_of_fix {o : α → Option Nat} {s : α} (h0 : o s = some 0) (hs : ∀ b d,o b = some d → Walk J (fun _=>True) s b d)
    (hf : ∀ a b d m,o a = some d → J a b m → ∃ d',o b = some d' ∧ d' ≤ d + m) (b : α) : IsDist J s b (o b):=by
  refine ⟨fun d hd=>hs b d hd,fun l hl=>?_⟩
  have key : ∀ a b l,Walk J (fun _=>True) a b l → ∀ d,o a = some d → ∃ d',o b = some d' ∧ d' ≤ d + l:=by
    intro a b l hw
    induction hw with
    | refl a=>intro d hd; exact ⟨d,hd,by omega⟩
    | edge h=>intro d hd; exact hf _ _ _ _ hd h
    | cons h _ _ ih =>
      intro d hd
      obtain ⟨d1,e1,e2⟩:=hf _ _ _ _ hd h
      obtain ⟨d2,e3,e4⟩:=ih d1 e1
      exact ⟨d2,e3,by omega⟩
  obtain ⟨d,h1,h2⟩:=key s b l hl 0 h0
  exact ⟨d,h1,by omega⟩
end
end
section
set_option maxRecDepth 4000
open Go
abbrev Tab:=List (A2s × Int)
def tv (t : Tab) (a b : Str) : Option Int:=List.lookup (A2s.mk a b) t
def tN (t : Tab) (a b : Str) : Option Nat:=(tv t a b).map Int.toNat
theorem zep (t : Tab) (a b : Str) (v : Int) (x y : Str) : tv (mPut (A2s.mk a b) v t) x y = if x = a ∧ y = b then some v else tv t x y:=by
  rw [tv,lookup_mPut]
  by_cases h : x = a ∧ y = b
  · obtain ⟨rfl,rfl⟩:=h
    simp
  · have : ((A2s.mk x y) == (A2s.mk a b)) = false:=by
      rw [beq_eq_false_iff_ne]
      intro e
      cases e
      exact h ⟨rfl,rfl⟩
    rw [this,if_neg h]; rfl
def Jn (roads : List Road) (w : Int) (a b : Str) (m : Nat) : Prop:=∃ r ∈ roads,conn a b w r = true ∧ r.Minutes = ((m : Nat) : Int)
def fwStep (p : List Str) (k i j : Nat) (t : Tab) : Tab :=
  bif ((Option.isSome (tv t (ix p i) (ix p k))) && (Option.isSome (tv t (ix p k) (ix p j)))) && ((!(Option.isSome (tv t (ix p i) (ix p j)))) || (decide (((Option.getD (tv t (ix p i) (ix p k)) (0 : Int)) + (Option.getD (tv t (ix p k) (ix p j)) (0 : Int))) < (Option.getD (tv t (ix p i) (ix p j)) (0 : Int))))) then
    mPut (A2s.mk (ix p i) (ix p j)) ((Option.getD (tv t (ix p i) (ix p k)) (0 : Int)) + (Option.getD (tv t (ix p k) (ix p j)) (0 : Int))) t
  else t
def fwJ (p : List Str) (k i : Nat) (t : Tab) : Nat → Tab
  | 0=>t
  | j + 1=>fwStep p k i j (fwJ p k i t j)
def fwI (p : List Str) (k : Nat) (t : Tab) : Nat → Tab
  | 0=>t
  | i + 1=>fwJ p k i (fwI p k t i) p.length
def fwK (p : List Str) (t : Tab) : Nat → Tab
  | 0=>t
  | k + 1=>fwI p k (fwK p t k) p.length
structure Rnd (J : Str → Str → Nat → Prop) (p : List Str) (k : Nat) (B : Int) (t : Tab) : Prop where
  diag : ∀ x ∈ p,tv t x x = some 0
  lo : ∀ a b v,tv t a b = some v → 0 ≤ v
  hi : ∀ a b v,tv t a b = some v → v ≤ 2 * B
  row : ∀ b v,tv t (ix p k) b = some v → v ≤ B
  col : ∀ a v,tv t a (ix p k) = some v → v ≤ B
  sound : TabSound J (tN t)
  mem : ∀ a b v,tv t a b = some v → a ∈ p ∧ b ∈ p
variable {J : Str → Str → Nat → Prop} {p : List Str} {k i j : Nat} {B : Int} {t : Tab}
theorem tN_some {a b : Str} {d : Nat} (h : tN t a b = some d) (lo : ∀ a b v,tv t a b = some v → 0 ≤ v) : tv t a b = some ((d : Nat) : Int):=by
  rw [tN,Option.map_eq_some_iff] at h
  obtain ⟨v,h1,h2⟩:=h
  have:=lo a b v h1
  rw [h1]; congr 1; omega
theorem tN_of {a b : Str} {v : Int} (h : tv t a b = some v) : tN t a b = some v.toNat:=by rw [tN,h]; rfl
theorem Rnd.step (h : Rnd J p k B t) (hk : k < p.length) (hi : i < p.length) (hj : j < p.length) :
    Rnd J p k B (fwStep p k i j t) ∧ TabLe (tN t) (tN (fwStep p k i j t)) ∧ ∀ d1 d2,tN t (ix p i) (ix p k) = some d1 → tN t (ix p k) (ix p j) = some d2 → ∃ d,tN (fwStep p k i j t) (ix p i) (ix p j) = some d ∧ d ≤ d1 + d2:=by
  have mi:=zby hi
  have mj:=zby hj
  have mk:=zby hk
  have hkk:=h.diag _ mk
  rw [fwStep]
  cases e1 : tv t (ix p i) (ix p k) with
  | none =>
    simp only [Option.isSome_none,Bool.false_and,cond_false]
    refine ⟨h,.refl _,fun d1 d2 h1=>?_⟩
    rw [tN,e1] at h1; cases h1
  | some x =>
    cases e2 : tv t (ix p k) (ix p j) with
    | none =>
      simp only [Option.isSome_none,Bool.and_false,Bool.false_and,cond_false]
      refine ⟨h,.refl _,fun d1 d2 _ h2=>?_⟩
      rw [tN,e2] at h2; cases h2
    | some y =>
      have lx:=h.lo _ _ _ e1
      have ly:=h.lo _ _ _ e2
      have bx:=h.col _ _ e1
      have by':=h.row _ _ e2
      have put : (∀ z,tv t (ix p i) (ix p j) = some z → x + y < z) →
          Rnd J p k B (mPut (A2s.mk (ix p i) (ix p j)) (x + y) t) ∧ TabLe (tN t) (tN (mPut (A2s.mk (ix p i) (ix p j)) (x + y) t)) ∧ ∀ d1 d2,tN t (ix p i) (ix p k) = some d1 → tN t (ix p k) (ix p j) = some d2 → ∃ d,tN (mPut (A2s.mk (ix p i) (ix p j)) (x + y) t) (ix p i) (ix p j) = some d ∧ d ≤ d1 + d2:=by
        intro hz
        have nik : ix p i ≠ ix p k:=fun e=>by
          rw [e] at e1 hz
          rw [hkk] at e1; cases e1
          have:=hz y e2
          omega
        have njk : ix p j ≠ ix p k:=fun e=>by
          rw [e] at e2 hz
          rw [hkk] at e2; cases e2
          have:=hz x e1
          omega
        have nij : ix p i ≠ ix p j:=fun e=>by
          rw [← e] at hz
          have:=hz 0 (h.diag _ mi)
          omega
        refine ⟨⟨fun q hq=>?_,fun a b v hv=>?_,fun a b v hv=>?_,fun b v hv=>?_,fun a v hv=>?_,fun a b d hd=>?_,fun a b v hv=>?_⟩,fun a b d hd=>?_,fun d1 d2 h1 h2=>?_⟩
        · rw [zep,if_neg (fun e=>nij (e.1.symm.trans e.2))]; exact h.diag q hq
        · rw [zep] at hv
          split at hv
          · cases hv; omega
          · exact h.lo _ _ _ hv
        · rw [zep] at hv
          split at hv
          · cases hv; omega
          · exact h.hi _ _ _ hv
        · rw [zep,if_neg (fun e=>nik e.1.symm)] at hv; exact h.row _ _ hv
        · rw [zep,if_neg (fun e=>njk e.2.symm)] at hv; exact h.col _ _ hv
        · rw [tN,zep] at hd
          split at hd
          · rename_i e
            obtain ⟨rfl,rfl⟩:=e
            cases hd
            have w1:=h.sound _ _ _ (tN_of e1)
            have w2:=h.sound _ _ _ (tN_of e2)
            rw [show (x + y).toNat = x.toNat + y.toNat by omega]
            exact w1.trans trivial w2
          · exact h.sound _ _ _ hd
        · rw [zep] at hv
          split at hv
          · rename_i e
            obtain ⟨rfl,rfl⟩:=e
            exact ⟨mi,mj⟩
          · exact h.mem _ _ _ hv
        · rw [tN,zep]
          by_cases e : a = ix p i ∧ b = ix p j
          · rw [if_pos e]
            obtain ⟨rfl,rfl⟩:=e
            have:=hz _ (tN_some hd h.lo)
            exact ⟨_,rfl,by omega⟩
          · rw [if_neg e]; exact ⟨d,hd,Nat.le_refl _⟩
        · rw [tN_of e1] at h1; rw [tN_of e2] at h2
          cases h1; cases h2
          rw [tN,zep,if_pos ⟨rfl,rfl⟩]
          exact ⟨_,rfl,by omega⟩
      have keep : ∀ z,tv t (ix p i) (ix p j) = some z → ¬ x + y < z → ∀ d1 d2,tN t (ix p i) (ix p k) = some d1 → tN t (ix p k) (ix p j) = some d2 → ∃ d,tN t (ix p i) (ix p j) = some d ∧ d ≤ d1 + d2:=by
        intro z e3 hz d1 d2 h1 h2
        rw [tN_of e1] at h1; rw [tN_of e2] at h2
        cases h1; cases h2
        exact ⟨_,tN_of e3,by omega⟩
      cases e3 : tv t (ix p i) (ix p j) with
      | none =>
        simp only [Option.isSome_some,Option.isSome_none,Bool.not_false,Bool.true_or,Bool.and_self,cond_true,Option.getD_some]
        exact put fun z hz=>by rw [e3] at hz; cases hz
      | some z =>
        simp only [Option.isSome_some,Bool.not_true,Bool.false_or,Bool.true_and,Bool.and_self,Option.getD_some]
        by_cases hz : x + y < z
        · rw [decide_eq_true hz,cond_true]
          exact put fun z' hz'=>by rw [e3] at hz'; cases hz'; exact hz
        · rw [decide_eq_false hz,cond_false]
          exact ⟨h,.refl _,keep z e3 hz⟩
theorem Rnd.rowJ (h : Rnd J p k B t) (hk : k < p.length) (hi : i < p.length) : ∀ m,m ≤ p.length →
    Rnd J p k B (fwJ p k i t m) ∧ TabLe (tN t) (tN (fwJ p k i t m)) ∧ ∀ j,j < m → ∀ d1 d2,tN t (ix p i) (ix p k) = some d1 → tN t (ix p k) (ix p j) = some d2 → ∃ d,tN (fwJ p k i t m) (ix p i) (ix p j) = some d ∧ d ≤ d1 + d2:=by
  intro m
  induction m with
  | zero=>intro _; exact ⟨h,.refl _,fun j hj=>absurd hj (Nat.not_lt_zero _)⟩
  | succ m ih =>
    intro hm
    obtain ⟨r,le,cl⟩:=ih (by omega)
    obtain ⟨r2,le2,cl2⟩:=r.step hk hi (by omega : m < p.length)
    refine ⟨r2,le.trans le2,fun j hj d1 d2 h1 h2=>?_⟩
    by_cases e : j = m
    · subst e
      obtain ⟨e1,g1,l1⟩:=le _ _ _ h1
      obtain ⟨e2,g2,l2⟩:=le _ _ _ h2
      obtain ⟨d,g3,l3⟩:=cl2 e1 e2 g1 g2
      exact ⟨d,g3,by omega⟩
    · obtain ⟨d,g,l⟩:=cl j (by omega) d1 d2 h1 h2
      obtain ⟨d',g',l'⟩:=le2 _ _ _ g
      exact ⟨d',g',by omega⟩
theorem Rnd.rowsI (h : Rnd J p k B t) (hk : k < p.length) : ∀ m,m ≤ p.length →
    Rnd J p k B (fwI p k t m) ∧ TabLe (tN t) (tN (fwI p k t m)) ∧ ∀ i,i < m → ∀ j,j < p.length → ∀ d1 d2,tN t (ix p i) (ix p k) = some d1 → tN t (ix p k) (ix p j) = some d2 → ∃ d,tN (fwI p k t m) (ix p i) (ix p j) = some d ∧ d ≤ d1 + d2:=by
  intro m
  induction m with
  | zero=>intro _; exact ⟨h,.refl _,fun j hj=>absurd hj (Nat.not_lt_zero _)⟩
  | succ m ih =>
    intro hm
    obtain ⟨r,le,cl⟩:=ih (by omega)
    obtain ⟨r2,le2,cl2⟩:=r.rowJ hk (by omega : m < p.length) p.length (Nat.le_refl _)
    refine ⟨r2,le.trans le2,fun i hi j hj d1 d2 h1 h2=>?_⟩
    by_cases e : i = m
    · subst e
      obtain ⟨e1,g1,l1⟩:=le _ _ _ h1
      obtain ⟨e2,g2,l2⟩:=le _ _ _ h2
      obtain ⟨d,g3,l3⟩:=cl2 j hj e1 e2 g1 g2
      exact ⟨d,g3,by omega⟩
    · obtain ⟨d,g,l⟩:=cl i (by omega) j hj d1 d2 h1 h2
      obtain ⟨d',g',l'⟩:=le2 _ _ _ g
      exact ⟨d',g',by omega⟩
structure Tbl (J : Str → Str → Nat → Prop) (p : List Str) (B : Int) (t : Tab) : Prop where
  diag : ∀ x ∈ p,tv t x x = some 0
  lo : ∀ a b v,tv t a b = some v → 0 ≤ v
  hi : ∀ a b v,tv t a b = some v → v ≤ B
  sound : TabSound J (tN t)
  mem : ∀ a b v,tv t a b = some v → a ∈ p ∧ b ∈ p
theorem Tbl.rnd (h : Tbl J p B t) (hB : 0 ≤ B) (k : Nat) : Rnd J p k B t:=⟨h.diag,h.lo,fun a b v e=>by have:=h.hi a b v e; omega,fun b v e=>h.hi _ _ _ e,fun a v e=>h.hi _ _ _ e,h.sound,h.mem⟩
theorem Rnd.tbl (h : Rnd J p k B t) : Tbl J p (2 * B) t:=⟨h.diag,h.lo,h.hi,h.sound,h.mem⟩
theorem Tbl.rounds (h : Tbl J p B t) (hB : 0 ≤ B) (hcl : TabCl J (· ∈ p) (fun _=>False) (tN t)) : ∀ m,m ≤ p.length → Tbl J p (B * 2 ^ m) (fwK p t m) ∧ TabCl J (· ∈ p) (fun x=>∃ k,k < m ∧ x = ix p k) (tN (fwK p t m)):=by
  intro m
  induction m with
  | zero =>
    intro _
    refine ⟨by rw [Int.pow_zero,Int.mul_one]; exact h,?_⟩
    intro a b l ha hb hw
    exact hcl a b l ha hb (hw.mono fun x hx=>by obtain ⟨k,hk,_⟩:=hx; omega)
  | succ m ih =>
    intro hm
    obtain ⟨t1,cl⟩:=ih (by omega)
    have hB2 : 0 ≤ B * 2 ^ m:=Int.mul_nonneg hB (Int.pow_nonneg (by decide))
    obtain ⟨r,le,st⟩:=(t1.rnd hB2 m).rowsI (by omega : m < p.length) p.length (Nat.le_refl _)
    refine ⟨?_,?_⟩
    · have:=r.tbl
      rw [show B * 2 ^ (m + 1) = 2 * (B * 2 ^ m) by rw [Int.pow_succ,← Int.mul_assoc,Int.mul_comm]]
      exact this
    · have c2:=cl.step (k:=ix p m) (zby (by omega : m < p.length)) le (fun a b d1 d2 ha hb h1 h2=>by
        obtain ⟨i,hi,rfl⟩:=List.mem_iff_getElem.1 ha
        obtain ⟨j,hj,rfl⟩:=List.mem_iff_getElem.1 hb
        rw [← zdl hi] at h1 ⊢
        rw [← zdl hj] at h2 ⊢
        exact st i hi j hj d1 d2 h1 h2)
      intro a b l ha hb hw
      refine c2 a b l ha hb (hw.mono fun x hx=>?_)
      obtain ⟨k,hk,rfl⟩:=hx
      by_cases e : k = m
      · exact .inr (by rw [e])
      · exact .inl ⟨k,by omega,rfl⟩
end
section
set_option maxRecDepth 4000
open Go
def initRow (p : List Str) (roads : List Road) (w : Int) (i : Nat) (t : Tab) : Nat → Tab
  | 0=>t
  | j + 1=>bif (zdz roads (ix p i) (ix p j) w).2 && (!(ix p i == ix p j)) then mPut (A2s.mk (ix p i) (ix p j)) (zdz roads (ix p i) (ix p j) w).1 (initRow p roads w i t j) else initRow p roads w i t j
def initT (p : List Str) (roads : List Road) (w : Int) : Nat → Tab
  | 0=>[]
  | i + 1=>initRow p roads w i (mPut (A2s.mk (ix p i) (ix p i)) 0 (initT p roads w i)) p.length
def tabW (p : List Str) (roads : List Road) (w : Int) : Tab:=fwK p (initT p roads w p.length) p.length
structure OkR (p : List Str) (roads : List Road) : Prop where
  nodup : p.Nodup
  len : p.length ≤ 20
  rlen : roads.length ≤ 60
  mem : ∀ r ∈ roads,r.A ∈ p ∧ r.B ∈ p
  ne : ∀ r ∈ roads,r.A ≠ r.B
  lo : ∀ r ∈ roads,1 ≤ r.Minutes
  hi : ∀ r ∈ roads,r.Minutes ≤ 10000
theorem diaryD_zero {d : Diary} (h : zcp d = 0) : OkR d.Pcs d.Roads ∧ (∀ g ∈ d.Gds,g.Place ∈ d.Pcs ∧ 1 ≤ g.Width ∧ g.Width ≤ 10000) ∧ d.Gds.length ≤ 12 ∧ d.Tc.length ≤ 12 ∧ (0 ≤ d.Change ∧ d.Change ≤ 1000) ∧ (0 ≤ d.Lasts ∧ d.Lasts ≤ 100000):=by
  rw [zcp] at h
  have h1 : namesD d.Pcs 20 = 0:=Decidable.byContradiction fun c=>by
    rw [zdx c,cond_true] at h; exact c h
  have h2 : roadsD d = 0:=Decidable.byContradiction fun c=>by
    rw [h1,zdx c] at h; exact c h
  have h3 : grandsD d = 0:=Decidable.byContradiction fun c=>by
    rw [h1,h2,zdx c] at h; exact c h
  have h4 : namesD d.Tc 12 = 0:=Decidable.byContradiction fun c=>by
    rw [h1,h2,h3,zdx c] at h; exact c h
  rw [h1,h2,h3,h4] at h
  simp only [bne_self_eq_false,cond_false] at h
  have hcl : zbc 0 1000 d.Change = true ∧ zbc 0 100000 d.Lasts = true:=by
    cases e1 : zbc 0 1000 d.Change <;> cases e2 : zbc 0 100000 d.Lasts <;> simp [e1,e2] at h ⊢
  obtain ⟨nd,nl,_⟩:=namesD_nodup h1
  obtain ⟨_,tl,_⟩:=namesD_nodup h4
  have hr60 : d.Roads.length ≤ 60:=by
    rw [roadsD] at h2
    cases e : decide (60 < d.Roads.length) with
    | true=>rw [e] at h2; simp at h2
    | false=>simp at e; omega
  have hrz : ∀ r ∈ d.Roads,r.A ∈ d.Pcs ∧ r.B ∈ d.Pcs ∧ r.A ≠ r.B ∧ isW r.Minutes = true ∧ isW r.Width = true:=by
    intro r hr
    rw [roadsD,decide_eq_false (by omega : ¬ 60 < d.Roads.length),cond_false] at h2
    obtain ⟨i,hi,rfl⟩:=List.mem_iff_getElem.1 hr
    have:=firstE_zero h2 i (by omega) (by omega)
    rw [roadE,zdl hi] at this
    have mem : ∀ s : Str,d.Pcs.any (isS s) = true → s ∈ d.Pcs:=fun s hs=>by
      obtain ⟨x,hx,e⟩:=List.any_eq_true.1 hs
      rw [isS,beq_iff_eq] at e; rwa [← e]
    cases a1 : d.Pcs.any (isS d.Roads[i].A) with
    | false=>rw [a1] at this; simp at this
    | true =>
      cases a2 : d.Pcs.any (isS d.Roads[i].B) with
      | false=>rw [a1,a2] at this; simp at this
      | true =>
        by_cases a3 : d.Roads[i].A = d.Roads[i].B
        · rw [a1,a2,a3,beq_self_eq_true] at this; simp at this
        · have a3' : (d.Roads[i].A == d.Roads[i].B) = false:=beq_eq_false_iff_ne.2 a3
          cases a4 : isW d.Roads[i].Minutes with
          | false=>rw [a1,a2,a3',a4] at this; simp at this
          | true =>
            cases a5 : isW d.Roads[i].Width with
            | false=>rw [a1,a2,a3',a4,a5] at this; simp at this
            | true=>exact ⟨mem _ a1,mem _ a2,a3,rfl,rfl⟩
  have hg12 : d.Gds.length ≤ 12:=by
    rw [grandsD] at h3
    cases e : decide (12 < d.Gds.length) with
    | true=>rw [e] at h3; simp at h3
    | false=>simp at e; omega
  have hgz : ∀ g ∈ d.Gds,g.Place ∈ d.Pcs ∧ 1 ≤ g.Width ∧ g.Width ≤ 10000:=by
    intro r hr
    rw [grandsD,decide_eq_false (by omega : ¬ 12 < d.Gds.length),cond_false] at h3
    obtain ⟨i,hi,rfl⟩:=List.mem_iff_getElem.1 hr
    have:=firstE_zero h3 i (by omega) (by omega)
    rw [grandE,zdl hi] at this
    cases a0 : nameB d.Gds[i].Name with
    | false=>rw [a0] at this; simp at this
    | true =>
      cases a1 : (d.Gds.take i).any (isG d.Gds[i].Name) with
      | true=>rw [a0,a1] at this; simp at this
      | false =>
        cases a2 : d.Pcs.any (isS d.Gds[i].Place) with
        | false=>rw [a0,a1,a2] at this; simp at this
        | true =>
          cases a3 : isW d.Gds[i].Width with
          | false=>rw [a0,a1,a2,a3] at this; simp at this
          | true =>
            obtain ⟨x,hx,e⟩:=List.any_eq_true.1 a2
            rw [isS,beq_iff_eq] at e
            simp only [isW,Bool.and_eq_true,decide_eq_true_eq] at a3
            exact ⟨by rwa [← e],a3.1,a3.2⟩
  have toW : ∀ {x : Int},isW x = true → 1 ≤ x ∧ x ≤ 10000:=fun h=>by simpa [isW] using h
  refine ⟨⟨nd,by omega,hr60,fun r hr=>⟨(hrz r hr).1,(hrz r hr).2.1⟩,fun r hr=>(hrz r hr).2.2.1,fun r hr=>(toW (hrz r hr).2.2.2.1).1,fun r hr=>(toW (hrz r hr).2.2.2.1).2⟩,hgz,hg12,by omega,?_,?_⟩
  · simpa [zbc] using hcl.1
  · simpa [zbc] using hcl.2
variable {p : List Str} {roads : List Road} {w : Int}
theorem Jn_mem (ok : OkR p roads) {a b : Str} {m : Nat} (h : Jn roads w a b m) : a ∈ p ∧ b ∈ p ∧ a ≠ b ∧ 1 ≤ m:=by
  obtain ⟨r,h1,h2,h3⟩:=h
  have hm:=ok.mem r h1
  have hne:=ok.ne r h1
  have hlo:=ok.lo r h1
  simp only [conn,Bool.and_eq_true,Bool.or_eq_true,beq_iff_eq] at h2
  rcases h2.1 with ⟨rfl,rfl⟩ | ⟨rfl,rfl⟩
  · exact ⟨hm.1,hm.2,hne,by omega⟩
  · exact ⟨hm.2,hm.1,fun e=>hne e.symm,by omega⟩
structure Ini (p : List Str) (roads : List Road) (w : Int) (t : Tab) (done : Nat → Nat → Prop) : Prop where
  lo : ∀ a b v,tv t a b = some v → 0 ≤ v
  hi : ∀ a b v,tv t a b = some v → v ≤ 10000
  sound : TabSound (Jn roads w) (tN t)
  mem : ∀ a b v,tv t a b = some v → a ∈ p ∧ b ∈ p
  diag : ∀ a v,tv t a a = some v → v = 0
  all : ∀ i j,done i j → i < p.length → j < p.length → (i = j → tv t (ix p i) (ix p j) = some 0) ∧ ∀ m,Jn roads w (ix p i) (ix p j) m → ∃ v,tv t (ix p i) (ix p j) = some v ∧ v ≤ ((m : Nat) : Int)
theorem ix_inj (nd : p.Nodup) {i j : Nat} (hi : i < p.length) (hj : j < p.length) (h : ix p i = ix p j) : i = j:=by
  rw [zdl hi,zdl hj] at h
  exact (List.getElem_inj nd).1 h
theorem Ini.diagPut {t : Tab} {done : Nat → Nat → Prop} (ok : OkR p roads) (h : Ini p roads w t done) {i : Nat} (hi : i < p.length) : Ini p roads w (mPut (A2s.mk (ix p i) (ix p i)) 0 t) (fun a b=>done a b ∨ (a = i ∧ b = i)):=by
  refine ⟨fun a b v hv=>?_,fun a b v hv=>?_,fun a b d hd=>?_,fun a b v hv=>?_,fun a v hv=>?_,fun a b hd ha hb=>?_⟩
  · rw [zep] at hv; split at hv
    · cases hv; omega
    · exact h.lo _ _ _ hv
  · rw [zep] at hv; split at hv
    · cases hv; omega
    · exact h.hi _ _ _ hv
  · rw [tN,zep] at hd; split at hd
    · rename_i e; obtain ⟨rfl,rfl⟩:=e; cases hd; exact .refl _
    · exact h.sound _ _ _ hd
  · rw [zep] at hv; split at hv
    · rename_i e; obtain ⟨rfl,rfl⟩:=e; exact ⟨zby hi,zby hi⟩
    · exact h.mem _ _ _ hv
  · rw [zep] at hv; split at hv
    · cases hv; rfl
    · exact h.diag _ _ hv
  · rw [zep]
    by_cases e : ix p a = ix p i ∧ ix p b = ix p i
    · rw [if_pos e]
      refine ⟨fun _=>rfl,fun m hm=>⟨0,rfl,by omega⟩⟩
    · rw [if_neg e]
      rcases hd with hd | ⟨rfl,rfl⟩
      · exact h.all a b hd ha hb
      · exact absurd ⟨rfl,rfl⟩ e
theorem Ini.row {t : Tab} {done : Nat → Nat → Prop} (ok : OkR p roads) (h : Ini p roads w t done) {i : Nat} (hi : i < p.length) (hdi : done i i) : ∀ m,m ≤ p.length → Ini p roads w (initRow p roads w i t m) (fun a b=>done a b ∨ (a = i ∧ b < m)):=by
  intro m
  induction m with
  | zero =>
    intro _
    exact ⟨h.lo,h.hi,h.sound,h.mem,h.diag,fun a b hd=>by
      rcases hd with hd | ⟨_,hd⟩
      · exact h.all a b hd
      · omega⟩
  | succ m ih =>
    intro hm
    have g:=ih (by omega)
    have hmm : m < p.length:=by omega
    unfold initRow
    have spec:=joinB_spec (ix p i) (ix p m) w roads
    have mono : ∀ a b,(done a b ∨ (a = i ∧ b < m + 1)) → (done a b ∨ (a = i ∧ b < m)) ∨ (a = i ∧ b = m):=fun a b hd=>by
      rcases hd with hd | ⟨rfl,hd⟩
      · exact .inl (.inl hd)
      · by_cases e : b = m
        · exact .inr ⟨rfl,e⟩
        · exact .inl (.inr ⟨rfl,by omega⟩)
    cases hc : (zdz roads (ix p i) (ix p m) w).2 && (!(ix p i == ix p m)) with
    | false =>
      rw [cond_false]
      refine ⟨g.lo,g.hi,g.sound,g.mem,g.diag,fun a b hd ha hb=>?_⟩
      rcases mono a b hd with hd | ⟨rfl,rfl⟩
      · exact g.all a b hd ha hb
      · by_cases e : a = b
        · subst e; exact g.all a a (.inl hdi) ha hb
        · have hne : ¬ ix p a = ix p b:=fun h=>e (ix_inj ok.nodup ha hb h)
          refine ⟨fun h=>absurd h e,fun q hq=>?_⟩
          have : (ix p a == ix p b) = false:=beq_eq_false_iff_ne.2 hne
          rw [this,Bool.not_false,Bool.and_true,spec.1] at hc
          obtain ⟨r,h1,h2,_⟩:=hq
          exact absurd h2 (List.any_eq_false.1 hc r h1)
    | true =>
      rw [Bool.and_eq_true,Bool.not_eq_true',beq_eq_false_iff_ne] at hc
      obtain ⟨⟨r,hr,hcr,hmr⟩,hmin⟩:=spec.2 hc.1
      have lo:=ok.lo r hr
      have hi':=ok.hi r hr
      rw [cond_true]
      refine ⟨fun a b v hv=>?_,fun a b v hv=>?_,fun a b d hd=>?_,fun a b v hv=>?_,fun a v hv=>?_,fun a b hd ha hb=>?_⟩
      · rw [zep] at hv; split at hv
        · cases hv; omega
        · exact g.lo _ _ _ hv
      · rw [zep] at hv; split at hv
        · cases hv; omega
        · exact g.hi _ _ _ hv
      · rw [tN,zep] at hd; split at hd
        · rename_i e; obtain ⟨rfl,rfl⟩:=e; cases hd
          exact .edge ⟨r,hr,hcr,by omega⟩
        · exact g.sound _ _ _ hd
      · rw [zep] at hv; split at hv
        · rename_i e; obtain ⟨rfl,rfl⟩:=e; exact ⟨zby hi,zby hmm⟩
        · exact g.mem _ _ _ hv
      · rw [zep,if_neg (fun e=>hc.2 (e.1.symm.trans e.2))] at hv
        exact g.diag _ _ hv
      · rw [zep]
        by_cases e : ix p a = ix p i ∧ ix p b = ix p m
        · rw [if_pos e]
          have ea:=ix_inj ok.nodup ha hi e.1
          have eb:=ix_inj ok.nodup hb hmm e.2
          subst ea; subst eb
          refine ⟨fun h=>absurd (by rw [h]) hc.2,fun q hq=>⟨_,rfl,?_⟩⟩
          obtain ⟨r',h1,h2,h3⟩:=hq
          have:=hmin r' h1 h2
          omega
        · rw [if_neg e]
          rcases mono a b hd with hd | ⟨rfl,rfl⟩
          · exact g.all a b hd ha hb
          · exact absurd ⟨rfl,rfl⟩ e
theorem Ini.rows (ok : OkR p roads) : ∀ m,m ≤ p.length → Ini p roads w (initT p roads w m) (fun a _=>a < m):=by
  intro m
  induction m with
  | zero =>
    intro _
    exact ⟨fun a b v hv=>(by cases hv),fun a b v hv=>(by cases hv),fun a b v hv=>(by cases hv),fun a b v hv=>(by cases hv),fun a v hv=>(by cases hv),fun a b hd=>absurd hd (Nat.not_lt_zero _)⟩
  | succ m ih =>
    intro hm
    have g:=((ih (by omega)).diagPut ok (by omega : m < p.length)).row ok (by omega : m < p.length) (.inr ⟨rfl,rfl⟩) p.length (Nat.le_refl _)
    refine ⟨g.lo,g.hi,g.sound,g.mem,g.diag,fun a b hd ha hb=>g.all a b ?_ ha hb⟩
    by_cases e : a = m
    · exact .inr ⟨e,hb⟩
    · exact .inl (.inl (by omega))
theorem walk_none {a b : Str} {l : Nat} (h : Walk (Jn roads w) (fun _=>False) a b l) : (l = 0 ∧ a = b) ∨ Jn roads w a b l:=by
  cases h with
  | refl=>exact .inl ⟨rfl,rfl⟩
  | edge h=>exact .inr h
  | cons h hc k=>exact hc.elim
theorem init_tbl (ok : OkR p roads) : Tbl (Jn roads w) p 10000 (initT p roads w p.length) ∧ TabCl (Jn roads w) (· ∈ p) (fun _=>False) (tN (initT p roads w p.length)):=by
  have g:=Ini.rows (w:=w) ok p.length (Nat.le_refl _)
  refine ⟨⟨fun x hx=>?_,g.lo,g.hi,g.sound,g.mem⟩,fun a b l ha hb hw=>?_⟩
  · obtain ⟨i,hi,rfl⟩:=List.mem_iff_getElem.1 hx
    have:=(g.all i i hi hi hi).1 rfl
    rwa [zdl hi] at this
  · obtain ⟨i,hi,rfl⟩:=List.mem_iff_getElem.1 ha
    obtain ⟨j,hj,rfl⟩:=List.mem_iff_getElem.1 hb
    have ga:=g.all i j hi hi hj
    rw [zdl hi,zdl hj] at ga
    rcases walk_none hw with ⟨rfl,he⟩ | h
    · have e : i = j:=(List.getElem_inj ok.nodup).1 he
      exact ⟨0,by rw [tN_of (ga.1 e)]; rfl,Nat.le_refl _⟩
    · obtain ⟨v,h1,h2⟩:=ga.2 l h
      exact ⟨_,tN_of h1,by omega⟩
end
section
set_option maxRecDepth 4000
open Go
variable {p : List Str} {roads : List Road} {w : Int} {n : Nat}
theorem tab_ok (ok : OkR p roads) (w : Int) : Tbl (Jn roads w) p (10000 * 2 ^ p.length) (tabW p roads w) ∧ TabCl (Jn roads w) (· ∈ p) (· ∈ p) (tN (tabW p roads w)):=by
  obtain ⟨h1,h2⟩:=init_tbl (w:=w) ok
  obtain ⟨h3,h4⟩:=h1.rounds (by decide) h2 p.length (Nat.le_refl _)
  refine ⟨h3,fun a b l ha hb hw=>h4 a b l ha hb (hw.mono fun x hx=>?_)⟩
  obtain ⟨i,hi,rfl⟩:=List.mem_iff_getElem.1 hx
  exact ⟨i,hi,(zdl hi).symm⟩
theorem tab_dist (ok : OkR p roads) (w : Int) {a b : Str} (ha : a ∈ p) (hb : b ∈ p) : IsDist (Jn roads w) a b (tN (tabW p roads w) a b) :=
  TabCl.dist (P:=fun x=>x ∈ p) (a:=a) (b:=b) (fun a b m h=>⟨(Jn_mem ok h).1,(Jn_mem ok h).2.1⟩) (tab_ok ok w).2 (tab_ok ok w).1.sound ha hb
theorem pow_bound {m : Nat} (h : m ≤ 20) : (10000 : Int) * 2 ^ m ≤ 10485760000:=by
  have : (2 : Int) ^ m ≤ 2 ^ 20:=by
    have h2 : (2 : Nat) ^ m ≤ 2 ^ 20:=Nat.pow_le_pow_right (by decide) h
    have h3 : ((2 ^ m : Nat) : Int) ≤ ((2 ^ 20 : Nat) : Int):=by omega
    simpa using h3
  have e : (2 : Int) ^ 20 = 1048576:=by decide
  omega
theorem bif_app {α β : Type} (f : α → β) (c : Bool) (x y : α) : (bif c then f x else f y) = f (bif c then x else y):=by cases c <;> rfl
theorem row_in (t' : List Str) (g : List Grand) (ch ls : Int) (c : List (Int × Tab)) (hn : 1000 < n) (ok : OkR p roads) {i : Nat} (hi : i < p.length) (t : Tab) (k : Tab → Option (Tab × List (Int × Tab))) :
    loopN (zbo n p t' roads g ch ls c w i k) n (0,t) = k (initRow p roads w i t p.length):=by
  have hl:=ok.len
  have hr:=ok.rlen
  refine loop_fold' (st:=initRow p roads w i t) (len:=p.length) (fun back v hv=>?_) (fun back=>?_) n (by omega) rfl
  · rw [zbo]
    simp only [hv,decide_true,cond_true,zaf,joined_eq p t' roads g ch ls c (ix p i) (ix p v) w hn (by omega),Option.bind_some,zch (by omega : v + 1 ≤ 9223372036854775807),zbf,initRow]
    cases (zdz roads (ix p i) (ix p v) w).2 && (!(ix p i == ix p v)) <;> rfl
  · rw [zbo]; simp
theorem init_in (t' : List Str) (g : List Grand) (ch ls : Int) (c : List (Int × Tab)) (hn : 1000 < n) (ok : OkR p roads) (k : Tab → Option (Tab × List (Int × Tab))) :
    loopN (zbn n p t' roads g ch ls c w k) n (0,[]) = k (initT p roads w p.length):=by
  have hl:=ok.len
  refine loop_fold' (st:=initT p roads w) (len:=p.length) (fun back v hv=>?_) (fun back=>?_) n (by omega) rfl
  · rw [zbn]
    simp only [hv,decide_true,cond_true,zaf,row_in t' g ch ls c hn ok hv,zch (by omega : v + 1 ≤ 9223372036854775807),zbf,initT]
  · rw [zbn]; simp
theorem rowJ_in (hn : 1000 < n) (hl : p.length ≤ 20) {k i : Nat} (hk : k < p.length) (hi : i < p.length) {B : Int} (hB : B ≤ 10485760000) {J : Str → Str → Nat → Prop} {t : Tab} (h : Rnd J p k B t) (kk : Tab → Option (Tab × List (Int × Tab))) :
    loopN (zbm p k i kk) n (0,t) = kk (fwJ p k i t p.length):=by
  refine loop_fold' (st:=fwJ p k i t) (len:=p.length) (fun back v hv=>?_) (fun back=>?_) n (by omega) rfl
  · obtain ⟨r,_,_⟩:=h.rowJ hk hi v (by omega)
    have hs : ∀ g : Bool,(!g || inI (Option.getD (tv (fwJ p k i t v) (ix p i) (ix p k)) 0 + Option.getD (tv (fwJ p k i t v) (ix p k) (ix p v)) 0)) = true:=fun g=>by
      have b1 : 0 ≤ Option.getD (tv (fwJ p k i t v) (ix p i) (ix p k)) 0 ∧ Option.getD (tv (fwJ p k i t v) (ix p i) (ix p k)) 0 ≤ 20971520000:=by
        cases e : tv (fwJ p k i t v) (ix p i) (ix p k) with
        | none=>exact ⟨by decide,by decide⟩
        | some x=>have h1:=r.lo _ _ _ e; have h2:=r.hi _ _ _ e; exact ⟨h1,by simp only [Option.getD_some]; omega⟩
      have b2 : 0 ≤ Option.getD (tv (fwJ p k i t v) (ix p k) (ix p v)) 0 ∧ Option.getD (tv (fwJ p k i t v) (ix p k) (ix p v)) 0 ≤ 20971520000:=by
        cases e : tv (fwJ p k i t v) (ix p k) (ix p v) with
        | none=>exact ⟨by decide,by decide⟩
        | some x=>have h1:=r.lo _ _ _ e; have h2:=r.hi _ _ _ e; exact ⟨h1,by simp only [Option.getD_some]; omega⟩
      rw [zfd (by omega) (by omega),Bool.or_true]
    have hs2 : inI (Option.getD (tv (fwJ p k i t v) (ix p i) (ix p k)) 0 + Option.getD (tv (fwJ p k i t v) (ix p k) (ix p v)) 0) = true:=by simpa using hs true
    rw [zbm]
    simp only [hv,decide_true,cond_true,zaf,zch (by omega : v + 1 ≤ 9223372036854775807),zbf]
    simp only [tv] at hs hs2
    rw [chk_of (hs _),chk_of hs2]
    simp only [fwJ,fwStep,tv]
    exact bif_app (fun z=>back (v + 1,z)) _ _ _
  · rw [zbm]; simp
theorem rowI_in (hn : 1000 < n) (hl : p.length ≤ 20) {k : Nat} (hk : k < p.length) {B : Int} (hB : B ≤ 10485760000) {J : Str → Str → Nat → Prop} {t : Tab} (h : Rnd J p k B t) (kk : Tab → Option (Tab × List (Int × Tab))) :
    loopN (zbl n p k kk) n (0,t) = kk (fwI p k t p.length):=by
  refine loop_fold' (st:=fwI p k t) (len:=p.length) (fun back v hv=>?_) (fun back=>?_) n (by omega) rfl
  · obtain ⟨r,_,_⟩:=h.rowsI hk v (by omega)
    rw [zbl]
    simp only [hv,decide_true,cond_true,zaf,rowJ_in hn hl hk hv hB r,zch (by omega : v + 1 ≤ 9223372036854775807),zbf,fwI]
  · rw [zbl]; simp
theorem rowK_in (hn : 1000 < n) (ok : OkR p roads) (w : Int) (kk : Tab → Option (Tab × List (Int × Tab))) :
    loopN (zbk n p kk) n (0,initT p roads w p.length) = kk (tabW p roads w):=by
  have hl:=ok.len
  obtain ⟨h1,h2⟩:=init_tbl (w:=w) ok
  refine loop_fold' (st:=fwK p (initT p roads w p.length)) (len:=p.length) (fun back v hv=>?_) (fun back=>?_) n (by omega) rfl
  · obtain ⟨r,_⟩:=h1.rounds (by decide) h2 v (by omega)
    have hB : (10000 : Int) * 2 ^ v ≤ 10485760000:=pow_bound (by omega)
    have hB0 : (0 : Int) ≤ 10000 * 2 ^ v:=Int.mul_nonneg (by decide) (Int.pow_nonneg (by decide))
    rw [zbk]
    simp only [hv,decide_true,cond_true,zaf,rowI_in hn hl hv hB (r.rnd hB0 v),zch (by omega : v + 1 ≤ 9223372036854775807),zbf,fwK]
  · rw [zbk]; simp [tabW]
def OkC (p : List Str) (roads : List Road) (c : List (Int × Tab)) : Prop:=∀ w t,List.lookup w c = some t → t = tabW p roads w
theorem distances_eq (t' : List Str) (g : List Grand) (ch ls : Int) {c : List (Int × Tab)} (hn : 1000 < n) (ok : OkR p roads) (hc : OkC p roads c) (w : Int) :
    ∃ c',zbu n p t' roads g ch ls c w = some (tabW p roads w,c') ∧ OkC p roads c':=by
  rw [zbu]
  simp only [zaf]
  cases e : List.lookup w c with
  | some t =>
    have:=hc w t e
    subst this
    exact ⟨c,rfl,hc⟩
  | none =>
    simp only [Option.isSome_none,cond_false,init_in t' g ch ls c hn ok,rowK_in hn ok w]
    refine ⟨_,rfl,fun w' t h=>?_⟩
    rw [lookup_mPut] at h
    by_cases hw : w' = w
    · subst hw
      rw [beq_self_eq_true,cond_true] at h
      cases h; rfl
    · rw [beq_eq_false_iff_ne.2 hw,cond_false] at h
      exact hc w' t h
theorem OkC.nil : OkC p roads []:=fun w t h=>by cases h
def distW (p : List Str) (roads : List Road) (a b : Str) (w : Int) : Option Int:=tv (tabW p roads w) a b
theorem distance_eq (t' : List Str) (g : List Grand) (ch ls : Int) {c : List (Int × Tab)} (hn : 1000 < n) (ok : OkR p roads) (hc : OkC p roads c) (a b : Str) (w : Int) :
    ∃ c',zaw n p t' roads g ch ls c a b w = some (Option.getD (distW p roads a b w) 0,(distW p roads a b w).isSome,c') ∧ OkC p roads c':=by
  obtain ⟨c',h1,h2⟩:=distances_eq t' g ch ls hn ok hc w
  exact ⟨c',by rw [zaw,h1]; rfl,h2⟩
theorem distW_rng (ok : OkR p roads) {a b : Str} {w v : Int} (h : distW p roads a b w = some v) : 0 ≤ v ∧ v ≤ 10485760000:=by
  have t:=(tab_ok ok w).1
  have hb:=pow_bound ok.len
  have:=t.hi _ _ _ h
  exact ⟨t.lo _ _ _ h,by omega⟩
end
section
set_option maxRecDepth 4000
variable {N : Nat} {fr to slot : Nat → Int}
end
section
set_option maxRecDepth 4000
section
variable {α : Type} {J : α → α → Nat → Prop}
theorem Walk.last {a b : α} {l : Nat} (h : Walk J (fun _=>True) a b l) : (l = 0 ∧ a = b) ∨ ∃ c m l',Walk J (fun _=>True) a c l' ∧ J c b m ∧ l' + m = l:=by
  induction h with
  | refl a=>exact .inl ⟨rfl,rfl⟩
  | @edge a b m h=>exact .inr ⟨a,m,0,.refl a,h,by omega⟩
  | @cons a c b m l h _ _ ih =>
    rcases ih with ⟨rfl,rfl⟩ | ⟨c',m',l',h1,h2,h3⟩
    · exact .inr ⟨a,m,0,.refl a,h,by omega⟩
    · exact .inr ⟨c',m',m + l',.cons h trivial h1,h2,by omega⟩
theorem countP_lt {β : Type} {p q : β → Bool} : ∀ {l : List β},(∀ x ∈ l,p x = true → q x = true) → (∃ x ∈ l,p x = false ∧ q x = true) → l.countP p < l.countP q
  | [],_,h=>by obtain ⟨_,h,_⟩:=h; cases h
  | x :: l,h,k=>by
    have hle : l.countP p ≤ l.countP q:=List.countP_mono_left fun y hy=>h y (List.mem_cons_of_mem _ hy)
    simp only [List.countP_cons]
    obtain ⟨y,hy,h1,h2⟩:=k
    rcases List.mem_cons.1 hy with rfl | hy
    · simp only [h1,h2]
      simp; omega
    · have:=countP_lt (l:=l) (fun z hz=>h z (List.mem_cons_of_mem _ hz)) ⟨y,hy,h1,h2⟩
      have h3:=h x List.mem_cons_self
      cases e : p x with
      | true=>rw [h3 e]; simp; omega
      | false=>cases q x <;> simp <;> omega
theorem round_new {s : α} {dist f0 f1 : α → Option Nat} (hd : ∀ b,IsDist J s b (dist b)) (hJ : ∀ a b m,J a b m → 1 ≤ m) (h0 : f0 s = some 0) (hs1 : ∀ b d,f1 b = some d → Walk J (fun _=>True) s b d)
    (hrel : ∀ a b d m,f0 a = some d → J a b m → ∃ d',f1 b = some d' ∧ d' ≤ d + m) : ∀ (D : Nat) (b : α),dist b = some D → f0 b ≠ dist b → ∃ b',f0 b' ≠ dist b' ∧ f1 b' = dist b' ∧ ∃ c m,J c b' m:=by
  intro D
  induction D using Nat.strongRecOn with
  | _ D ih =>
    intro b hb hne
    have hw:=(hd b).1 D hb
    rcases hw.last with ⟨rfl,rfl⟩ | ⟨c,m,l,h1,h2,h3⟩
    · exact absurd (h0.trans hb.symm) hne
    · obtain ⟨Dc,e1,e2⟩:=(hd c).2 l h1
      have hm:=hJ _ _ _ h2
      obtain ⟨Db,e3,e4⟩:=(hd b).2 (Dc + m) (((hd c).1 Dc e1).trans trivial (.edge h2))
      rw [hb] at e3; cases e3
      by_cases hc : f0 c = dist c
      · obtain ⟨d',g1,g2⟩:=hrel c b Dc m (hc.trans e1) h2
        obtain ⟨x,g3,g4⟩:=(hd b).2 d' (hs1 b d' g1)
        rw [hb] at g3; cases g3
        refine ⟨b,hne,?_,c,m,h2⟩
        rw [g1,hb]; congr 1; omega
      · exact ih Dc (by omega) c e1 hc
end
end
section
set_option maxRecDepth 4000
open Go
variable {d : Diary} {n : Nat} {w : Int}
def orNeg (s : Int × Bool) : Int:=bif s.2 then s.1 else -1
theorem Joined_ref (ok : OkR d.Pcs d.Roads) (hn : 1000 < n) (a b : Str) (w : Int) : q59k n d a b w = some (orNeg (zdz d.Roads a b w)):=by
  have hr:=ok.rlen
  rw [q59k,zaf]
  refine loop_fold (st:=fun v=>orNeg (zdz (d.Roads.take v) a b w)) (len:=d.Roads.length) (fun back v hv=>?_) (fun back=>?_) n (by omega) rfl
  · rw [q60k]
    simp only [hv,decide_true,cond_true,zaf,zch (by omega : v + 1 ≤ 9223372036854775807),zbf,zbr hv,joinB_snoc]
    show (bif conn a b w (ix d.Roads v) && _ then _ else _) = _
    have spec:=joinB_spec a b w (d.Roads.take v)
    have lo : (zdz (d.Roads.take v) a b w).2 = true → 1 ≤ (zdz (d.Roads.take v) a b w).1:=fun h=>by
      obtain ⟨⟨r,h1,h2,h3⟩,_⟩:=spec.2 h
      have:=ok.lo r (List.mem_of_mem_take h1)
      omega
    generalize zdz (d.Roads.take v) a b w = s at lo
    obtain ⟨x,y⟩:=s
    cases y with
    | false =>
      simp only [orNeg,joinStep,cond_false]
      cases conn a b w (ix d.Roads v) <;> rfl
    | true =>
      have lo:=lo rfl
      have e0 : decide (orNeg (x,true) < 0) = false:=decide_eq_false (by show ¬ x < 0; simp only at lo; omega)
      rw [e0]
      have e1 : decide ((ix d.Roads v).Minutes < orNeg (x,true)) = decide ((ix d.Roads v).Minutes < x):=rfl
      rw [e1]
      simp only [orNeg,joinStep,cond_true]
      cases conn a b w (ix d.Roads v) <;> cases decide ((ix d.Roads v).Minutes < x) <;> rfl
  · rw [q60k]; simp
theorem join_road (ok : OkR d.Pcs d.Roads) (a b : Str) (w : Int) : (orNeg (zdz d.Roads a b w) < 0 ∧ ∀ m,¬ Jn d.Roads w a b m) ∨ (∃ m : Nat,orNeg (zdz d.Roads a b w) = ((m : Nat) : Int) ∧ m ≤ 10000 ∧ Jn d.Roads w a b m ∧ ∀ m',Jn d.Roads w a b m' → m ≤ m'):=by
  have spec:=joinB_spec a b w d.Roads
  generalize zdz d.Roads a b w = s at spec
  obtain ⟨x,y⟩:=s
  cases y with
  | false =>
    refine .inl ⟨by simp [orNeg],fun m hm=>?_⟩
    obtain ⟨r,h1,h2,_⟩:=hm
    exact absurd h2 (List.any_eq_false.1 spec.1.symm r h1)
  | true =>
    obtain ⟨⟨r,h1,h2,h3⟩,h4⟩:=spec.2 rfl
    simp only at h3 h4
    have lo:=ok.lo r h1
    have hi:=ok.hi r h1
    refine .inr ⟨x.toNat,by simp only [orNeg,cond_true]; omega,by omega,⟨r,h1,h2,by omega⟩,fun m' hm=>?_⟩
    obtain ⟨r',g1,g2,g3⟩:=hm
    have:=h4 r' g1 g2
    omega
def val (x : Int) : Option Nat:=if x < 0 then none else some x.toNat
def fN (p : List Str) (v : List Int) (b : Str) : Option Nat:=if b ∈ p then val (ix v (p.idxOf b)) else none
theorem fN_ix {p : List Str} (nd : p.Nodup) {v : List Int} {j : Nat} (hj : j < p.length) : fN p v (ix p j) = val (ix v j):=by
  rw [fN,if_pos (zby hj),zdl hj,nd.idxOf_getElem]
theorem fN_ex {p : List Str} {v : List Int} {b : Str} {x : Nat} (h : fN p v b = some x) : ∃ j,j < p.length ∧ ix p j = b ∧ ix v j = ((x : Nat) : Int):=by
  rw [fN] at h
  split at h
  · rename_i hb
    have hl:=List.idxOf_lt_length_of_mem hb
    refine ⟨p.idxOf b,hl,by rw [zdl hl]; exact List.getElem_idxOf hl,?_⟩
    rw [val] at h
    split at h
    · cases h
    · cases h; omega
  · cases h
structure Bf (d : Diary) (s : Nat) (w : Int) (B : Int) (v : List Int) : Prop where
  len : v.length = d.Pcs.length
  zero : ix v s = 0
  hi : ∀ j,j < v.length → ix v j ≤ B
  lo : ∀ j,j < v.length → -1 ≤ ix v j
  sound : ∀ j,j < v.length → 0 ≤ ix v j → Walk (Jn d.Roads w) (fun _=>True) (ix d.Pcs s) (ix d.Pcs j) (ix v j).toNat
theorem Bf.mono {s : Nat} {B B' : Int} {v : List Int} (h : Bf d s w B v) (hB : B ≤ B') : Bf d s w B' v:=⟨h.len,h.zero,fun j hj=>Int.le_trans (h.hi j hj) hB,h.lo,h.sound⟩
def Less (v v' : List Int) : Prop:=∀ j,j < v.length → 0 ≤ ix v j → 0 ≤ ix v' j ∧ ix v' j ≤ ix v j
theorem Less.refl (v : List Int) : Less v v:=fun _ _ h=>⟨h,Int.le_refl _⟩
theorem Less.trans {u v x : List Int} (h : Less u v) (g : Less v x) (hl : u.length = v.length) : Less u x:=fun j hj h0=>by
  have h1:=h j hj h0
  have h2:=g j (by omega) h1.1
  exact ⟨h2.1,by omega⟩
def skipB (v : List Int) (i j : Nat) (y : Int) : Bool:=((decide ((ix v i) < (0 : Int))) || (decide (y < (0 : Int)))) || ((decide ((0 : Int) ≤ (ix v j))) && (decide ((ix v j) ≤ ((ix v i) + y))))
def bfStep (d : Diary) (w : Int) (i j : Nat) (s : Bool × List Int) : Bool × List Int :=
  bif skipB s.2 i j (orNeg (zdz d.Roads (ix d.Pcs i) (ix d.Pcs j) w)) then s else (true,s.2.set j (ix s.2 i + orNeg (zdz d.Roads (ix d.Pcs i) (ix d.Pcs j) w)))
def bfJ (d : Diary) (w : Int) (i : Nat) (s : Bool × List Int) : Nat → Bool × List Int
  | 0=>s
  | j + 1=>bfStep d w i j (bfJ d w i s j)
def bfI (d : Diary) (w : Int) (s : Bool × List Int) : Nat → Bool × List Int
  | 0=>s
  | i + 1=>bfJ d w i (bfI d w s i) d.Pcs.length
theorem ix_set {v : List Int} {j k : Nat} {x : Int} (hj : j < v.length) : ix (v.set j x) k = if k = j then x else ix v k:=by
  by_cases h : k = j
  · subst h
    rw [if_pos rfl,zdl (by simpa using hj)]; simp
  · rw [if_neg h]
    simp only [ix,List.getD,List.getElem?_set_ne (Ne.symm h)]
theorem Bf.step {s : Nat} {B : Int} {v : List Int} {c : Bool} (ok : OkR d.Pcs d.Roads) (hs : s < d.Pcs.length) (h : Bf d s w B v) {i j : Nat} (hi : i < d.Pcs.length) (hj : j < d.Pcs.length) :
    Bf d s w (B + 10000) (bfStep d w i j (c,v)).2 ∧ Less v (bfStep d w i j (c,v)).2 ∧ (∀ m,0 ≤ ix v i → Jn d.Roads w (ix d.Pcs i) (ix d.Pcs j) m → 0 ≤ ix (bfStep d w i j (c,v)).2 j ∧ ix (bfStep d w i j (c,v)).2 j ≤ ix v i + ((m : Nat) : Int)) ∧
      ((bfStep d w i j (c,v)).1 = false → c = false ∧ (bfStep d w i j (c,v)).2 = v) ∧ (c = false → (bfStep d w i j (c,v)).1 = true → ¬ ∀ q,q < v.length → ∀ l,Walk (Jn d.Roads w) (fun _=>True) (ix d.Pcs s) (ix d.Pcs q) l → 0 ≤ ix v q ∧ ix v q ≤ ((l : Nat) : Int)):=by
  have hl:=h.len
  rw [bfStep]
  have road:=join_road ok (ix d.Pcs i) (ix d.Pcs j) w
  generalize orNeg (zdz d.Roads (ix d.Pcs i) (ix d.Pcs j) w) = y at road
  simp only
  cases hsk : skipB v i j y with
  | true =>
    simp only [cond_true]
    refine ⟨h.mono (by omega),Less.refl v,fun m h0 hm=>?_,fun hc=>⟨hc,trivial⟩,fun hc ht=>by rw [hc] at ht; cases ht⟩
    rcases road with ⟨hy,hno⟩ | ⟨m0,hy,_,hm0,hmin⟩
    · exact absurd hm (hno m)
    · have:=hmin m hm
      rw [skipB,decide_eq_false (by omega : ¬ ix v i < 0),decide_eq_false (by omega : ¬ y < 0)] at hsk
      simp only [Bool.or_self,Bool.false_or,Bool.and_eq_true,decide_eq_true_eq] at hsk
      exact ⟨hsk.1,by omega⟩
  | false =>
    simp only [cond_false]
    rw [skipB] at hsk
    simp only [Bool.or_eq_false_iff,decide_eq_false_iff_not,Bool.and_eq_false_iff] at hsk
    obtain ⟨⟨h1,h2⟩,h3⟩:=hsk
    rcases road with ⟨hy,_⟩ | ⟨m0,hy,hb,hm0,hmin⟩
    · exact absurd hy h2
    have hjv : j < v.length:=by omega
    have hiv : i < v.length:=by omega
    have hsv : s < v.length:=by omega
    have hbi:=h.hi i hiv
    have wi:=h.sound i hiv (by omega)
    have wj : Walk (Jn d.Roads w) (fun _=>True) (ix d.Pcs s) (ix d.Pcs j) (ix v i + y).toNat:=by
      rw [show (ix v i + y).toNat = (ix v i).toNat + m0 by omega]
      exact wi.trans trivial (.edge hm0)
    have hlt : 0 ≤ ix v j → ix v i + y < ix v j:=fun h0=>by
      rcases h3 with h3 | h3
      · exact absurd h0 h3
      · omega
    have hjs : j ≠ s:=fun e=>by
      subst e
      have:=hlt (by rw [h.zero]; exact Int.le_refl _)
      rw [h.zero] at this
      omega
    refine ⟨⟨by simpa using hl,?_,fun q hq=>?_,fun q hq=>?_,fun q hq h0=>?_⟩,fun q hq h0=>?_,fun m h0 hm=>?_,fun hc=>(by cases hc),fun _ _ hall=>?_⟩
    · rw [ix_set hjv,if_neg (fun e=>hjs e.symm)]; exact h.zero
    · rw [ix_set hjv]
      split
      · omega
      · have:=h.hi q (by simpa using hq); omega
    · rw [ix_set hjv]
      split
      · omega
      · exact h.lo q (by simpa using hq)
    · rw [ix_set hjv] at h0 ⊢
      split
      · rename_i e; subst e; exact wj
      · rename_i e; rw [if_neg e] at h0; exact h.sound q (by simpa using hq) h0
    · rw [ix_set hjv]
      split
      · rename_i e; subst e; have:=hlt h0; omega
      · exact ⟨h0,Int.le_refl _⟩
    · rw [ix_set hjv,if_pos rfl]
      have:=hmin m hm
      omega
    · have:=hall j hjv _ wj
      have:=hlt this.1
      omega
def AllR (d : Diary) (s : Nat) (w : Int) (v : List Int) : Prop:=∀ q,q < v.length → ∀ l,Walk (Jn d.Roads w) (fun _=>True) (ix d.Pcs s) (ix d.Pcs q) l → 0 ≤ ix v q ∧ ix v q ≤ ((l : Nat) : Int)
structure Did (d : Diary) (s : Nat) (w : Int) (B : Int) (v0 : List Int) (c0 : Bool) (r : Bool × List Int) (done : Nat → Nat → Prop) : Prop where
  bf : Bf d s w B r.2
  less : Less v0 r.2
  len : r.2.length = v0.length
  rel : ∀ i j,done i j → i < d.Pcs.length → j < d.Pcs.length → ∀ m,0 ≤ ix v0 i → Jn d.Roads w (ix d.Pcs i) (ix d.Pcs j) m → 0 ≤ ix r.2 j ∧ ix r.2 j ≤ ix v0 i + ((m : Nat) : Int)
  still : r.1 = false → c0 = false ∧ r.2 = v0
  turn : c0 = false → r.1 = true → ¬ AllR d s w v0
theorem Did.step {s : Nat} {B : Int} {v0 : List Int} {c0 : Bool} {r : Bool × List Int} {done : Nat → Nat → Prop} (ok : OkR d.Pcs d.Roads) (hs : s < d.Pcs.length) (h : Did d s w B v0 c0 r done) {i j : Nat} (hi : i < d.Pcs.length) (hj : j < d.Pcs.length) :
    Did d s w (B + 10000) v0 c0 (bfStep d w i j r) (fun a b=>done a b ∨ (a = i ∧ b = j)):=by
  obtain ⟨c,v⟩:=r
  have hb : Bf d s w B v:=h.bf
  have hls : Less v0 v:=h.less
  have hlen : v.length = v0.length:=h.len
  have hrel : ∀ i j,done i j → i < d.Pcs.length → j < d.Pcs.length → ∀ m,0 ≤ ix v0 i → Jn d.Roads w (ix d.Pcs i) (ix d.Pcs j) m → 0 ≤ ix v j ∧ ix v j ≤ ix v0 i + ((m : Nat) : Int):=h.rel
  obtain ⟨g1,g2,g3,g4,g5⟩:=hb.step (c:=c) ok hs hi hj
  have hbl:=hb.len
  have hbl2:=g1.len
  refine ⟨g1,hls.trans g2 hlen.symm,?_,fun a b hd ha hb m h0 hm=>?_,fun hf=>?_,fun hc ht=>?_⟩
  · rw [hbl2,← hbl]; exact hlen
  · rcases hd with hd | ⟨rfl,rfl⟩
    · have:=hrel a b hd ha hb m h0 hm
      have:=g2 b (by omega) this.1
      exact ⟨this.1,by omega⟩
    · have:=hls a (by omega) h0
      have:=g3 m this.1 hm
      exact ⟨this.1,by omega⟩
  · obtain ⟨e1,e2⟩:=g4 hf
    obtain ⟨e3,e4⟩:=h.still e1
    exact ⟨e3,e2.trans e4⟩
  · cases c with
    | true=>exact h.turn hc rfl
    | false =>
      have e:=(h.still rfl).2
      have:=g5 rfl ht
      simp only at e
      subst e
      exact this
theorem Did.rowJ {s : Nat} {B : Int} {v0 : List Int} {c0 : Bool} {r : Bool × List Int} {done : Nat → Nat → Prop} (ok : OkR d.Pcs d.Roads) (hs : s < d.Pcs.length) (h : Did d s w B v0 c0 r done) {i : Nat} (hi : i < d.Pcs.length) :
    ∀ m,m ≤ d.Pcs.length → Did d s w (B + 10000 * ((m : Nat) : Int)) v0 c0 (bfJ d w i r m) (fun a b=>done a b ∨ (a = i ∧ b < m)):=by
  intro m
  induction m with
  | zero =>
    intro _
    refine ⟨h.bf.mono (by omega),h.less,h.len,fun a b hd=>?_,h.still,h.turn⟩
    rcases hd with hd | ⟨_,hd⟩
    · exact h.rel a b hd
    · omega
  | succ m ih =>
    intro hm
    have g:=(ih (by omega)).step ok hs hi (by omega : m < d.Pcs.length)
    refine ⟨g.bf.mono (by omega),g.less,g.len,fun a b hd=>g.rel a b ?_,g.still,g.turn⟩
    rcases hd with hd | ⟨rfl,hd⟩
    · exact .inl (.inl hd)
    · by_cases e : b = m
      · exact .inr ⟨rfl,e⟩
      · exact .inl (.inr ⟨rfl,by omega⟩)
theorem Did.rowsI {s : Nat} {B : Int} {v0 : List Int} {c0 : Bool} (ok : OkR d.Pcs d.Roads) (hs : s < d.Pcs.length) (h : Bf d s w B v0) :
    ∀ m,m ≤ d.Pcs.length → Did d s w (B + 200000 * ((m : Nat) : Int)) v0 c0 (bfI d w (c0,v0) m) (fun a _=>a < m):=by
  intro m
  induction m with
  | zero =>
    intro _
    refine ⟨h.mono (by omega),Less.refl v0,rfl,fun a b hd=>absurd hd (Nat.not_lt_zero _),fun hf=>⟨hf,rfl⟩,fun hc ht=>?_⟩
    have ht : c0 = true:=ht
    rw [hc] at ht; cases ht
  | succ m ih =>
    intro hm
    have hl:=ok.len
    have g:=(ih (by omega)).rowJ ok hs (by omega : m < d.Pcs.length) d.Pcs.length (Nat.le_refl _)
    refine ⟨g.bf.mono (by omega),g.less,g.len,fun a b hd ha hb=>g.rel a b ?_ ha hb,g.still,g.turn⟩
    by_cases e : a = m
    · exact .inr ⟨e,hb⟩
    · exact .inl (by omega)
end
section
set_option maxRecDepth 4000
open Go
variable {d : Diary} {n : Nat} {w : Int}
theorem loop_mid {σ τ R : Type} {F : (σ × Nat × τ → Option R) → σ × Nat × τ → Option R} {st : Nat → σ × τ} {k : Option R} {len : Nat} (h1 : ∀ back v,v < len → F back ((st v).1,v,(st v).2) = back ((st (v + 1)).1,v + 1,(st (v + 1)).2)) (h2 : ∀ back,F back ((st len).1,len,(st len).2) = k) (n : Nat) (hn : len < n) {s0 : σ} {t0 : τ} (h0 : st 0 = (s0,t0)) : loopN F n (s0,0,t0) = k:=by
  have:=loop_through (st:=fun v=>((st v).1,v,(st v).2)) h1 h2 n hn
  simpa only [h0] using this
theorem bfJ_in {s : Nat} {B : Int} {v0 : List Int} {c0 : Bool} {r : Bool × List Int} {done : Nat → Nat → Prop} (ok : OkR d.Pcs d.Roads) (hn : 1000 < n) (hs : s < d.Pcs.length) (h : Did d s w B v0 c0 r done) (hB : B ≤ 1000000000000000) {i : Nat} (hi : i < d.Pcs.length) (k : Bool × List Int → Option (List Int)) :
    loopN (q18k n d w i k) n (r.1,0,r.2) = k (bfJ d w i r d.Pcs.length):=by
  have hl:=ok.len
  refine loop_mid (st:=bfJ d w i r) (len:=d.Pcs.length) (fun back v hv=>?_) (fun back=>?_) n (by omega) rfl
  · have g:=h.rowJ ok hs hi v (by omega)
    have gl:=g.bf.len
    have b1:=g.bf.hi i (by omega)
    have b2:=g.bf.lo i (by omega)
    have e : bfJ d w i r (v + 1) = bfStep d w i v (bfJ d w i r v):=rfl
    rw [e]
    generalize bfJ d w i r v = q at gl b1 b2
    obtain ⟨c,x⟩:=q
    simp only at gl b1 b2
    have road:=join_road ok (ix d.Pcs i) (ix d.Pcs v) w
    rw [q18k,bfStep]
    simp only [(by omega : v < x.length),(by omega : i < x.length),hv,hi,decide_true,cond_true,zaf,zch (by omega : v + 1 ≤ 9223372036854775807),zbf,Joined_ref ok hn,Option.bind_some]
    have hy : -1 ≤ orNeg (zdz d.Roads (ix d.Pcs i) (ix d.Pcs v) w) ∧ orNeg (zdz d.Roads (ix d.Pcs i) (ix d.Pcs v) w) ≤ 10000:=by
      rcases road with ⟨h1,_⟩ | ⟨m,h1,h2,_⟩
      · rw [orNeg] at h1 ⊢
        have spec:=joinB_spec (ix d.Pcs i) (ix d.Pcs v) w d.Roads
        cases e : (zdz d.Roads (ix d.Pcs i) (ix d.Pcs v) w).2 with
        | false=>exact ⟨by simp,by simp⟩
        | true =>
          obtain ⟨⟨r,g1,g2,g3⟩,_⟩:=spec.2 e
          have:=ok.lo r g1
          rw [e,cond_true] at h1
          omega
      · omega
    generalize orNeg (zdz d.Roads (ix d.Pcs i) (ix d.Pcs v) w) = y at hy
    have hI : inI (ix x i + y) = true:=zfd (by omega) (by omega)
    simp only [hI,Bool.or_true,zbf]
    show (bif skipB x i v y then _ else _) = _
    cases skipB x i v y <;> rfl
  · have g:=h.rowJ ok hs hi d.Pcs.length (Nat.le_refl _)
    have gl:=g.bf.len
    rw [q18k,decide_eq_false (by omega : ¬ d.Pcs.length < (bfJ d w i r d.Pcs.length).2.length)]; rfl
theorem bfI_in {s : Nat} {B : Int} {v0 : List Int} (ok : OkR d.Pcs d.Roads) (hn : 1000 < n) (hs : s < d.Pcs.length) (h : Bf d s w B v0) (hB : B ≤ 900000000000000) (k : Bool × List Int → Option (List Int)) :
    loopN (q19k n d w k) n (false,0,v0) = k (bfI d w (false,v0) d.Pcs.length):=by
  have hl:=ok.len
  refine loop_mid (st:=bfI d w (false,v0)) (len:=d.Pcs.length) (fun back v hv=>?_) (fun back=>?_) n (by omega) rfl
  · have g:=Did.rowsI (c0:=false) ok hs h v (by omega)
    have gl:=g.bf.len
    rw [q19k]
    simp only [(by omega : v < (bfI d w (false,v0) v).2.length),decide_true,cond_true,zaf,zch (by omega : v + 1 ≤ 9223372036854775807),zbf]
    rw [bfJ_in ok hn hs g (by omega) hv]
    rfl
  · have g:=Did.rowsI (c0:=false) ok hs h d.Pcs.length (Nat.le_refl _)
    have gl:=g.bf.len
    rw [q19k,decide_eq_false (by omega : ¬ d.Pcs.length < (bfI d w (false,v0) d.Pcs.length).2.length)]; rfl
theorem dist_all (ok : OkR d.Pcs d.Roads) (w : Int) {a : Str} (ha : a ∈ d.Pcs) (b : Str) : IsDist (Jn d.Roads w) a b (tN (tabW d.Pcs d.Roads w) a b):=by
  by_cases hb : b ∈ d.Pcs
  · exact tab_dist ok w ha hb
  · have e : tN (tabW d.Pcs d.Roads w) a b = none:=by
      cases h : tv (tabW d.Pcs d.Roads w) a b with
      | none=>rw [tN,h]; rfl
      | some x=>exact absurd ((tab_ok ok w).1.mem _ _ _ h).2 hb
    rw [e]
    refine ⟨fun x hx=>(by cases hx),fun l hl=>?_⟩
    rcases hl.last with ⟨_,rfl⟩ | ⟨c,m,l',_,h2,_⟩
    · exact absurd ha hb
    · exact absurd (Jn_mem ok h2).2.1 hb
theorem fN_sound {s : Nat} {B : Int} {v : List Int} (h : Bf d s w B v) : ∀ b x,fN d.Pcs v b = some x → Walk (Jn d.Roads w) (fun _=>True) (ix d.Pcs s) b x:=by
  intro b x hx
  obtain ⟨j,hj,rfl,e⟩:=fN_ex hx
  have:=h.sound j (by rw [h.len]; exact hj) (by omega)
  rwa [show (ix v j).toNat = x by omega] at this
theorem fN_zero {s : Nat} {B : Int} {v : List Int} (ok : OkR d.Pcs d.Roads) (hs : s < d.Pcs.length) (h : Bf d s w B v) : fN d.Pcs v (ix d.Pcs s) = some 0:=by
  rw [fN_ix ok.nodup hs,h.zero]; rfl
theorem fN_some {v : List Int} {p : List Str} (nd : p.Nodup) {j : Nat} (hj : j < p.length) (h : 0 ≤ ix v j) : fN p v (ix p j) = some (ix v j).toNat:=by
  rw [fN_ix nd hj,val,if_neg (by omega)]
def wrong (d : Diary) (s : Nat) (w : Int) (v : List Int) : Nat:=d.Pcs.countP fun b=>decide (fN d.Pcs v b ≠ tN (tabW d.Pcs d.Roads w) (ix d.Pcs s) b)
theorem round_less {s : Nat} {B : Int} {v : List Int} (ok : OkR d.Pcs d.Roads) (hs : s < d.Pcs.length) (h : Bf d s w B v) (ht : (bfI d w (false,v) d.Pcs.length).1 = true) : wrong d s w (bfI d w (false,v) d.Pcs.length).2 < wrong d s w v:=by
  have g:=Did.rowsI (c0:=false) ok hs h d.Pcs.length (Nat.le_refl _)
  have hd:=dist_all ok w (zby hs)
  have nA:=g.turn rfl ht
  have gb:=g.bf
  have gl:=gb.len
  have hvl:=h.len
  generalize bfI d w (false,v) d.Pcs.length = r at g gb gl
  have stay : ∀ b,fN d.Pcs v b = tN (tabW d.Pcs d.Roads w) (ix d.Pcs s) b → b ∈ d.Pcs → fN d.Pcs r.2 b = tN (tabW d.Pcs d.Roads w) (ix d.Pcs s) b:=fun b hb hm=>by
    obtain ⟨j,hj,rfl⟩:=List.mem_iff_getElem.1 hm
    rw [← zdl hj] at hb ⊢
    cases e : fN d.Pcs v (ix d.Pcs j) with
    | none =>
      rw [e] at hb
      cases e2 : fN d.Pcs r.2 (ix d.Pcs j) with
      | none=>exact hb
      | some x =>
        obtain ⟨y,hy,_⟩:=(hd (ix d.Pcs j)).2 x (fN_sound gb _ _ e2)
        rw [← hb] at hy; cases hy
    | some x =>
      have e':=e
      rw [e] at hb
      obtain ⟨q,hq,hqe,hqx⟩:=fN_ex e'
      have hqj:=ix_inj ok.nodup hq hj hqe
      subst hqj
      have l:=g.less q (by omega) (by omega)
      have f1:=fN_some ok.nodup hq l.1
      obtain ⟨y,hy,hyl⟩:=(hd (ix d.Pcs q)).2 _ (fN_sound gb _ _ f1)
      rw [← hb] at hy; cases hy
      rw [f1,← hb]; congr 1; omega
  refine countP_lt (fun b hb h1=>?_) ?_
  · rw [decide_eq_true_eq] at h1 ⊢
    exact fun e=>h1 (stay b e hb)
  ·
    have : ∃ q,q < v.length ∧ fN d.Pcs v (ix d.Pcs q) ≠ tN (tabW d.Pcs d.Roads w) (ix d.Pcs s) (ix d.Pcs q):=by
      refine Classical.byContradiction fun c=>nA fun q hq l hl=>?_
      have e : fN d.Pcs v (ix d.Pcs q) = tN (tabW d.Pcs d.Roads w) (ix d.Pcs s) (ix d.Pcs q):=Classical.byContradiction fun e=>c ⟨q,hq,e⟩
      obtain ⟨y,hy,hyl⟩:=(hd (ix d.Pcs q)).2 l hl
      rw [hy] at e
      obtain ⟨q',hq',hqe,hqx⟩:=fN_ex e
      have:=ix_inj ok.nodup hq' (by omega) hqe
      subst this
      omega
    obtain ⟨q,hq,hne⟩:=this
    have hne2 : ∃ D,tN (tabW d.Pcs d.Roads w) (ix d.Pcs s) (ix d.Pcs q) = some D:=by
      cases e : tN (tabW d.Pcs d.Roads w) (ix d.Pcs s) (ix d.Pcs q) with
      | some D=>exact ⟨D,rfl⟩
      | none =>
        rw [e] at hne
        cases e2 : fN d.Pcs v (ix d.Pcs q) with
        | none=>exact absurd e2 hne
        | some x =>
          obtain ⟨y,hy,_⟩:=(hd (ix d.Pcs q)).2 x (fN_sound h _ _ e2)
          rw [e] at hy; cases hy
    obtain ⟨D,hD⟩:=hne2
    obtain ⟨b',n1,n2,c,m,hJ⟩:=round_new (f0:=fN d.Pcs v) (f1:=fN d.Pcs r.2) hd (fun a b m hj=>(Jn_mem ok hj).2.2.2) (fN_zero ok hs h) (fN_sound gb) (fun a b x m ha hj=>by
      obtain ⟨i,hi,rfl,hix⟩:=fN_ex ha
      obtain ⟨j,hj',hje⟩:=List.mem_iff_getElem.1 (Jn_mem ok hj).2.1
      subst hje
      rw [← zdl hj'] at hj ⊢
      have:=g.rel i j hi hi hj' m (by omega) hj
      exact ⟨_,fN_some ok.nodup hj' this.1,by omega⟩) D _ hD hne
    refine ⟨b',(Jn_mem ok hJ).2.1,?_,?_⟩
    · rw [decide_eq_false_iff_not]; exact fun e=>e n2
    · rw [decide_eq_true_eq]; exact n1
def distZ (d : Diary) (a b : Str) (w : Int) : Int:=match distW d.Pcs d.Roads a b w with | some x=>x | none=>-1
theorem bf_final {s : Nat} {B : Int} {v : List Int} (ok : OkR d.Pcs d.Roads) (hs : s < d.Pcs.length) (h : Bf d s w B v) (ht : (bfI d w (false,v) d.Pcs.length).1 = false) : v = d.Pcs.map fun b=>distZ d (ix d.Pcs s) b w:=by
  have g:=Did.rowsI (c0:=false) ok hs h d.Pcs.length (Nat.le_refl _)
  obtain ⟨_,hv⟩:=g.still ht
  have hd:=dist_all ok w (zby hs)
  have hfix:=isDist_of_fix (J:=Jn d.Roads w) (fN_zero ok hs h) (fN_sound h) (fun a b x m ha hj=>by
    obtain ⟨i,hi,rfl,hix⟩:=fN_ex ha
    obtain ⟨j,hj',hje⟩:=List.mem_iff_getElem.1 (Jn_mem ok hj).2.1
    subst hje
    rw [← zdl hj'] at hj ⊢
    have:=g.rel i j hi hi hj' m (by omega) hj
    rw [hv] at this
    exact ⟨_,fN_some ok.nodup hj' this.1,by omega⟩)
  refine List.ext_getElem (by rw [h.len]; simp) fun j h1 h2=>?_
  have hj : j < d.Pcs.length:=by rw [← h.len]; exact h1
  have hu:=(hfix (ix d.Pcs j)).unique (hd (ix d.Pcs j))
  rw [fN_ix ok.nodup hj,val] at hu
  rw [List.getElem_map,← zdl h1,← zdl hj,distZ]
  have e : tN (tabW d.Pcs d.Roads w) (ix d.Pcs s) (ix d.Pcs j) = (distW d.Pcs d.Roads (ix d.Pcs s) (ix d.Pcs j) w).map Int.toNat:=rfl
  rw [e] at hu
  have lo:=h.lo j h1
  cases e2 : distW d.Pcs d.Roads (ix d.Pcs s) (ix d.Pcs j) w with
  | none =>
    rw [e2] at hu
    split at hu
    · simp only; omega
    · cases hu
  | some x =>
    rw [e2] at hu
    have:=distW_rng ok e2
    split at hu
    · cases hu
    · simp only [Option.map_some,Option.some.injEq] at hu
      simp only; omega
theorem rounds_in {s : Nat} (ok : OkR d.Pcs d.Roads) (hn : 1000 < n) (hs : s < d.Pcs.length) (k : List Int → Option (List Int)) :
    ∀ m (B : Int) (v : List Int),Bf d s w B v → wrong d s w v + 2 ≤ m → B + 4000000 * ((wrong d s w v : Nat) : Int) ≤ 900000000000000 → loopN (q20k n d w k) m (true,v) = k (d.Pcs.map fun b=>distZ d (ix d.Pcs s) b w):=by
  intro m
  induction m with
  | zero=>intro B v _ h; omega
  | succ m ih =>
    intro B v h hm hB
    have hl:=ok.len
    rw [zct,q20k,cond_true,bfI_in ok hn hs h (by omega)]
    cases ht : (bfI d w (false,v) d.Pcs.length).1 with
    | false =>
      have g:=Did.rowsI (c0:=false) ok hs h d.Pcs.length (Nat.le_refl _)
      have hv:=(g.still ht).2
      obtain ⟨m,rfl⟩ : ∃ q,m = q + 1:=⟨m - 1,by omega⟩
      rw [show bfI d w (false,v) d.Pcs.length = (false,v) from Prod.ext ht hv,zct,q20k,cond_false,← bf_final ok hs h ht]
    | true =>
      have g:=Did.rowsI (c0:=false) ok hs h d.Pcs.length (Nat.le_refl _)
      have hlt:=round_less ok hs h ht
      rw [show bfI d w (false,v) d.Pcs.length = (true,(bfI d w (false,v) d.Pcs.length).2) from Prod.ext ht rfl]
      exact ih _ _ g.bf (by omega) (by omega)
end
section
set_option maxRecDepth 4000
open Go
variable {d : Diary} {n : Nat} {w : Int}
theorem negs_d (hn : 1000 < n) (k : List Int → Option (List Int)) (m : Nat) (hm : m ≤ 63) : loopN (q17k k) n (0,List.replicate m 0) = k (List.replicate m (-1)):=by
  refine loop_fold' (st:=fun v=>List.replicate v (-1) ++ List.replicate (m - v) 0) (len:=m) (fun back v hv=>?_) (fun back=>?_) n (by omega) (by simp)
  · rw [q17k]
    have h1 : v < (List.replicate v (-1 : Int) ++ List.replicate (m - v) 0).length:=by simp; omega
    simp only [h1,decide_true,cond_true,zch (by omega : v + 1 ≤ 9223372036854775807),zbf]
    congr 1
    rw [List.set_append_right (h:=by simp),List.length_replicate,Nat.sub_self,show m - v = (m - (v + 1)) + 1 by omega,List.replicate_succ,List.set_cons_zero,List.replicate_succ',List.append_assoc]; rfl
  · rw [q17k]; simp
theorem place_idx {p : List Str} {a : Str} (ha : a ∈ p) : 0 ≤ zdm (isS a) p ∧ (zdm (isS a) p).toNat < p.length ∧ ix p (zdm (isS a) p).toNat = a:=by
  have h : ¬ zdm (isS a) p < 0:=fun h=>by
    have:=(findI_neg h).2 a ha
    rw [isS,beq_self_eq_true] at this; cases this
  obtain ⟨h1,h2,h3,_⟩:=findI_pos h
  rw [isS,beq_iff_eq] at h3
  exact ⟨h1,h2,h3⟩
theorem Distances_ref (ok : OkR d.Pcs d.Roads) (hn : 1000 < n) {a : Str} (ha : a ∈ d.Pcs) (w : Int) : q36k n d a w = some (d.Pcs.map fun b=>distZ d a b w):=by
  have hl:=ok.len
  have hr : mkroom 8 d.Pcs.length = true:=by simp [mkroom]; omega
  obtain ⟨h1,h2,h3⟩:=place_idx ha
  rw [q36k,hr,zbf]
  simp only [zaf]
  rw [negs_d hn _ _ (by omega),place_eq d a (by omega) (by omega)]
  simp only [Option.bind_some,List.length_replicate,inB_of h1 h2,h2,decide_true,zbf]
  generalize (zdm (isS a) d.Pcs).toNat = s at h2 h3
  have hs : s < (List.replicate d.Pcs.length (-1 : Int)).length:=by simpa using h2
  have hix : ∀ q,q < d.Pcs.length → ix (List.replicate d.Pcs.length (-1 : Int)) q = -1:=fun q hq=>by rw [zdl (by simpa using hq)]; simp
  have bf : Bf d s w 0 ((List.replicate d.Pcs.length (-1 : Int)).set s 0):=by
    refine ⟨by simp,by rw [ix_set hs,if_pos rfl],fun j hj=>?_,fun j hj=>?_,fun j hj h0=>?_⟩
    · rw [ix_set hs]; split
      · exact Int.le_refl _
      · rw [hix j (by simpa using hj)]; decide
    · rw [ix_set hs]; split
      · decide
      · rw [hix j (by simpa using hj)]; decide
    · rw [ix_set hs] at h0 ⊢
      split
      · rename_i e; subst e; exact .refl _
      · rename_i e; rw [if_neg e,hix j (by simpa using hj)] at h0; omega
  have hw : wrong d s w ((List.replicate d.Pcs.length (-1 : Int)).set s 0) ≤ d.Pcs.length:=List.countP_le_length
  rw [rounds_in ok hn h2 _ n 0 _ bf (by omega) (by omega),h3]
theorem Distance_ref (ok : OkR d.Pcs d.Roads) (hn : 1000 < n) {a b : Str} (ha : a ∈ d.Pcs) (hb : b ∈ d.Pcs) (w : Int) : q25k n d a b w = some (distZ d a b w):=by
  have hl:=ok.len
  obtain ⟨h1,h2,h3⟩:=place_idx hb
  rw [q25k,Distances_ref ok hn ha w]
  simp only [Option.bind_some,place_eq (n:=n) d b (by omega) (by omega),List.length_map,inB_of h1 h2,h2,decide_true,zbf]
  congr 1
  rw [zdl (by simpa using h2),List.getElem_map,← zdl h2,h3]
theorem Distance_eq (ok : OkR d.Pcs d.Roads) (hn : 1000 < n) {c : List (Int × Tab)} (hc : OkC d.Pcs d.Roads c) (a b : Str) (w : Int) :
    ∃ c',zaw n d.Pcs d.Tc d.Roads d.Gds d.Change d.Lasts c a b w = some (Option.getD (distW d.Pcs d.Roads a b w) 0,(distW d.Pcs d.Roads a b w).isSome,c') ∧ OkC d.Pcs d.Roads c' :=
  distance_eq d.Tc d.Gds d.Change d.Lasts hn ok hc a b w
end
section
set_option maxRecDepth 4000
open Go
structure Dia where
  ce : Item → Int
  change : Int
  lasts : Int
  init : Str → Str
  width : Str → Int
  dist : Str → Str → Int → Option Int
section
variable (D : Dia)
def movesTo (g : Str) (t : Int) (y : Item) : Bool:=(y.Kind == 1) && (y.Grand == g) && decide (y.To ≤ t)
def zbx (l : List Item) (g : Str) (t : Int) : Str:=l.foldl (fun a y=>bif movesTo g t y then y.Place else a) (D.init g)
def tunes (x y : Item) : Bool:=(y.Kind == 0) && decide (y.To ≤ x.From) && decide (x.From - y.To ≤ D.lasts)
def restS (x : Item) : List Item → Nat → Int → Int
  | [],_,o=>o
  | y :: r,i,o=>restS x r (i + 1) (bif y.Grand == x.Grand then (bif tunes D x y then ((i : Nat) : Int) else bif y.Kind == 1 then -1 else o) else o)
def orderE (l : List Item) (x : Item) : Int:=match l.getLast? with
  | none=>0
  | some y=>bif decide (x.From < y.From) then 9 else 0
def zeu (l : List Item) (x : Item) : Int:=bif l.any (fun y=>(y.Grand == x.Grand) && decide (x.From < y.To + D.change)) then 17 else 0
def standsE (l : List Item) (x : Item) : Int :=
  bif x.Kind == 1 then
    (bif zbx D l x.Grand x.From == x.Place then 24
    else match D.dist (zbx D l x.Grand x.From) x.Place (D.width x.Grand) with
      | none=>12
      | some n=>bif decide (x.To - x.From < n) then 18 else 0)
  else bif zbx D l x.Grand x.From == x.Place then 0 else 13
def farE (x y : Item) : Bool:=(y.Kind == 0) && (y.Who == x.Who) && match D.dist y.Place x.Place 1 with
  | none=>true
  | some n=>decide (x.From < y.To + n)
def zdu (l : List Item) (x : Item) : Int:=bif (x.Kind == 0) && l.any (farE D x) then 16 else 0
def tunedE (l : List Item) (x : Item) : Int:=bif (x.Kind == 2) && decide (restS D x l 0 (-1) < 0) then 26 else 0
def firstNZ : List Int → Int
  | []=>0
  | a :: r=>bif a != 0 then a else firstNZ r
def errS (l : List Item) (x : Item) : Int:=firstNZ [D.ce x,orderE l x,zeu D l x,standsE D l x,zdu D l x,tunedE D l x]
def okF (pre : List Item) : List Item → Prop
  | []=>True
  | x :: r=>errS D pre x = 0 ∧ okF (pre ++ [x]) r
def accS (pre : List Item) : List Item → Nat → Int × Int
  | [],_=>(-1,0)
  | x :: r,i=>bif errS D pre x != 0 then (((i : Nat) : Int),errS D pre x) else accS (pre ++ [x]) r (i + 1)
end
variable {D : Dia}
theorem bne0 {a : Int} (h : a ≠ 0) : (a != 0) = true:=by simp [bne,h]
theorem firstNZ_zero : ∀ {l : List Int},firstNZ l = 0 ↔ ∀ a ∈ l,a = 0
  | []=>by simp [firstNZ]
  | a :: r=>by
    unfold firstNZ
    by_cases h : a = 0
    · simp [h,firstNZ_zero (l:=r)]
    · simp only [bne0 h,cond_true,List.mem_cons,forall_eq_or_imp]
      exact ⟨fun e=>absurd e h,fun e=>e.1⟩
theorem accS_ok : ∀ (l pre : List Item) (i : Nat),(accS D pre l i).2 = 0 ↔ okF D pre l
  | [],_,_=>by simp [accS,okF]
  | x :: r,pre,i=>by
    unfold accS okF
    by_cases h : errS D pre x = 0
    · simp only [h,bne_self_eq_false,cond_false,true_and]
      exact accS_ok r _ _
    · simp only [bne0 h,cond_true,h,false_and]
theorem okF_append : ∀ (a pre b : List Item),okF D pre (a ++ b) ↔ okF D pre a ∧ okF D (pre ++ a) b
  | [],pre,b=>by simp [okF]
  | x :: a,pre,b=>by
    simp only [List.cons_append,okF]
    rw [okF_append a (pre ++ [x]) b,and_assoc]
    simp
theorem okF_at {l : List Item} (h : okF D [] l) {i : Nat} (hi : i < l.length) : errS D (l.take i) (l[i]) = 0:=by
  have h1 : l = l.take i ++ (l[i] :: l.drop (i + 1)):=by rw [List.getElem_cons_drop,List.take_append_drop]
  rw [h1] at h
  have:=((okF_append _ [] _).1 h).2
  simpa [okF] using this.1
theorem errS_zero {l : List Item} {x : Item} : errS D l x = 0 ↔ D.ce x = 0 ∧ orderE l x = 0 ∧ zeu D l x = 0 ∧ standsE D l x = 0 ∧ zdu D l x = 0 ∧ tunedE D l x = 0:=by
  unfold errS
  rw [firstNZ_zero]
  simp
theorem changesE_zero {l : List Item} {x : Item} : zeu D l x = 0 ↔ ∀ y ∈ l,y.Grand = x.Grand → y.To + D.change ≤ x.From:=by
  unfold zeu
  cases h : l.any (fun y=>(y.Grand == x.Grand) && decide (x.From < y.To + D.change)) with
  | true =>
    simp only [cond_true]
    constructor
    · intro e; exact absurd e (by decide)
    · intro e
      obtain ⟨y,hy,h2⟩:=List.any_eq_true.1 h
      simp only [Bool.and_eq_true,beq_iff_eq,decide_eq_true_eq] at h2
      have:=e y hy h2.1
      omega
  | false =>
    simp only [cond_false,true_iff]
    intro y hy hg
    have:=List.any_eq_false.1 h y hy
    simp only [Bool.and_eq_true,beq_iff_eq,decide_eq_true_eq,not_and,Int.not_lt] at this
    exact this hg
theorem travelsE_zero {l : List Item} {x : Item} : zdu D l x = 0 ↔ (x.Kind = 0 → ∀ y ∈ l,farE D x y = false):=by
  unfold zdu
  cases h : l.any (farE D x) with
  | true =>
    obtain ⟨y,hy,h2⟩:=List.any_eq_true.1 h
    by_cases c : x.Kind = 0
    · simp only [c,BEq.rfl,Bool.and_self,cond_true,forall_const]
      constructor
      · intro e; exact absurd e (by decide)
      · intro e; rw [e y hy] at h2; cases h2
    · have c' : (x.Kind == 0) = false:=by simpa using c
      simp [c,c']
  | false =>
    simp only [Bool.and_false,cond_false,true_iff]
    intro _ y hy
    simpa using List.any_eq_false.1 h y hy
theorem restS_append (x : Item) : ∀ (a b : List Item) (i : Nat) (o : Int),restS D x (a ++ b) i o = restS D x b (i + a.length) (restS D x a i o)
  | [],b,i,o=>by simp [restS]
  | y :: a,b,i,o=>by
    simp only [List.cons_append,restS,List.length_cons]
    rw [restS_append x a b]
    congr 1; omega
end
section
set_option maxRecDepth 4000
open Go
variable {d : Diary} {n : Nat}
def diaD (d : Diary) : Dia where
  ce:=itemD d
  change:=d.Change
  lasts:=d.Lasts
  init:=fun g=>match zbz d.Gds g with | some x=>x.Place | none=>[]
  width:=fun g=>match zbz d.Gds g with | some x=>x.Width | none=>0
  dist:=fun a b w=>distW d.Pcs d.Roads a b w
structure OkP (d : Diary) : Prop where
  r : OkR d.Pcs d.Roads
  g : ∀ x ∈ d.Gds,x.Place ∈ d.Pcs ∧ 1 ≤ x.Width ∧ x.Width ≤ 10000
  gl : d.Gds.length ≤ 12
  tl : d.Tc.length ≤ 12
  ch : 0 ≤ d.Change ∧ d.Change ≤ 1000
  ls : 0 ≤ d.Lasts ∧ d.Lasts ≤ 100000
theorem okP {d : Diary} (h : zcp d = 0) : OkP d:=by
  obtain ⟨h1,h2,h3,h4,h5,h6⟩:=diaryD_zero h
  exact ⟨h1,h2,h3,h4,h5,h6⟩
def grandT (o : Option Grand) : Str × Str × Int × Bool:=match o with | some g=>(g.Name,g.Place,g.Width,true) | none=>([],[],0,false)
theorem grandP (ok : OkP d) (hn : 1000 < n) (s : Str) : zca n d s = some (grandT (zbz d.Gds s)):=by
  rw [grand_eq d s (by have:=ok.gl; omega) hn]
  cases zbz d.Gds s <;> rfl
theorem grandT_place (s : Str) : (grandT (zbz d.Gds s)).2.1 = (diaD d).init s:=by
  simp only [diaD,grandT]
  cases zbz d.Gds s <;> rfl
theorem grandT_width (s : Str) : (grandT (zbz d.Gds s)).2.2.1 = (diaD d).width s:=by
  simp only [diaD,grandT]
  cases zbz d.Gds s <;> rfl
structure OkIt (d : Diary) (x : Item) : Prop where
  kind : 0 ≤ x.Kind ∧ x.Kind ≤ 3
  fr : 0 ≤ x.From ∧ x.From ≤ 1000000
  to : 0 ≤ x.To ∧ x.To ≤ 1000000
  lt : x.From < x.To
  place : x.Place ∈ d.Pcs
theorem itemD_ok {x : Item} (h : itemD d x = 0) : OkIt d x:=by
  rw [itemD] at h
  cases e1 : zbc 0 3 x.Kind with
  | false=>rw [e1] at h; simp at h
  | true =>
    cases e2 : zbc 0 1000000 x.From with
    | false=>rw [e1,e2] at h; simp at h
    | true =>
      cases e3 : zbc 0 1000000 x.To with
      | false=>rw [e1,e2,e3] at h; simp at h
      | true =>
        by_cases e4 : x.To ≤ x.From
        · rw [e1,e2,e3,decide_eq_true e4] at h; simp at h
        · cases e5 : d.Gds.any (isG x.Grand) with
          | false=>rw [e1,e2,e3,decide_eq_false e4,e5] at h; simp at h
          | true =>
            cases e6 : d.Pcs.any (isS x.Place) with
            | false=>rw [e1,e2,e3,decide_eq_false e4,e5,e6] at h; simp at h
            | true =>
              obtain ⟨y,hy,e⟩:=List.any_eq_true.1 e6
              rw [isS,beq_iff_eq] at e
              simp only [zbc,Bool.and_eq_true,decide_eq_true_eq] at e1 e2 e3
              exact ⟨e1,e2,e3,by omega,by rwa [← e]⟩
def clashB (d : Diary) (x y : Item) : Bool:=(y.Grand == x.Grand) && decide (x.From < y.To + d.Change)
theorem changes_eq (ok : OkP d) (hn : 1000 < n) (c : List (Int × Tab)) (l : List Item) (hl : l.length ≤ 900) (hit : ∀ y ∈ l,y.To ≤ 1000000 ∧ 0 ≤ y.To) (x : Item) :
    zco n d.Pcs d.Tc d.Roads d.Gds d.Change d.Lasts c l x = some (zeu (diaD d) l x):=by
  have hc:=ok.ch
  rw [zco,q46k,q71k,zaf,loop_findI (l:=l) (p:=clashB d x) (fun back v hv=>?_) (fun back=>?_) n (by omega)]
  · simp only [Option.bind_some,findI_any,zeu]
    show (bif l.any (clashB d x) then some 17 else some 0) = some (bif l.any (clashB d x) then 17 else 0)
    cases l.any (clashB d x) <;> rfl
  · have hb:=hit _ (zby hv)
    rw [q47k]
    simp only [hv,zcn,zfd (by omega : -9223372036854775808 ≤ (ix l v).To + d.Change) (by omega),Bool.or_true,zbf,Option.bind_some,decide_true,cond_true,zch (by omega : v + 1 ≤ 9223372036854775807),clashB]
  · rw [q47k]; simp
theorem place_P (ok : OkP d) (hn : 1000 < n) (c : List (Int × Tab)) (l : List Item) (hl : l.length ≤ 900) (g : Str) (t : Int) :
    zcf n d.Pcs d.Tc d.Roads d.Gds d.Change d.Lasts c l g t = some (zbx (diaD d) l g t):=by
  have e : Diary.mk d.Pcs d.Tc d.Roads d.Gds d.Change d.Lasts = d:=rfl
  rw [zcf,e,grandP ok hn g]
  simp only [Option.bind_some,zaf]
  rw [grandT_place]
  refine loop_fold (st:=fun v=>zbx (diaD d) (l.take v) g t) (len:=l.length) (fun back v hv=>?_) (fun back=>?_) n (by omega) rfl
  · rw [zdg]
    simp only [hv,decide_true,cond_true,zaf,zch (by omega : v + 1 ≤ 9223372036854775807),zbf,zbr hv]
    rw [zbx,zbx,List.foldl_append]
    show (bif movesTo g t (ix l v) then _ else _) = _
    simp only [List.foldl_cons,List.foldl_nil]
    cases movesTo g t (ix l v) <;> rfl
  · rw [zdg]; simp
end
section
set_option maxRecDepth 4000
open Go
variable {d : Diary} {n : Nat}
theorem stands_eq (ok : OkP d) (hn : 1000 < n) {c : List (Int × Tab)} (hc : OkC d.Pcs d.Roads c) (l : List Item) (hl : l.length ≤ 900) {x : Item} (hx : OkIt d x) :
    ∃ c',zcu n d.Pcs d.Tc d.Roads d.Gds d.Change d.Lasts c l x = some (standsE (diaD d) l x,c') ∧ OkC d.Pcs d.Roads c':=by
  have e : Diary.mk d.Pcs d.Tc d.Roads d.Gds d.Change d.Lasts = d:=rfl
  rw [zcu,place_P ok hn c l hl,e,grandP ok hn x.Grand]
  simp only [Option.bind_some,standsE]
  rw [grandT_width]
  have hne : (x.Kind != 1) = !(x.Kind == 1):=rfl
  rw [hne]
  cases x.Kind == 1 with
  | false =>
    refine ⟨c,?_,hc⟩
    simp only [Bool.not_false,cond_true,cond_false]
    cases zbx (diaD d) l x.Grand x.From == x.Place <;> rfl
  | true =>
    obtain ⟨c',h1,h2⟩:=Distance_eq ok.r hn hc (zbx (diaD d) l x.Grand x.From) x.Place ((diaD d).width x.Grand)
    refine ⟨c',?_,h2⟩
    simp only [Bool.not_true,cond_true,cond_false]
    rw [h1]
    simp only [Option.bind_some]
    have hf:=hx.fr
    have ht:=hx.to
    have hd : (diaD d).dist (zbx (diaD d) l x.Grand x.From) x.Place ((diaD d).width x.Grand) = distW d.Pcs d.Roads (zbx (diaD d) l x.Grand x.From) x.Place ((diaD d).width x.Grand):=rfl
    rw [hd,chk_of (zfd (by omega : -9223372036854775808 ≤ x.To - x.From) (by omega))]
    cases zbx (diaD d) l x.Grand x.From == x.Place with
    | true=>rfl
    | false =>
      cases distW d.Pcs d.Roads (zbx (diaD d) l x.Grand x.From) x.Place ((diaD d).width x.Grand) with
      | none=>rfl
      | some v =>
        simp only [cond_false,Option.isSome_some,Bool.not_true,Option.getD_some]
        cases decide (x.To - x.From < v) <;> rfl
end
section
set_option maxRecDepth 4000
open Go
variable {d : Diary} {n : Nat}
theorem travels_in (ok : OkP d) (hn : 1000 < n) (l : List Item) (hl : l.length ≤ 900) (hit : ∀ y ∈ l,y.To ≤ 1000000 ∧ 0 ≤ y.To) (x : Item) :
    ∀ m v f (c : List (Int × Tab)),v + m = l.length → m < f → OkC d.Pcs d.Roads c →
      ∃ c',loopN (zbs n d.Pcs d.Tc d.Roads d.Gds d.Change d.Lasts l x fun v7=>some (0,v7)) f (v,c) = some (bif (l.drop v).any (farE (diaD d) x) then 16 else 0,c') ∧ OkC d.Pcs d.Roads c':=by
  intro m
  induction m with
  | zero =>
    intro v f c hv hf hc
    obtain ⟨f,rfl⟩ : ∃ q,f = q + 1:=⟨f - 1,by omega⟩
    refine ⟨c,?_,hc⟩
    rw [zct,zbs,decide_eq_false (by omega : ¬ v < l.length),drop_nil (by omega : ¬ v < l.length)]; rfl
  | succ m ih =>
    intro v f c hv hf hc
    obtain ⟨f,rfl⟩ : ∃ q,f = q + 1:=⟨f - 1,by omega⟩
    have hvl : v < l.length:=by omega
    have hb:=hit _ (zby hvl)
    rw [zct,zbs,decide_eq_true hvl,cond_true,drop_ix hvl,List.any_cons]
    simp only [zaf,zch (by omega : v + 1 ≤ 9223372036854775807),zbf]
    have e1 : farE (diaD d) x (ix l v) = (((ix l v).Kind == 0) && ((ix l v).Who == x.Who) && match distW d.Pcs d.Roads (ix l v).Place x.Place 1 with | none=>true | some q=>decide (x.From < (ix l v).To + q)):=rfl
    have e2 : (((ix l v).Kind != 0) || (!((ix l v).Who == x.Who))) = !(((ix l v).Kind == 0) && ((ix l v).Who == x.Who)):=by
      rw [Bool.not_and]; rfl
    rw [e1,e2]
    cases ((ix l v).Kind == 0) && ((ix l v).Who == x.Who) with
    | false=>exact ih (v + 1) f c (by omega) (by omega) hc
    | true =>
      obtain ⟨c',h1,h2⟩:=Distance_eq ok.r hn hc (ix l v).Place x.Place 1
      simp only [Bool.not_true,cond_false,h1,Option.bind_some,Bool.true_and]
      cases hd : distW d.Pcs d.Roads (ix l v).Place x.Place 1 with
      | none=>exact ⟨c',rfl,h2⟩
      | some q =>
        have hq:=distW_rng ok.r hd
        simp only [Option.getD_some,Option.isSome_some,Bool.not_true,Bool.not_false,Bool.false_or,zfd (by omega : -9223372036854775808 ≤ (ix l v).To + q) (by omega),zbf]
        cases decide (x.From < (ix l v).To + q) with
        | true=>exact ⟨c',rfl,h2⟩
        | false=>exact ih (v + 1) f c' (by omega) (by omega) h2
theorem travels_eq (ok : OkP d) (hn : 1000 < n) {c : List (Int × Tab)} (hc : OkC d.Pcs d.Roads c) (l : List Item) (hl : l.length ≤ 900) (hit : ∀ y ∈ l,y.To ≤ 1000000 ∧ 0 ≤ y.To) (x : Item) :
    ∃ c',zcl n d.Pcs d.Tc d.Roads d.Gds d.Change d.Lasts c l x = some (zdu (diaD d) l x,c') ∧ OkC d.Pcs d.Roads c':=by
  rw [zcl,zdu]
  have hne : (x.Kind != 0) = !(x.Kind == 0):=rfl
  rw [hne]
  cases x.Kind == 0 with
  | false=>exact ⟨c,rfl,hc⟩
  | true =>
    simp only [Bool.not_true,cond_false,zaf,Bool.true_and]
    obtain ⟨c',h1,h2⟩:=travels_in ok hn l hl hit x l.length 0 n c (by omega) (by omega) hc
    exact ⟨c',by rw [h1,List.drop_zero],h2⟩
theorem tune_eq (x : Item) (l : List Item) (hx : 0 ≤ x.From ∧ x.From ≤ 1000000) (hit : ∀ y ∈ l,y.To ≤ 1000000 ∧ 0 ≤ y.To) : ∀ k,k ≤ l.length → tuneL x d.Lasts l k = restS (diaD d) x (l.take k) 0 (-1):=by
  intro k
  induction k with
  | zero=>intro _; rfl
  | succ k ih =>
    intro hk
    have hkl : k < l.length:=by omega
    have hb:=hit _ (zby hkl)
    rw [tuneL,ih (by omega),zbr hkl,restS_append]
    have hw : IntKind.i64.wrap (x.From - (ix l k).To) = x.From - (ix l k).To:=wrap64 (by omega) (by omega)
    have hlen : (l.take k).length = k:=by simp; omega
    simp only [restS,tunStop,hw,hlen,Nat.zero_add]
    have et : tunes (diaD d) x (ix l k) = (((ix l k).Kind == 0) && (decide ((ix l k).To ≤ x.From) && decide (x.From - (ix l k).To ≤ d.Lasts))):=by
      rw [tunes,Bool.and_assoc]; rfl
    rw [et]
    cases (ix l k).Grand == x.Grand with
    | false=>rfl
    | true =>
      by_cases h1 : (ix l k).Kind = 1
      · rw [h1]; rfl
      · have h1' : ((ix l k).Kind == 1) = false:=beq_eq_false_iff_ne.2 h1
        rw [h1']
        cases ((ix l k).Kind == 0) && (decide ((ix l k).To ≤ x.From) && decide (x.From - (ix l k).To ≤ d.Lasts)) <;> rfl
end
section
set_option maxRecDepth 4000
open Go
variable {d : Diary} {n : Nat} {w : Int}
theorem open_eq (d : Diary) (hd : OkD d) (hn : 1000 < n) : diary_open n d = some (bif zcp d != 0 then .inl (zcp d) else .inr ()):=by
  rw [diary_open,CheckDiary_eq d hd hn]
  simp only [Option.bind_some]
  cases zcp d != 0 <;> rfl
end
section
set_option maxRecDepth 4000
open Go
variable {d : Diary} {n : Nat}
theorem isTuned_eq (ok : OkP d) (hn : 1000 < n) (c : List (Int × Tab)) (l : List Item) (hl : l.length ≤ 900) (hit : ∀ y ∈ l,y.To ≤ 1000000 ∧ 0 ≤ y.To) {x : Item} (hx : OkIt d x) :
    zcm n d.Pcs d.Tc d.Roads d.Gds d.Change d.Lasts c l x = some (tunedE (diaD d) l x):=by
  have e : zej n d.Pcs d.Tc d.Roads d.Gds d.Change d.Lasts c l x = some (restS (diaD d) x l 0 (-1)):=by
    rw [zej,chk_of (decide_eq_true (by omega)),tune_eq x l hx.fr hit l.length (Nat.le_refl _),List.take_length]
  rw [zcm,e,zbd,tunedE]
  simp only [Option.bind_some]
  cases x.Kind == 2 with
  | false=>rfl
  | true =>
    simp only [cond_true,Bool.true_and]
    cases decide (restS (diaD d) x l 0 (-1) < 0) <;> rfl
theorem order_take {l : List Item} {v : Nat} (hv : v < l.length) : orderE (l.take v) (ix l v) = bif decide (0 < v) && decide ((ix l v).From < (ix l (v - 1)).From) then 9 else 0:=by
  cases v with
  | zero=>rfl
  | succ v =>
    rw [zbr (by omega : v < l.length),orderE]
    simp
theorem okF_mem {D : Dia} : ∀ {l pre : List Item},okF D pre l → ∀ y ∈ l,D.ce y = 0
  | [],_,_,y,hy=>by cases hy
  | x :: r,pre,h,y,hy=>by
    rcases List.mem_cons.1 hy with rfl | hy
    · exact (errS_zero.1 h.1).1
    · exact okF_mem h.2 y hy
theorem errS_eq {D : Dia} {l : List Item} {x : Item} : errS D l x = bif D.ce x != 0 then D.ce x else bif orderE l x != 0 then orderE l x else bif zeu D l x != 0 then zeu D l x else bif standsE D l x != 0 then standsE D l x else bif zdu D l x != 0 then zdu D l x else bif tunedE D l x != 0 then tunedE D l x else 0:=rfl
theorem okIts {l : List Item} (h : ∀ y ∈ l,itemD d y = 0) : ∀ y ∈ l,y.To ≤ 1000000 ∧ 0 ≤ y.To:=fun y hy=>by
  have:=(itemD_ok (h y hy)).to
  omega
theorem accS_cons {D : Dia} {pre : List Item} {x : Item} {r : List Item} {i : Nat} : accS D pre (x :: r) i = bif errS D pre x != 0 then (((i : Nat) : Int),errS D pre x) else accS D (pre ++ [x]) r (i + 1):=rfl
theorem accept_in (ok : OkP d) (hn : 1000 < n) (l : List Item) (hl : l.length ≤ 900) (hw : ∀ x ∈ l,x.Who.length ≤ 900) :
    ∀ m v f (c : List (Int × Tab)),v + m = l.length → m < f → OkC d.Pcs d.Roads c → (∀ y ∈ l.take v,itemD d y = 0) →
      ∃ c',loopN (zbq n d.Pcs d.Tc d.Roads d.Gds d.Change d.Lasts l fun v13=>some ((-1),0,v13)) f (((v : Nat) : Int),c) =
        some ((accS (diaD d) (l.take v) (l.drop v) v).1,(accS (diaD d) (l.take v) (l.drop v) v).2,c') ∧ OkC d.Pcs d.Roads c':=by
  intro m
  induction m with
  | zero =>
    intro v f c hv hf hc hz
    obtain ⟨f,rfl⟩ : ∃ q,f = q + 1:=⟨f - 1,by omega⟩
    refine ⟨c,?_,hc⟩
    rw [zct,zbq,decide_eq_false (by omega : ¬ (((v : Nat) : Int) < ((l.length : Nat) : Int))),drop_nil (by omega : ¬ v < l.length)]; rfl
  | succ m ih =>
    intro v f c hv hf hc hz
    obtain ⟨f,rfl⟩ : ∃ q,f = q + 1:=⟨f - 1,by omega⟩
    have hvl : v < l.length:=by omega
    have hp:=ok.r.len
    have ht:=ok.tl
    have hg:=ok.gl
    have e : Diary.mk d.Pcs d.Tc d.Roads d.Gds d.Change d.Lasts = d:=rfl
    have hci:=checkItem_eq (n:=n) d (ix l v) (by omega) (by omega) (by omega) (hw _ (zby hvl)) hn
    have htl : (l.take v).length ≤ 900:=by simp; omega
    rw [zct,zbq,decide_eq_true (by omega : (((v : Nat) : Int) < ((l.length : Nat) : Int))),cond_true,drop_ix hvl,accS_cons,errS_eq,e]
    have b1 : inB ((v : Nat) : Int) l.length = true:=inB_of (by omega) (by omega)
    have b2 : inC ((v : Nat) : Int) l.length = true:=inC_of (by omega) (by omega)
    have b3 : inI (((v : Nat) : Int) - 1) = true:=zfd (by omega) (by omega)
    have b4 : inI (((v : Nat) : Int) + 1) = true:=zfd (by omega) (by omega)
    have b5 : (!(decide ((0 : Int) < ((v : Nat) : Int))) || inB (((v : Nat) : Int) - 1) l.length) = true:=by
      by_cases h0 : v = 0
      · subst h0; rfl
      · rw [inB_of (by omega) (by omega),Bool.or_true]
    have b6 : (!(decide ((0 : Int) < ((v : Nat) : Int))) || decide ((((v : Nat) : Int) - 1).toNat < l.length)) = true:=by
      by_cases h0 : v = 0
      · subst h0; rfl
      · rw [Bool.or_eq_true]; exact .inr (decide_eq_true (by omega))
    have b7 : ((((v : Nat) : Int) - 1).toNat) = v - 1:=by omega
    have b8 : decide ((0 : Int) < ((v : Nat) : Int)) = decide (0 < v):=by rw [decide_eq_decide]; omega
    rw [b5,b6]
    simp only [b1,b2,b3,b4,b7,b8,zbf,Int.toNat_natCast,decide_eq_true hvl,hci,Option.bind_some,Bool.or_true]
    have hce : (diaD d).ce (ix l v) = itemD d (ix l v):=rfl
    rw [hce]
    by_cases h1 : itemD d (ix l v) = 0
    · have hx:=itemD_ok h1
      rw [h1,order_take hvl]
      simp only [bne_self_eq_false,cond_false]
      cases h2 : decide (0 < v) && decide ((ix l v).From < (ix l (v - 1)).From) with
      | true=>exact ⟨c,rfl,hc⟩
      | false =>
        have hits:=okIts hz
        rw [changes_eq ok hn c (l.take v) htl hits (ix l v)]
        simp only [Option.bind_some,cond_false,bne_self_eq_false]
        by_cases h3 : zeu (diaD d) (l.take v) (ix l v) = 0
        · rw [h3]
          obtain ⟨c1,g1,hc1⟩:=stands_eq ok hn hc (l.take v) htl hx
          rw [g1]
          simp only [Option.bind_some,cond_false,bne_self_eq_false]
          by_cases h4 : standsE (diaD d) (l.take v) (ix l v) = 0
          · rw [h4]
            obtain ⟨c2,g2,hc2⟩:=travels_eq ok hn hc1 (l.take v) htl hits (ix l v)
            rw [g2]
            simp only [Option.bind_some,cond_false,bne_self_eq_false]
            by_cases h5 : zdu (diaD d) (l.take v) (ix l v) = 0
            · rw [h5,isTuned_eq ok hn c2 (l.take v) htl hits hx]
              simp only [Option.bind_some,cond_false,bne_self_eq_false]
              by_cases h6 : tunedE (diaD d) (l.take v) (ix l v) = 0
              · rw [h6]
                simp only [cond_false,bne_self_eq_false]
                rw [← zbr hvl]
                refine ih (v + 1) f c2 (by omega) (by omega) hc2 fun y hy=>?_
                rw [zbr hvl,List.mem_append,List.mem_singleton] at hy
                rcases hy with hy | rfl
                · exact hz y hy
                · exact h1
              · exact ⟨c2,by simp only [zdx h6,cond_true],hc2⟩
            · exact ⟨c2,by simp only [zdx h5,cond_true],hc2⟩
          · exact ⟨c1,by simp only [zdx h4,cond_true],hc1⟩
        · exact ⟨c,by simp only [zdx h3,cond_true],hc⟩
    · exact ⟨c,by simp only [zdx h1,cond_true],hc⟩
def accL (d : Diary) (l : List Item) : Int × Int:=bif decide (100 < l.length) then (0,8) else accS (diaD d) [] l 0
theorem accept_eq (ok : OkP d) (hn : 1000 < n) {c : List (Int × Tab)} (hc : OkC d.Pcs d.Roads c) (l : List Item) (hl : l.length ≤ 900) (hw : ∀ x ∈ l,x.Who.length ≤ 900) :
    ∃ c',zbe n d.Pcs d.Tc d.Roads d.Gds d.Change d.Lasts c l = some ((accL d l).1,(accL d l).2,c') ∧ OkC d.Pcs d.Roads c':=by
  rw [zbe,accL]
  cases decide (100 < l.length) with
  | true=>exact ⟨c,rfl,hc⟩
  | false =>
    simp only [cond_false,zaf]
    obtain ⟨c',h1,h2⟩:=accept_in ok hn l hl hw l.length 0 n c (by omega) (by omega) hc (by simp)
    exact ⟨c',h1,h2⟩
def acceptD (d : Diary) (l : List Item) : Int × Int:=bif zcp d != 0 then (0,zcp d) else accL d l
theorem read_eq (hd : OkD d) (hn : 1000 < n) (l : List Item) (hl : l.length ≤ 900) (hw : ∀ x ∈ l,x.Who.length ≤ 900) :
    (zcp d ≠ 0 ∧ zei n d l = some (.inl (zcp d))) ∨ (zcp d = 0 ∧ ∃ c,zei n d l = some (.inr ((accL d l).2,c)) ∧ OkC d.Pcs d.Roads c):=by
  rw [zei,open_eq d hd hn]
  simp only [zaf,Option.bind_some]
  by_cases h : zcp d = 0
  · obtain ⟨c',h1,h2⟩:=accept_eq (okP h) hn OkC.nil l hl hw
    refine .inr ⟨h,c',?_,h2⟩
    rw [h]
    simp only [bne_self_eq_false,cond_false]
    rw [h1]
    rfl
  · refine .inl ⟨h,?_⟩
    simp only [zdx h,cond_true]
end
section
set_option maxRecDepth 4000
open Go
variable {n : Nat}
end
section
set_option maxRecDepth 4000
open Go
variable {d : Diary} {n : Nat}
end
section
set_option maxRecDepth 4000
open Go
variable {d : Diary} {n : Nat}
theorem accL_okF {l : List Item} (hl : l.length ≤ 100) : (accL d l).2 = 0 ↔ okF (diaD d) [] l:=by
  rw [accL,decide_eq_false (by omega : ¬ 100 < l.length),cond_false]
  exact accS_ok l [] 0
theorem accL_items {l : List Item} (h : (accL d l).2 = 0) : l.length ≤ 100 ∧ okF (diaD d) [] l:=by
  by_cases hl : 100 < l.length
  · rw [accL,decide_eq_true hl,cond_true] at h; exact absurd h (by decide : ¬ (8 : Int) = 0)
  · exact ⟨by omega,(accL_okF (by omega)).1 h⟩
end
section
set_option maxRecDepth 4000
open Go
variable {d : Diary} {n : Nat}
structure OkL (l : List Item) : Prop where
  len : l.length ≤ 103
  few : l.length ≤ 10 ∨ 100 < l.length
  it : ∀ x ∈ l,OkI x
def slimB (x : Item) : Bool:=((decide (x.Grand.length ≤ 30)) && (decide (x.Place.length ≤ 30))) && (decide (x.Who.length ≤ 30))
theorem slimB_ok {x : Item} (h : slimB x = true) : OkI x:=by
  simp only [slimB,Bool.and_eq_true,decide_eq_true_eq] at h
  exact ⟨h.1.1,h.1.2,h.2⟩
theorem Few_eq (l : List Item) (hn : l.length < n) (hl : l.length ≤ 9223372036854775807) : ∃ b,q86k n l = some b ∧ (b = true → OkL l):=by
  refine ⟨!(l.any fun x=>!slimB x) && (decide (l.length ≤ 10) || (decide (100 < l.length) && decide (l.length ≤ 103))),?_,fun h=>?_⟩
  · rw [q86k,zaf,loop_any' (l:=l) (p:=fun x=>!slimB x) (bad:=some false) (no:=some (decide (l.length ≤ 10) || (decide (100 < l.length) && decide (l.length ≤ 103)))) (fun back v hv=>?_) (fun back=>?_) n hn]
    · cases l.any fun x=>!slimB x <;> rfl
    · rw [q82k]
      simp only [hv,decide_true,cond_true,q92k,Option.bind_some,zch (by omega : v + 1 ≤ 9223372036854775807),zbf]
      rfl
    · rw [q82k]; simp
  · rw [Bool.and_eq_true,Bool.not_eq_true',Bool.or_eq_true,Bool.and_eq_true] at h
    simp only [decide_eq_true_eq] at h
    refine ⟨by omega,by omega,fun x hx=>?_⟩
    have:=List.any_eq_false.1 h.1 x hx
    rw [Bool.not_eq_true',Bool.not_eq_false] at this
    exact slimB_ok this
theorem items_ok {l : List Item} (hl : l.length ≤ 900) : q126k n l = some () ∧ q16k n l = some ():=by
  have r : room 80 l.length = true:=room_of (by omega) (by omega)
  rw [q126k,q16k,r]
  exact ⟨rfl,rfl⟩
theorem acceptD_ok {l : List Item} : (acceptD d l).2 = 0 ↔ zcp d = 0 ∧ (accL d l).2 = 0:=by
  rw [acceptD]
  by_cases h : zcp d = 0
  · rw [h]; simp
  · rw [zdx h]; simp [h]
theorem ix_getE {l : List Item} {i : Nat} (h : i < l.length) : l[i] = ix l i:=(zdl h).symm
theorem apart (ok : OkP d) {l : List Item} (h : okF (diaD d) [] l) {i k : Nat} (hi : i < l.length) (hk : k < i) :
    ((((ix l i).Grand == (ix l k).Grand) || ((((ix l i).Kind == 0) && ((ix l k).Kind == 0)) && ((ix l i).Who == (ix l k).Who))) && (decide ((ix l i).From < (ix l k).To))) = false:=by
  have h1:=okF_at h hi
  rw [ix_getE hi] at h1
  obtain ⟨_,_,h3,_,h5,_⟩:=errS_zero.1 h1
  rw [changesE_zero] at h3
  rw [travelsE_zero] at h5
  have hm : ix l k ∈ l.take i:=by
    rw [← ix_take hk (by omega)]
    exact zby (by simp; omega)
  have hch:=ok.ch
  have hchD : (diaD d).change = d.Change:=rfl
  rw [hchD] at h3
  cases hlt : decide ((ix l i).From < (ix l k).To) with
  | false=>rw [Bool.and_false]
  | true =>
    have hlt:=of_decide_eq_true hlt
    rw [Bool.and_true,Bool.or_eq_false_iff]
    refine ⟨?_,?_⟩
    · rw [beq_eq_false_iff_ne]
      intro e
      have:=h3 _ hm e.symm
      omega
    · rw [Bool.and_eq_false_iff,Bool.and_eq_false_iff]
      by_cases c1 : (ix l i).Kind = 0
      · by_cases c2 : (ix l k).Kind = 0
        · refine .inr ?_
          rw [beq_eq_false_iff_ne]
          intro e
          have hf:=h5 c1 _ hm
          rw [farE,c2,e] at hf
          simp only [beq_self_eq_true,Bool.and_self,Bool.true_and] at hf
          have hdD : (diaD d).dist (ix l k).Place (ix l i).Place 1 = distW d.Pcs d.Roads (ix l k).Place (ix l i).Place 1:=rfl
          rw [hdD] at hf
          cases hd : distW d.Pcs d.Roads (ix l k).Place (ix l i).Place 1 with
          | none=>rw [hd] at hf; cases hf
          | some q =>
            have hq:=distW_rng ok.r hd
            rw [hd] at hf
            have:=of_decide_eq_false hf
            omega
        · exact .inl (.inr (beq_eq_false_iff_ne.2 c2))
      · exact .inl (.inl (beq_eq_false_iff_ne.2 c1))
end
section
set_option maxRecDepth 4000
open Go
section
variable {D : Dia}
theorem restS_snoc (x : Item) (l : List Item) (y : Item) (o : Int) : restS D x (l ++ [y]) 0 o = bif y.Grand == x.Grand then (bif tunes D x y then ((l.length : Nat) : Int) else bif y.Kind == 1 then -1 else restS D x l 0 o) else restS D x l 0 o:=by
  rw [restS_append,restS,restS,Nat.zero_add]
end
end
section
set_option maxRecDepth 4000
open Go
variable {d : Diary} {n : Nat}
end
section
set_option maxRecDepth 4000
open Go
variable {d : Diary} {n : Nat}
section
variable {D : Dia}
theorem ix_take_mem {l : List Item} {i q : Nat} (hi : i ≤ l.length) (hq : q < i) : ix l q ∈ l.take i:=by
  rw [← ix_take hq (by omega)]
  exact zby (by simp; omega)
end
end
section
set_option maxRecDepth 4000
open Go
variable {d : Diary} {n : Nat} {w : Int}
end
section
set_option maxRecDepth 4000
open Go
variable {d : Diary} {n : Nat}
def runsM (g : Str) (t : Int) (y : Item) : Bool:=(((y.Kind == 1) && (y.Grand == g)) && (decide (y.From ≤ t))) && (decide (t < y.To))
def placeOfD (d : Diary) (l : List Item) (m : Moment) : Int × Str :=
  bif zcp d != 0 then (zcp d,[]) else bif (accL d l).2 != 0 then ((accL d l).2,[]) else bif !d.Gds.any (isG m.Grand) then (6,[]) else bif !zbc 0 1000000 m.Minute then (2,[]) else
  bif l.any (runsM m.Grand m.Minute) then (0,[]) else (0,zbx (diaD d) l m.Grand m.Minute)
theorem Runs_eq (l : List Item) (hn : 1000 < n) (hl : l.length ≤ 900) (g : Str) (t : Int) : q11k n l g t = some (l.any (runsM g t)):=by
  rw [q11k,q56k,zaf,loop_findI (l:=l) (p:=runsM g t) (fun back v hv=>?_) (fun back=>?_) n (by omega)]
  · simp only [Option.bind_some,findI_any]
  · rw [q33k]
    simp only [hv,decide_true,cond_true,zet,Option.bind_some,zch (by omega : v + 1 ≤ 9223372036854775807),zbf]
    rfl
  · rw [q33k]; simp
theorem PlaceOf_eq (hd : OkD d) (hn : 1000 < n) (l : List Item) (hl : l.length ≤ 900) (hw : ∀ x ∈ l,x.Who.length ≤ 900) (m : Moment) : diary_PlaceOf n d l m = some (placeOfD d l m):=by
  have hg:=hd.grands
  rw [diary_PlaceOf,placeOfD]
  rcases read_eq hd hn l hl hw with ⟨h1,h2⟩ | ⟨h1,c,h2,h3⟩
  · rw [h2]
    simp only [zaf,Option.bind_some,zdx h1,cond_true]
  · rw [h2,h1]
    simp only [zaf,Option.bind_some,bne_self_eq_false,cond_false]
    by_cases ha : (accL d l).2 = 0
    · rw [ha,grandP (okP h1) hn m.Grand]
      have hG:=grandOf_some d.Gds m.Grand
      simp only [bne_self_eq_false,cond_false,Option.bind_some,zbh,zav,Runs_eq l hn hl,place_P (okP h1) hn c l hl]
      have e : ((decide (0 ≤ m.Minute)) && (decide (m.Minute ≤ 1000000))) = zbc 0 1000000 m.Minute:=rfl
      rw [e,← hG]
      cases zbz d.Gds m.Grand with
      | none=>rfl
      | some x =>
        cases zbc 0 1000000 m.Minute with
        | false=>rfl
        | true =>
          simp only [grandT,Option.isSome_some,Bool.not_true,cond_false]
          cases l.any (runsM m.Grand m.Minute) <;> rfl
    · simp only [zdx ha,cond_true]
theorem grandOf_ix {l : List Grand} {s : Str} (h : ¬ zdm (isG s) l < 0) : zbz l s = some (ix l (zdm (isG s) l).toNat):=by
  obtain ⟨h1,h2,h3,h4⟩:=findI_pos h
  rw [zbz,List.find?_eq_some_iff_getElem]
  refine ⟨h3,_,h2,(zdl h2).symm,fun j hj=>?_⟩
  have:=h4 j hj
  rw [zdl (by omega)] at this
  rw [this]; rfl
theorem known_findI {l : List Grand} {s : Str} (h : l.any (isG s) = true) : ¬ zdm (isG s) l < 0:=fun c=>by
  have:=findI_none (isG s) l
  rw [h,decide_eq_true c] at this
  cases this
theorem Stands_ref (hd : OkD d) (hn : 1000 < n) (l : List Item) (hl : l.length ≤ 900) {g : Str} (hg : d.Gds.any (isG g) = true) (t : Int) : q38k n d l g t = some (zbx (diaD d) l g t):=by
  have hgl:=hd.grands
  have hk:=known_findI hg
  obtain ⟨h1,h2,_,_⟩:=findI_pos hk
  have hi : (diaD d).init g = (ix d.Gds (zdm (isG g) d.Gds).toNat).Place:=by
    simp only [diaD,grandOf_ix hk]
  rw [q38k,GrandAt_eq (n:=n) d g (by omega) (by omega)]
  simp only [Option.bind_some,inB_of h1 h2,decide_eq_true h2,zbf,zaf,← hi]
  refine loop_fold (st:=fun v=>zbx (diaD d) (l.take v) g t) (len:=l.length) (fun back v hv=>?_) (fun back=>?_) n (by omega) rfl
  · rw [q61k]
    simp only [hv,decide_true,cond_true,zaf,zch (by omega : v + 1 ≤ 9223372036854775807),zbf,zbr hv]
    rw [zbx,zbx,List.foldl_append]
    show (bif movesTo g t (ix l v) then _ else _) = _
    simp only [List.foldl_cons,List.foldl_nil]
    cases movesTo g t (ix l v) <;> rfl
  · rw [q61k]; simp
theorem itemD_known {x : Item} (h : itemD d x = 0) : d.Gds.any (isG x.Grand) = true:=by
  have o:=itemD_ok h
  have hk:=o.kind
  have hf:=o.fr
  have ht:=o.to
  have hl:=o.lt
  have e0 : zbc 0 3 x.Kind = true:=by rw [zbc,decide_eq_true hk.1,decide_eq_true hk.2]; rfl
  have e1 : zbc 0 1000000 x.From = true:=by rw [zbc,decide_eq_true hf.1,decide_eq_true hf.2]; rfl
  have e2 : zbc 0 1000000 x.To = true:=by rw [zbc,decide_eq_true ht.1,decide_eq_true ht.2]; rfl
  have e3 : decide (x.To ≤ x.From) = false:=decide_eq_false (by omega)
  cases e : d.Gds.any (isG x.Grand) with
  | true=>rfl
  | false=>rw [itemD,e0,e1,e2,e3,e] at h; simp at h
section
variable {l : List Item} {v : Nat}
theorem pairOf (ok : OkP d) (hF : okF (diaD d) [] l) {i k : Nat} (hi : i < l.length) (hk : k < i) (hg : (ix l k).Grand = (ix l i).Grand) : (ix l k).To + d.Change ≤ (ix l i).From:=by
  have h1:=okF_at hF hi
  rw [ix_getE hi] at h1
  have h3:=changesE_zero.1 (errS_zero.1 h1).2.2.1
  exact h3 _ (ix_take_mem (by omega) hk) hg
theorem okIt_at (hF : okF (diaD d) [] l) {i : Nat} (hi : i < l.length) : OkIt d (ix l i):=itemD_ok (okF_mem hF _ (zby hi))
end
theorem placeS_mem (ok : OkP d) {g : Str} (hg : d.Gds.any (isG g) = true) (t : Int) {l : List Item} (hl : ∀ y ∈ l,y.Place ∈ d.Pcs) : zbx (diaD d) l g t ∈ d.Pcs:=by
  have hk:=known_findI hg
  have h0 : (diaD d).init g ∈ d.Pcs:=by
    simp only [diaD,grandOf_ix hk]
    exact (ok.g _ (zby (findI_pos hk).2.1)).1
  unfold zbx
  generalize (diaD d).init g = a at h0
  induction l generalizing a with
  | nil=>exact h0
  | cons y l ih =>
    rw [List.foldl_cons]
    refine ih (fun z hz=>hl z (List.mem_cons_of_mem _ hz)) _ ?_
    cases movesTo g t y with
    | true=>exact hl y List.mem_cons_self
    | false=>exact h0
end
section
set_option maxRecDepth 4000
open Go
variable {d : Diary} {n : Nat}
theorem Rests_ref (ok : OkP d) (hn : 1000 < n) (l : List Item) (hl : l.length ≤ 900) (hit : ∀ y ∈ l,y.To ≤ 1000000 ∧ 0 ≤ y.To) {x : Item} (hx : OkIt d x) : q32k n d l x = some (restS (diaD d) x l 0 (-1)):=by
  have hf:=hx.fr
  rw [q32k,zaf]
  refine loop_fold (st:=fun v=>restS (diaD d) x (l.take v) 0 (-1)) (len:=l.length) (fun back v hv=>?_) (fun back=>?_) n (by omega) rfl
  · have hb:=hit _ (zby hv)
    have hlen : (l.take v).length = v:=by simp; omega
    rw [q68k]
    simp only [decide_eq_true hv,cond_true,zaf,zch (by omega : v + 1 ≤ 9223372036854775807),zbf,zfd (by omega : -9223372036854775808 ≤ x.From - (ix l v).To) (by omega),Bool.or_true,zbr hv,restS_snoc,hlen]
    have et : tunes (diaD d) x (ix l v) = ((((ix l v).Kind == 0) && (decide ((ix l v).To ≤ x.From))) && (decide (x.From - (ix l v).To ≤ d.Lasts))):=rfl
    rw [et]
    cases (ix l v).Grand == x.Grand with
    | false=>rfl
    | true =>
      cases (((ix l v).Kind == 0) && (decide ((ix l v).To ≤ x.From))) && (decide (x.From - (ix l v).To ≤ d.Lasts)) <;> cases (ix l v).Kind == 1 <;> rfl
  · rw [q68k]; simp
theorem distZ_eq (a b : Str) (w : Int) : distZ d a b w = (distW d.Pcs d.Roads a b w).getD (-1):=by rw [distZ]; cases distW d.Pcs d.Roads a b w <;> rfl
theorem breaks_ref (hd : OkD d) (ok : OkP d) (hn : 1000 < n) (l : List Item) (hl : l.length ≤ 900) (hit : ∀ y ∈ l,itemD d y = 0) {x : Item} (hx : itemD d x = 0) :
    q62k n d l x = some (firstNZ [zeu (diaD d) l x,standsE (diaD d) l x,zdu (diaD d) l x,tunedE (diaD d) l x]):=by
  have hxo:=itemD_ok hx
  have hkn:=itemD_known hx
  have hf:=hxo.fr
  have ht:=hxo.to
  have hch:=ok.ch
  have hg:=hd.grands
  have hits:=okIts hit
  rw [q62k,zaf,loop_any' (l:=l) (p:=clashB d x) (bad:=some 17) (no:=some (firstNZ [standsE (diaD d) l x,zdu (diaD d) l x,tunedE (diaD d) l x])) (fun back v hv=>?_) (fun back=>?_) n (by omega)]
  · have e : zeu (diaD d) l x = bif l.any (clashB d x) then 17 else 0:=rfl
    rw [e]
    cases l.any (clashB d x) <;> rfl
  · have hb:=hits _ (zby hv)
    rw [q63k]
    simp only [hv,decide_true,cond_true,zfd (by omega : -9223372036854775808 ≤ (ix l v).To + d.Change) (by omega),Bool.or_true,zbf,zch (by omega : v + 1 ≤ 9223372036854775807)]
    rfl
  · rw [q63k]
    simp only [Nat.lt_irrefl,decide_false,cond_false,Stands_ref hd hn l hl hkn,Option.bind_some,zaf]
    have last : loopN (q21k n d l x fun _=>(zeh (x.Kind == (2 : Int)) (q32k n d l x)).bind fun y8=>bif (x.Kind == (2 : Int)) && (decide (y8 < (0 : Int))) then some 26 else some 0) n 0 = some (firstNZ [zdu (diaD d) l x,tunedE (diaD d) l x]):=by
      have fin : ((zeh (x.Kind == (2 : Int)) (q32k n d l x)).bind fun y8=>bif (x.Kind == (2 : Int)) && (decide (y8 < (0 : Int))) then some 26 else some 0) = some (tunedE (diaD d) l x):=by
        rw [Rests_ref ok hn l hl hits hxo,zbd,tunedE]
        simp only [Option.bind_some]
        cases x.Kind == 2 with
        | false=>rfl
        | true =>
          simp only [cond_true,Bool.true_and]
          cases decide (restS (diaD d) x l 0 (-1) < 0) <;> rfl
      rw [fin,zdu]
      cases hk : x.Kind == 0 with
      | false =>
        obtain ⟨n',rfl⟩ : ∃ q,n = q + 1:=⟨n - 1,by omega⟩
        rw [zct,q21k,hk,Bool.and_false]
        simp only [cond_false,Bool.false_and,firstNZ,bne_self_eq_false]
        exact congrArg some bif_int.symm
      | true =>
        rw [loop_any' (l:=l) (p:=farE (diaD d) x) (bad:=some 16) (no:=some (tunedE (diaD d) l x)) (fun back v hv=>?_) (fun back=>?_) n (by omega)]
        · simp only [Bool.true_and]
          cases l.any (farE (diaD d) x) with
          | true=>rfl
          | false =>
            simp only [cond_false,firstNZ,bne_self_eq_false]
            exact congrArg some bif_int.symm
        · have hb:=hits _ (zby hv)
          have hpl:=(itemD_ok (hit _ (zby hv))).place
          rw [q21k]
          simp only [hv,decide_true,hk,Bool.and_self,cond_true,zaf,zbf,zch (by omega : v + 1 ≤ 9223372036854775807),Distance_ref ok.r hn hpl hxo.place 1,Option.bind_some]
          have e1 : farE (diaD d) x (ix l v) = (((ix l v).Kind == 0) && ((ix l v).Who == x.Who) && match distW d.Pcs d.Roads (ix l v).Place x.Place 1 with | none=>true | some q=>decide (x.From < (ix l v).To + q)):=rfl
          have e2 : (((ix l v).Kind != 0) || (!((ix l v).Who == x.Who))) = !(((ix l v).Kind == 0) && ((ix l v).Who == x.Who)):=by
            rw [Bool.not_and]; rfl
          rw [e1,e2,distZ_eq]
          cases ((ix l v).Kind == 0) && ((ix l v).Who == x.Who) with
          | false=>rfl
          | true =>
            simp only [Bool.not_true,cond_false,Bool.true_and]
            cases hdist : distW d.Pcs d.Roads (ix l v).Place x.Place 1 with
            | none=>rfl
            | some q =>
              have hq:=distW_rng ok.r hdist
              simp only [Option.getD_some,decide_eq_false (by omega : ¬ q < 0),Bool.not_false,Bool.not_true,Bool.false_or,zfd (by omega : -9223372036854775808 ≤ (ix l v).To + q) (by omega),zbf]
        · rw [q21k]; simp
    rw [last]
    have hmem:=placeS_mem ok hkn x.From (l:=l) (fun y hy=>(itemD_ok (hit y hy)).place)
    have hwid : (diaD d).width x.Grand = (ix d.Gds (zdm (isG x.Grand) d.Gds).toNat).Width:=by
      simp only [diaD,grandOf_ix (known_findI hkn)]
    obtain ⟨g1,g2,_,_⟩:=findI_pos (known_findI hkn)
    rw [standsE,hwid]
    have hdD : ∀ a b w,(diaD d).dist a b w = distW d.Pcs d.Roads a b w:=fun _ _ _=>rfl
    rw [hdD]
    have hkne : (x.Kind != 1) = !(x.Kind == 1):=rfl
    rw [hkne]
    cases x.Kind == 1 with
    | false =>
      cases hp : zbx (diaD d) l x.Grand x.From == x.Place with
      | false=>rfl
      | true=>simp only [Bool.not_false,Bool.not_true,Bool.and_false,cond_false,cond_true,firstNZ,bne_self_eq_false]
    | true =>
      simp only [Bool.not_true,Bool.false_and,cond_false,cond_true]
      cases hp : zbx (diaD d) l x.Grand x.From == x.Place with
      | true=>rfl
      | false =>
        simp only [cond_false,GrandAt_eq (n:=n) d x.Grand (by omega) (by omega),Option.bind_some,inB_of g1 g2,decide_eq_true g2,zbf,Distance_ref ok.r hn hmem hxo.place,distZ_eq]
        cases hdist : distW d.Pcs d.Roads (zbx (diaD d) l x.Grand x.From) x.Place (ix d.Gds (zdm (isG x.Grand) d.Gds).toNat).Width with
        | none=>rfl
        | some q =>
          have hq:=distW_rng ok.r hdist
          simp only [Option.getD_some,decide_eq_false (by omega : ¬ q < 0),cond_false,zfd (by omega : -9223372036854775808 ≤ x.To - x.From) (by omega),zbf]
          cases decide (x.To - x.From < q) with
          | true=>rfl
          | false=>simp only [cond_false,firstNZ,bne_self_eq_false]
theorem acceptR_in (hd : OkD d) (ok : OkP d) (hn : 1000 < n) (l : List Item) (hl : l.length ≤ 900) (hw : ∀ x ∈ l,x.Who.length ≤ 900) :
    ∀ m v f,v + m = l.length → m < f → (∀ y ∈ l.take v,itemD d y = 0) →
      loopN (q34k n d l fun _=>some (0,(-1))) f v = some ((accS (diaD d) (l.take v) (l.drop v) v).2,(accS (diaD d) (l.take v) (l.drop v) v).1):=by
  have hp:=hd.places
  have ht:=hd.techs
  have hg:=hd.grands
  intro m
  induction m with
  | zero =>
    intro v f hv hf hz
    obtain ⟨f,rfl⟩ : ∃ q,f = q + 1:=⟨f - 1,by omega⟩
    rw [zct,q34k,decide_eq_false (by omega : ¬ v < l.length),drop_nil (by omega : ¬ v < l.length)]; rfl
  | succ m ih =>
    intro v f hv hf hz
    obtain ⟨f,rfl⟩ : ∃ q,f = q + 1:=⟨f - 1,by omega⟩
    have hvl : v < l.length:=by omega
    have hci:=CheckItem_ref (n:=n) d (ix l v) (by omega) (by omega) (by omega) (hw _ (zby hvl)) hn
    have htl : (l.take v).length ≤ 900:=by simp; omega
    have b5 : (!(decide (0 < v)) || inB (((v : Nat) : Int) - 1) l.length) = true:=by
      by_cases h0 : v = 0
      · subst h0; rfl
      · rw [inB_of (by omega) (by omega),Bool.or_true]
    have b6 : (!(decide (0 < v)) || decide ((((v : Nat) : Int) - 1).toNat < l.length)) = true:=by
      by_cases h0 : v = 0
      · subst h0; rfl
      · rw [Bool.or_eq_true]; exact .inr (decide_eq_true (by omega))
    have b7 : ((((v : Nat) : Int) - 1).toNat) = v - 1:=by omega
    rw [zct,q34k,decide_eq_true hvl,cond_true,drop_ix hvl,accS_cons,errS_eq,b5,b6]
    simp only [zfd (by omega : -9223372036854775808 ≤ ((v : Nat) : Int) - 1) (by omega),b7,zbf,hci,Option.bind_some,Bool.or_true,decide_eq_true (Nat.le_of_lt hvl),zch (by omega : v + 1 ≤ 9223372036854775807)]
    have hce : (diaD d).ce (ix l v) = itemD d (ix l v):=rfl
    rw [hce]
    by_cases h1 : itemD d (ix l v) = 0
    · rw [h1,order_take hvl]
      simp only [bne_self_eq_false,cond_false]
      cases h2 : decide (0 < v) && decide ((ix l v).From < (ix l (v - 1)).From) with
      | true=>rfl
      | false =>
        rw [breaks_ref hd ok hn (l.take v) htl hz h1]
        simp only [Option.bind_some,cond_false,bne_self_eq_false,firstNZ]
        by_cases h3 : zeu (diaD d) (l.take v) (ix l v) = 0
        · by_cases h4 : standsE (diaD d) (l.take v) (ix l v) = 0
          · by_cases h5 : zdu (diaD d) (l.take v) (ix l v) = 0
            · by_cases h6 : tunedE (diaD d) (l.take v) (ix l v) = 0
              · rw [h3,h4,h5,h6]
                simp only [cond_false,bne_self_eq_false]
                rw [← zbr hvl]
                refine ih (v + 1) f (by omega) (by omega) fun y hy=>?_
                rw [zbr hvl,List.mem_append,List.mem_singleton] at hy
                rcases hy with hy | rfl
                · exact hz y hy
                · exact h1
              · rw [h3,h4,h5]
                simp only [zdx h6,cond_true,bne_self_eq_false,cond_false]
            · rw [h3,h4]
              simp only [zdx h5,cond_true,bne_self_eq_false,cond_false]
          · rw [h3]
            simp only [zdx h4,cond_true,bne_self_eq_false,cond_false]
        · simp only [zdx h3,cond_true]
    · simp only [zdx h1,cond_true]
theorem Accept_ref (hd : OkD d) (hn : 1000 < n) (l : List Item) (hl : l.length ≤ 900) (hw : ∀ x ∈ l,x.Who.length ≤ 900) : q58k n d l = some ((acceptD d l).2,(acceptD d l).1):=by
  rw [q58k,CheckDiary_ref d hd hn,acceptD]
  simp only [Option.bind_some,zaf]
  by_cases h : zcp d = 0
  · rw [h,accL]
    simp only [bne_self_eq_false,cond_false]
    cases decide (100 < l.length) with
    | true=>rfl
    | false =>
      simp only [cond_false]
      exact acceptR_in hd (okP h) hn l hl hw l.length 0 n (by omega) (by omega) (by simp)
  · simp only [zdx h,cond_true]
end
section
set_option maxRecDepth 4000
open Go
variable {d : Diary} {n : Nat}
end
section
set_option maxRecDepth 4000
open Go
variable {d : Diary} {n : Nat}
end
section
set_option maxRecDepth 4000
open Go
variable {d : Diary} {n : Nat} {w : Int}
end
end Go.Proofs.YtpmkdgnhllhaeaaGreat.As
