/- What the functions compute, on plain data, and what follows from it, part 1: no condition. -/
import Derived.Test.YtchkkpbkgghcoaaGreatDoorGround3
namespace Go.Proofs.YtchkkpbkgghcoaaGreatDoor.As
open Go
section
set_option maxRecDepth 4000
open Go
structure PartPromise where
  Instrument : Str
  Part : Str
  Count : Int
  deriving Inhabited, DecidableEq
def ePartPromise (x : PartPromise) : V := .agg [vt x.Instrument, vt x.Part, vi x.Count]
def agraffelaw08_awake (n : Nat) : Option Bool := some true
def agraffelaw08_promised_L1 (a0 : List PartPromise) (k1 : (Unit → Option Bool)) (back : Nat → Option Bool) : Nat → Option Bool
  | v1 =>
  bif decide (v1 < a0.length) then
    bif (decide (20 < (((ix a0 v1).Instrument).length))) || (decide (20 < (((ix a0 v1).Part).length))) then
      some false
    else
      chk (nI (v1 + 1)) <|
      back (v1 + 1)
  else
    k1 ()
def agraffelaw08_promised (n : Nat) (a0 : List PartPromise) : Option Bool :=
  bif ((decide (12 < a0.length)) && (decide (a0.length ≤ 200))) || (decide (203 < a0.length)) then
    some false
  else
    withK (fun (_ : Unit) =>
        some true) fun k1 =>
    loopN (agraffelaw08_promised_L1 a0 k1) n 0
def strconv_Itoa (n : Nat) (a0 : Int) : Option Str :=
  chk (inI a0) <|
  some (itoaL a0)
def strings_Join (n : Nat) (a0 : List Str) (a1 : Str) : Option Str :=
  chk (Nat.ble a0.length 140737488355328) <|
  chk (Nat.ble (joinL a0 a1).length 140737488355328) <|
  some (joinL a0 a1)
def restore_FormatPromise (n : Nat) (a0 : PartPromise) : Option Str :=
  (strconv_Itoa n a0.Count).bind fun y1 =>
  (strings_Join n ([a0.Instrument, a0.Part, y1] : List Str) ([32] : Str)).bind fun y2 =>
  some y2
def strings_Split (n : Nat) (a0 : Str) (a1 : Str) : Option (List Str) :=
  chk (Nat.blt a0.length 4294967281) <|
  splitC a0 a1
def strconv_Atoi (n : Nat) (a0 : Str) : Option (Int × Bool) :=
  chk (Nat.ble a0.length 281474976710656) <|
  some (atoiL a0)
def internal_stringslite_HasPrefix (n : Nat) (a0 : Str) (a1 : Str) : Option Unit :=
  some ()
def internal_stringslite_TrimPrefix (n : Nat) (a0 : Str) (a1 : Str) : Option Str :=
  (internal_stringslite_HasPrefix n a0 a1).bind fun y1 =>
  bif (decide (a1.length ≤ a0.length)) && ((List.take a1.length a0) == a1) then
    chk (decide (a1.length ≤ a0.length)) <|
    some (List.drop a1.length a0)
  else
    some a0
def strings_TrimPrefix (n : Nat) (a0 : Str) (a1 : Str) : Option Str :=
  (internal_stringslite_TrimPrefix n a0 a1).bind fun y1 =>
  some y1
def restore_number (n : Nat) (a0 : Str) (a1 : Int) : Option (Int × Bool) :=
  (strconv_Atoi n a0).bind fun y1 =>
  (gcall y1.2 (strconv_Itoa n y1.1)).bind fun y2 =>
  (gcall (y1.2 && (y2 == a0)) (strings_TrimPrefix n a0 ([45] : Str))).bind fun y3 =>
  some (y1.1, (y1.2 && (y2 == a0)) && (decide (((y3.length : Nat) : Int) ≤ a1)))
def restore_ParsePromise (n : Nat) (a0 : Str) : Option (Str × Str × Int × Int) :=
  (strings_Split n a0 ([32] : Str)).bind fun y1 =>
  bif !decide (y1.length = 3) then
    some (([] : Str), ([] : Str), 0, 7)
  else
    chk (decide (2 < y1.length)) <|
    (restore_number n (ix y1 2) 6).bind fun y2 =>
    bif !y2.2 then
      some (([] : Str), ([] : Str), 0, 7)
    else
      chk (decide (0 < y1.length)) <|
      chk (decide (1 < y1.length)) <|
      some ((ix y1 0), (ix y1 1), y2.1, 0)
def agraffebase_Cut_L1 (a0 : Str) (a1 : Int) (k2 : ((List Str) → Option (List Str))) (back : (List Str) × Nat × Nat → Option (List Str)) : (List Str) × Nat × Nat → Option (List Str)
  | (v3, v4, v5) =>
  bif decide (v5 ≤ a0.length) then
    withK (fun (v6, v7) =>
        chk (nI (v5 + 1)) <|
        back (v7, v6, v5 + 1)) fun k1 =>
    chk (!(!(decide (v5 = a0.length))) || decide (v5 < a0.length)) <|
    bif (decide (v5 = a0.length)) || ((((List.getD a0 v5 0).toNat : Nat) : Int) == a1) then
      chk (decide (v4 ≤ v5)) <|
      chk (room 16 (v3 ++ ([(List.take (v5 - v4) (List.drop v4 a0))] : List Str)).length) <|
      chk (nI (v5 + 1)) <|
      k1 (v5 + 1, (v3 ++ ([(List.take (v5 - v4) (List.drop v4 a0))] : List Str)))
    else
      k1 (v4, v3)
  else
    k2 v3
def agraffebase_Cut (n : Nat) (a0 : Str) (a1 : Int) : Option (List Str) :=
  withK (fun (v8 : (List Str)) =>
      some v8) fun k2 =>
  loopN (agraffebase_Cut_L1 a0 a1 k2) n (([] : List Str), 0, 0)
def agraffebase_isDigit (n : Nat) (a0 : Int) : Option Unit :=
  some ()
def agraffebase_Abs (n : Nat) (a0 : Int) : Option Int :=
  bif decide (a0 < (0 : Int)) then
    chk (inI (-a0)) <|
    some (-a0)
  else
    some a0
def agraffebase_Decimal_L1 (n : Nat) (k1 : (Str → Option Str)) (back : Str × Int → Option Str) : Str × Int → Option Str
  | (v2, v3) =>
  bif (v3 != (0 : Int)) then
    chk ((10 != 0)) <|
    (agraffebase_Abs n (Int.tmod v3 10)).bind fun y4 =>
    chk (inI (48 + y4)) <|
    chk (nI (([UInt8.ofNat (Int.toNat (IntKind.u8.wrap (48 + y4)))] : Str) ++ v2).length) <|
    chk ((10 != 0 && inI (Int.tdiv v3 10))) <|
    back ((([UInt8.ofNat (Int.toNat (IntKind.u8.wrap (48 + y4)))] : Str) ++ v2), Int.tdiv v3 10)
  else
    k1 v2
def agraffebase_Decimal (n : Nat) (a0 : Int) : Option Str :=
  bif (a0 == (0 : Int)) then
    some ([48] : Str)
  else
    withK (fun (v5 : Str) =>
        bif decide (a0 < (0 : Int)) then
          chk (nI (([45] : Str) ++ v5).length) <|
          some (([45] : Str) ++ v5)
        else
          some v5) fun k1 =>
    loopN (agraffebase_Decimal_L1 n k1) n (([] : Str), a0)
def agraffebase_Number_L1 (n : Nat) (a0 : Str) (k2 : (Int → Option (Int × Bool))) (back : Int × Int → Option (Int × Bool)) : Int × Int → Option (Int × Bool)
  | (v3, v4) =>
  bif decide (v4 < ((a0.length : Nat) : Int)) then
    chk (inB v4 a0.length) <|
    (agraffebase_isDigit n (((List.getD a0 v4.toNat 0).toNat : Nat) : Int)).bind fun y5 =>
    bif !((decide ((48 : Int) ≤ (((List.getD a0 v4.toNat 0).toNat : Nat) : Int))) && (decide ((((List.getD a0 v4.toNat 0).toNat : Nat) : Int) ≤ (57 : Int)))) then
      some (0, false)
    else
      chk (inI (10 * v3)) <|
      chk (inI (IntKind.u8.wrap ((((List.getD a0 v4.toNat 0).toNat : Nat) : Int) - 48))) <|
      chk (inI ((10 * v3) + (IntKind.u8.wrap ((((List.getD a0 v4.toNat 0).toNat : Nat) : Int) - 48)))) <|
      chk (inI (v4 + 1)) <|
      back ((10 * v3) + (IntKind.u8.wrap ((((List.getD a0 v4.toNat 0).toNat : Nat) : Int) - 48)), v4 + 1)
  else
    k2 v3
def agraffebase_Number (n : Nat) (a0 : Str) (a1 : Int) : Option (Int × Bool) :=
  withK (fun (v1 : Int) =>
      chk (!(!(((a0.length : Nat) : Int) == v1)) || inI (v1 + a1)) <|
      bif ((((a0.length : Nat) : Int) == v1) || (decide ((v1 + a1) < ((a0.length : Nat) : Int)))) || (decide ((18 : Int) < a1)) then
        some (0, false)
      else
        withK (fun (v6 : Int) =>
            withK (fun (v7 : Int) =>
                (agraffebase_Decimal n v7).bind fun y8 =>
                some (v7, (y8 == a0))) fun k3 =>
            bif (v1 == (1 : Int)) then
              chk (inI (-v6)) <|
              k3 (-v6)
            else
              k3 v6) fun k2 =>
        loopN (agraffebase_Number_L1 n a0 k2) n (0, v1)) fun k1 =>
  bif (decide (0 < a0.length)) && ((((List.getD a0 0 0).toNat : Nat) : Int) == (45 : Int)) then
    k1 1
  else
    k1 0
def agrafferef08_ParsePromise (n : Nat) (a0 : Str) : Option (Str × Str × Int × Int) :=
  (agraffebase_Cut n a0 32).bind fun y1 =>
  bif !decide (y1.length = 3) then
    some (([] : Str), ([] : Str), 0, 7)
  else
    chk (decide (2 < y1.length)) <|
    (agraffebase_Number n (ix y1 2) 6).bind fun y2 =>
    bif !y2.2 then
      some (([] : Str), ([] : Str), 0, 7)
    else
      chk (decide (0 < y1.length)) <|
      chk (decide (1 < y1.length)) <|
      some ((ix y1 0), (ix y1 1), y2.1, 0)
def agrafferef08_FormatPromise (n : Nat) (a0 : PartPromise) : Option Str :=
  chk (nI (a0.Instrument ++ ([32] : Str)).length) <|
  chk (nI ((a0.Instrument ++ ([32] : Str)) ++ a0.Part).length) <|
  chk (nI (((a0.Instrument ++ ([32] : Str)) ++ a0.Part) ++ ([32] : Str)).length) <|
  (agraffebase_Decimal n a0.Count).bind fun y1 =>
  chk (nI ((((a0.Instrument ++ ([32] : Str)) ++ a0.Part) ++ ([32] : Str)) ++ y1).length) <|
  some ((((a0.Instrument ++ ([32] : Str)) ++ a0.Part) ++ ([32] : Str)) ++ y1)
def agraffebase_isLetter (n : Nat) (a0 : Int) : Option Unit :=
  some ()
def agraffebase_IsName_L1 (n : Nat) (a0 : Str) (k1 : (Unit → Option Bool)) (back : Nat → Option Bool) : Nat → Option Bool
  | v4 =>
  bif decide (v4 < a0.length) then
    (agraffebase_isLetter n (((List.getD a0 v4 0).toNat : Nat) : Int)).bind fun y5 =>
    (gcall (!(((decide ((97 : Int) ≤ (((List.getD a0 v4 0).toNat : Nat) : Int))) && (decide ((((List.getD a0 v4 0).toNat : Nat) : Int) ≤ (122 : Int)))) || ((decide ((65 : Int) ≤ (((List.getD a0 v4 0).toNat : Nat) : Int))) && (decide ((((List.getD a0 v4 0).toNat : Nat) : Int) ≤ (90 : Int)))))) (agraffebase_isDigit n (((List.getD a0 v4 0).toNat : Nat) : Int))).bind fun y6 =>
    bif ((!(((decide ((97 : Int) ≤ (((List.getD a0 v4 0).toNat : Nat) : Int))) && (decide ((((List.getD a0 v4 0).toNat : Nat) : Int) ≤ (122 : Int)))) || ((decide ((65 : Int) ≤ (((List.getD a0 v4 0).toNat : Nat) : Int))) && (decide ((((List.getD a0 v4 0).toNat : Nat) : Int) ≤ (90 : Int)))))) && (!((decide ((48 : Int) ≤ (((List.getD a0 v4 0).toNat : Nat) : Int))) && (decide ((((List.getD a0 v4 0).toNat : Nat) : Int) ≤ (57 : Int)))))) && ((((List.getD a0 v4 0).toNat : Nat) : Int) != (45 : Int)) then
      some false
    else
      chk (nI (v4 + 1)) <|
      back (v4 + 1)
  else
    k1 ()
def agraffebase_IsName (n : Nat) (a0 : Str) : Option Bool :=
  chk (!(!((decide (a0.length = 0)) || (decide (12 < a0.length)))) || decide (0 < a0.length)) <|
  (gcall (!((decide (a0.length = 0)) || (decide (12 < a0.length)))) (agraffebase_isLetter n (((List.getD a0 0 0).toNat : Nat) : Int))).bind fun y1 =>
  bif ((decide (a0.length = 0)) || (decide (12 < a0.length))) || (!(((decide ((97 : Int) ≤ (((List.getD a0 0 0).toNat : Nat) : Int))) && (decide ((((List.getD a0 0 0).toNat : Nat) : Int) ≤ (122 : Int)))) || ((decide ((65 : Int) ≤ (((List.getD a0 0 0).toNat : Nat) : Int))) && (decide ((((List.getD a0 0 0).toNat : Nat) : Int) ≤ (90 : Int)))))) then
    some false
  else
    withK (fun (_ : Unit) =>
        some true) fun k1 =>
    loopN (agraffebase_IsName_L1 n a0 k1) n 0
def agraffebase_Within (n : Nat) (a0 : Int) (a1 : Int) (a2 : Int) : Option Unit :=
  some ()
def agraffelaw08_RestoreTells (n : Nat) (a0 : PartPromise) (a1 : Str) : Option Bool :=
  (agraffelaw08_awake n).bind fun y1 =>
  bif !y1 then
    some false
  else
    (agraffelaw08_promised n ([a0] : List PartPromise)).bind fun y2 =>
    bif (!y2) || (decide (100 < a1.length)) then
      some true
    else
      (restore_FormatPromise n a0).bind fun y3 =>
      (restore_ParsePromise n a1).bind fun y4 =>
      (agrafferef08_ParsePromise n a1).bind fun y5 =>
      (agrafferef08_FormatPromise n a0).bind fun y6 =>
      bif ((!(y3 == y6)) || (y4.2.2.2 != y5.2.2.2)) || (!((y4.1 == y5.1) && ((y4.2.1 == y5.2.1) && ((y4.2.2.1 == y5.2.2.1) && true)))) then
        some false
      else
        (agraffebase_IsName n a0.Instrument).bind fun y7 =>
        (gcall (!(!y7)) (agraffebase_IsName n a0.Part)).bind fun y8 =>
        (gcall (!((!y7) || (!y8))) (agraffebase_Within n a0.Count (-999999) 999999)).bind fun y9 =>
        bif ((!y7) || (!y8)) || (!((decide ((-999999) ≤ a0.Count)) && (decide (a0.Count ≤ 999999)))) then
          some true
        else
          (restore_ParsePromise n y3).bind fun y10 =>
          some ((y10.2.2.2 == (0 : Int)) && ((y10.1 == a0.Instrument) && ((y10.2.1 == a0.Part) && ((y10.2.2.1 == a0.Count) && true))))
end
section
set_option maxRecDepth 4000
open Go
theorem loopN_s {α β : Type} (F : (α → Option β) → α → Option β) (n : Nat) (t : α) : loopN F (n + 1) t = F (loopN F n) t := rfl
@[simp] theorem chk_t {α : Type} (k : Option α) : chk true k = k := rfl
@[simp] theorem withK_eq {α β : Type} (j : α → Option β) (f : (α → Option β) → Option β) : withK j f = f j := rfl
@[simp] theorem gcall_some_ {α : Type} [Inhabited α] (g : Bool) (x : α) : (gcall g (some x)) = some (bif g then x else default) := by cases g <;> rfl
theorem nI_of {n : Nat} (h : n ≤ 9223372036854775807) : nI n = true := by simp [nI, h]
theorem inI_of {n : Int} (h : -9223372036854775808 ≤ n) (h2 : n ≤ 9223372036854775807) : inI n = true := by simp [inI, h, h2]
theorem room_of {b n : Nat} (h : n * b ≤ 140737488355328) (h2 : n ≤ 9223372036854775807) : room b n = true := by simp [room, h, h2]
theorem inB_of {q : Int} {n : Nat} (h : 0 ≤ q) (h2 : q.toNat < n) : inB q n = true := by simp [inB, h, h2]
theorem drop_ix {α : Type} [Inhabited α] {l : List α} {v : Nat} (h : v < l.length) : l.drop v = ix l v :: l.drop (v + 1) := by
  rw [ix_eq h]; exact List.drop_eq_getElem_cons h
theorem drop_nil {α : Type} {l : List α} {v : Nat} (h : ¬ v < l.length) : l.drop v = [] := List.drop_eq_nil_of_le (by omega)
def isL (c : UInt8) : Bool := (decide ((97 : Int) ≤ ((c.toNat : Nat) : Int)) && decide (((c.toNat : Nat) : Int) ≤ (122 : Int))) || (decide ((65 : Int) ≤ ((c.toNat : Nat) : Int)) && decide (((c.toNat : Nat) : Int) ≤ (90 : Int)))
def isD (c : UInt8) : Bool := decide ((48 : Int) ≤ ((c.toNat : Nat) : Int)) && decide (((c.toNat : Nat) : Int) ≤ (57 : Int))
def okC (c : UInt8) : Bool := isL c || isD c || (((c.toNat : Nat) : Int) == (45 : Int))
def nameB (s : Str) : Bool := match s with
  | [] => false
  | c :: r => isL c && r.all okC && decide (r.length < 12)
end
section
set_option maxRecDepth 4000
open Go
theorem bne_t {x : Int} (h : ¬ x = 0) : (x != 0) = true := by simp [bne, h]
end
section
set_option maxRecDepth 4000
open Go
end
section
set_option maxRecDepth 4000
open Go
theorem joinL_one (x : List UInt8) (sep : List UInt8) : joinL [x] sep = x := Lib.join_one x sep
theorem joinL_cons (x y : List UInt8) (r : List (List UInt8)) (sep : List UInt8) : joinL (x :: y :: r) sep = x ++ sep ++ joinL (y :: r) sep := by
  rw [joinL, joinL, Lib.join_cons, Lib.join_cons]
  simp [Lib.joinTail]
theorem split_app (c : UInt8) (l : List UInt8) : ∀ x : List UInt8, c ∉ x → splitL c (x ++ c :: l) = x :: splitL c l
  | [], _ => by simp [splitL]
  | b :: x, h => by
    have hb : (b == c) = false := by simp; rintro rfl; simp at h
    have h2 : c ∉ x := fun e => h (by simp [e])
    rw [List.cons_append, splitL, hb, cond_false, split_app c l x h2]
theorem split_one (c : UInt8) : ∀ x : List UInt8, c ∉ x → splitL c x = [x]
  | [], _ => rfl
  | b :: x, h => by
    have hb : (b == c) = false := by simp; rintro rfl; simp at h
    have h2 : c ∉ x := fun e => h (by simp [e])
    rw [splitL, hb, cond_false, split_one c x h2]
theorem split_join (c : UInt8) : ∀ l : List (List UInt8), l ≠ [] → (∀ x ∈ l, c ∉ x) → splitL c (joinL l [c]) = l
  | [], h, _ => absurd rfl h
  | [x], _, h => by rw [joinL_one, split_one c x (h x (by simp))]
  | x :: y :: r, _, h => by
    rw [joinL_cons, List.append_assoc, List.singleton_append, split_app c _ x (h x (by simp)), split_join c (y :: r) (by simp) (fun z hz => h z (by simp [hz]))]
theorem dig_val (d : Nat) (h : d < 10) : (UInt8.ofNat (48 + d)).toNat = 48 + d := by
  rw [UInt8.toNat_ofNat_of_lt']
  show 48 + d < 256
  omega
theorem decFrom_snoc : ∀ (l : List UInt8) (acc m d : Nat), d < 10 → Lib.decFrom acc l = some m → Lib.decFrom acc (l ++ [UInt8.ofNat (48 + d)]) = some (m * 10 + d)
  | [], acc, m, d, hd, h => by
    simp only [Lib.decFrom, Option.some.injEq] at h
    subst h
    have := dig_val d hd
    simp only [List.nil_append, Lib.decFrom, Lib.digitVal]
    rw [this, if_pos (by omega)]
    simp
  | c :: l, acc, m, d, hd, h => by
    rw [List.cons_append]
    rw [Lib.decFrom] at h ⊢
    cases hc : Lib.digitVal c with
    | none => rw [hc] at h; cases h
    | some q => rw [hc] at h; exact decFrom_snoc l _ m d hd h
theorem decFrom_digits : ∀ u, Lib.decFrom 0 (Lib.decDigits u) = some u := fun u => by
  induction u using Nat.strongRecOn with
  | _ u ih =>
    rw [Lib.decDigits]
    split
    · rename_i h
      have := decFrom_snoc [] 0 0 u h rfl
      simpa using this
    · rename_i h
      have := decFrom_snoc _ 0 _ (u % 10) (Nat.mod_lt _ (by decide)) (ih (u / 10) (by omega))
      rw [this]; congr 1; omega
theorem decDigits_ne (u : Nat) : Lib.decDigits u ≠ [] := by
  intro h
  have := Lib.decDigits_length u
  rw [h] at this
  have := Lib.nDigits_pos u
  simp at *
  omega
theorem decDigits_dig (u : Nat) : ∀ b ∈ Lib.decDigits u, 48 ≤ b.toNat ∧ b.toNat ≤ 57 := by
  induction u using Nat.strongRecOn with
  | _ u ih =>
    intro b hb
    rw [Lib.decDigits] at hb
    split at hb
    · rename_i h
      rw [List.mem_singleton] at hb
      rw [hb, dig_val u h]; omega
    · rcases List.mem_append.1 hb with hb | hb
      · exact ih (u / 10) (by omega) b hb
      · rw [List.mem_singleton] at hb
        have h := Nat.mod_lt u (show 0 < 10 by decide)
        rw [hb, dig_val _ h]; omega
end
section
set_option maxRecDepth 4000
open Go
def magL (s : List UInt8) : List UInt8 := match s with
  | [] => []
  | b :: r => bif b == 45 then r else b :: r
def negL (s : List UInt8) : Bool := match s with
  | [] => false
  | b :: _ => b == 45
def numR (d : Nat) (s : List UInt8) : Int × Bool :=
  bif (magL s).isEmpty || decide (d < (magL s).length) then (0, false) else match Lib.decFrom 0 (magL s) with
    | none => (0, false)
    | some m => (bif negL s then -(m : Int) else (m : Int), itoaL (bif negL s then -(m : Int) else (m : Int)) == s)
def numP (d : Nat) (s : List UInt8) : Int × Bool := ((atoiL s).1, ((atoiL s).2 && (itoaL (atoiL s).1 == s)) && decide ((magL s).length ≤ d))
theorem atoiL_short {s : List UInt8} (h : s.length ≤ 18) : atoiL s = match Lib.atoi s with | some v => (v, true) | none => (0, false) := by
  rw [atoiL, Lib.atoiAll_short s h]
  cases Lib.atoi s <;> rfl
theorem magL_len (s : List UInt8) : s.length ≤ (magL s).length + 1 := by
  cases s with
  | nil => simp
  | cons b r =>
    simp only [magL]
    cases b == 45 <;> simp
theorem itoaL_head (v : Int) : ∃ b r, itoaL v = b :: r ∧ b ≠ 43 := by
  unfold itoaL Lib.itoa
  split
  · exact ⟨45, _, rfl, by decide⟩
  · cases h : Lib.decDigits v.toNat with
    | nil => exact absurd h (decDigits_ne _)
    | cons b r =>
      refine ⟨b, r, rfl, fun e => ?_⟩
      have := decDigits_dig v.toNat b (by simp [h])
      rw [e] at this
      simp at this
theorem num_eq {d : Nat} (hd10 : d ≤ 10) (s : List UInt8) : (numP d s).2 = (numR d s).2 ∧ ((numR d s).2 = true → (numP d s).1 = (numR d s).1) := by
  by_cases hl : (magL s).length ≤ d
  · have hs : s.length ≤ 18 := by have := magL_len s; omega
    unfold numP numR
    rw [atoiL_short hs, decide_eq_true hl, Bool.and_true, decide_eq_false (by omega : ¬ d < (magL s).length), Bool.or_false]
    cases s with
    | nil => simp [Lib.atoi, magL]
    | cons b r =>
      by_cases hb : b = 45
      · subst hb
        simp only [Lib.atoi, magL, negL, beq_self_eq_true, cond_true, if_true]
        cases r with
        | nil => simp [Lib.decNat]
        | cons c r =>
          simp only [Lib.decNat, List.isEmpty_cons, Bool.false_eq_true, if_false, cond_false]
          cases Lib.decFrom 0 (c :: r) <;> simp
      · have h1 : (b == 45) = false := by simp [hb]
        simp only [Lib.atoi, magL, negL, h1, cond_false, List.isEmpty_cons]
        by_cases hc : b = 43
        · subst hc
          have hd : Lib.decFrom 0 (43 :: r) = none := by
            rw [Lib.decFrom]; rfl
          rw [hd]
          simp only [Bool.false_eq_true, if_false]
          refine ⟨?_, fun h => by cases h⟩
          cases hq : Lib.decNat r with
          | none => simp
          | some m =>
            simp only [beq_self_eq_true, if_true, Option.map_some, Bool.true_and]
            obtain ⟨b, r', e, hne⟩ := itoaL_head (m : Int)
            rw [e]
            simp [hne]
        · have h2 : (b == 43) = false := by simp [hc]
          simp only [h2, Bool.false_eq_true, if_false, Lib.decNat, List.isEmpty_cons]
          cases Lib.decFrom 0 (b :: r) <;> simp
  · unfold numP numR
    rw [decide_eq_false hl, Bool.and_false, decide_eq_true (by omega : d < (magL s).length), Bool.or_true, cond_true]
    exact ⟨rfl, fun h => by cases h⟩
theorem itoaL_mag (v : Int) : magL (itoaL v) = Lib.decDigits v.natAbs ∧ negL (itoaL v) = decide (v < 0) := by
  unfold itoaL Lib.itoa
  split
  · rename_i h
    exact ⟨rfl, by simp [negL, h]⟩
  · rename_i h
    have e : v.toNat = v.natAbs := by omega
    rw [e]
    cases hd : Lib.decDigits v.natAbs with
    | nil => exact absurd hd (decDigits_ne _)
    | cons b r =>
      have := decDigits_dig v.natAbs b (by simp [hd])
      have hb : (b == 45) = false := by
        simp
        rintro rfl
        simp at this
      simp [magL, negL, hb, h]
theorem nDigits_le {d u : Nat} (hd1 : 1 ≤ d) (h : u < 10 ^ d) : Lib.nDigits u ≤ d := by
  rcases Nat.lt_or_ge u 1 with h0 | h0
  · have : u = 0 := by omega
    subst this
    rw [Lib.nDigits_small (by decide)]; omega
  · have h1 := Lib.nDigits_pos u
    rcases Nat.lt_or_ge (Lib.nDigits u) (d + 1) with h3 | h3
    · omega
    · have key : ∀ k u, 1 ≤ u → Lib.nDigits u = k + 1 → 10 ^ k ≤ u := by
        intro k
        induction k with
        | zero => intro u hu _; simpa using hu
        | succ k ih =>
          intro u hu hk
          rcases Nat.lt_or_ge u 10 with h | h
          · rw [Lib.nDigits_small h] at hk; omega
          · rw [Lib.nDigits_big (by omega)] at hk
            have := ih (u / 10) (by omega) (by omega)
            rw [Nat.pow_succ]
            omega
      have := key (Lib.nDigits u - 1) u h0 (by omega)
      have hp : 10 ^ d ≤ 10 ^ (Lib.nDigits u - 1) := Nat.pow_le_pow_right (by decide) (by omega)
      omega
theorem num_itoa {d : Nat} (hd1 : 1 ≤ d) {v : Int} (h : v.natAbs < 10 ^ d) : numR d (itoaL v) = (v, true) := by
  obtain ⟨h1, h2⟩ := itoaL_mag v
  unfold numR
  rw [h1, h2]
  have h3 := decDigits_ne v.natAbs
  have h4 : (Lib.decDigits v.natAbs).length ≤ d := by rw [Lib.decDigits_length]; exact nDigits_le hd1 h
  have h5 : (Lib.decDigits v.natAbs).isEmpty = false := by
    cases hd : Lib.decDigits v.natAbs with
    | nil => exact absurd hd h3
    | cons _ _ => rfl
  rw [h5, decide_eq_false (by omega), Bool.or_false, cond_false, decFrom_digits]
  have e : (bif decide (v < 0) then -((v.natAbs : Nat) : Int) else ((v.natAbs : Nat) : Int)) = v := by
    by_cases hv : v < 0
    · rw [decide_eq_true hv, cond_true]; omega
    · rw [decide_eq_false hv, cond_false]; omega
  simp only [e]
  simp
end
section
set_option maxRecDepth 4000
open Go
variable {n : Nat}
theorem Abs_eq {x : Int} (h : inI (-x) = true) : agraffebase_Abs n x = some ((x.natAbs : Nat) : Int) := by
  rw [agraffebase_Abs]
  by_cases hx : x < 0
  · rw [decide_eq_true hx, cond_true, h, chk_t]; congr 1; omega
  · rw [decide_eq_false hx, cond_false]; congr 1; omega
theorem dec_step {v : Int} (h : v ≠ 0) (acc : Str) : ([UInt8.ofNat (Int.toNat (IntKind.u8.wrap (48 + ((Int.tmod v 10).natAbs : Int))))] : Str) ++ acc = UInt8.ofNat (48 + v.natAbs % 10) :: acc := by
  have e : (Int.tmod v 10).natAbs = v.natAbs % 10 := by rw [Int.natAbs_tmod]; rfl
  have hlt : v.natAbs % 10 < 10 := Nat.mod_lt _ (by decide)
  have w : IntKind.u8.wrap (48 + ((v.natAbs % 10 : Nat) : Int)) = ((48 + v.natAbs % 10 : Nat) : Int) := by
    have e2 : (48 + ((v.natAbs % 10 : Nat) : Int)) = ((48 + v.natAbs % 10 : Nat) : Int) := by omega
    rw [e2]
    unfold IntKind.wrap
    simp [IntKind.bits, IntKind.signed]
    omega
  rw [e, w, Int.toNat_natCast]
  rfl
theorem Decimal_loop (k : Str → Option Str) : ∀ (f : Nat) (acc : Str) (v : Int), v.natAbs < 10 ^ f → acc.length + f ≤ 100000 → inI v = true →
    loopN (agraffebase_Decimal_L1 n k) (f + 1) (acc, v) = k (if v = 0 then acc else Lib.decDigits v.natAbs ++ acc)
  | f, acc, v, h1, h2, h3 => by
    have hr : -9223372036854775808 ≤ v ∧ v ≤ 9223372036854775807 := by simpa [inI] using h3
    rw [loopN_s, agraffebase_Decimal_L1]
    by_cases hv : v = 0
    · subst hv
      simp
    · have e : (v.tmod 10).natAbs = v.natAbs % 10 := by rw [Int.natAbs_tmod]; rfl
      have hlt : v.natAbs % 10 < 10 := Nat.mod_lt _ (by decide)
      have hd : (v.tdiv 10).natAbs = v.natAbs / 10 := by rw [Int.natAbs_tdiv]; rfl
      have i1 : inI (-(v.tmod 10)) = true := inI_of (by omega) (by omega)
      have i2 : inI (v.tdiv 10) = true := inI_of (by omega) (by omega)
      rw [bne_t hv, cond_true]
      simp only [Abs_eq i1, Option.bind_some]
      rw [dec_step hv acc, if_neg hv]
      have i3 : inI (48 + ((v.tmod 10).natAbs : Int)) = true := inI_of (by omega) (by omega)
      have hf : 1 ≤ f := by
        rcases Nat.eq_zero_or_pos f with rfl | h
        · simp at h1; omega
        · exact h
      obtain ⟨g, rfl⟩ : ∃ g, f = g + 1 := ⟨f - 1, by omega⟩
      simp only [i3, i2, nI_of (by simp; omega : (UInt8.ofNat (48 + v.natAbs % 10) :: acc).length ≤ 9223372036854775807), chk_t, bne_self_eq_false, Bool.and_true]
      have hp : (v.tdiv 10).natAbs < 10 ^ g := by
        rw [hd, Nat.div_lt_iff_lt_mul (by decide)]
        rwa [Nat.pow_succ] at h1
      have ih := Decimal_loop k g (UInt8.ofNat (48 + v.natAbs % 10) :: acc) (v.tdiv 10) hp (by simp; omega) i2
      have h10n : ((10 : Nat) != 0) = true := rfl
      rw [h10n, chk_t, chk_t]
      rw [ih, hd]
      congr 1
      by_cases hz : v.tdiv 10 = 0
      · rw [if_pos hz]
        have : v.natAbs / 10 = 0 := by rw [← hd, hz]; rfl
        have h10 : v.natAbs < 10 := by omega
        rw [Lib.decDigits_one h10, Nat.mod_eq_of_lt h10]; rfl
      · rw [if_neg hz]
        have h10 : ¬ v.natAbs < 10 := fun h => hz (by
          have : (v.tdiv 10).natAbs = 0 := by rw [hd]; omega
          omega)
        conv => rhs; rw [Lib.decDigits, dif_neg h10]
        simp
theorem Decimal_eq {v : Int} (h : inI v = true) (hn : 100 ≤ n) (hn2 : n ≤ 90000) : agraffebase_Decimal n v = some (itoaL v) := by
  have hr : -9223372036854775808 ≤ v ∧ v ≤ 9223372036854775807 := by simpa [inI] using h
  rw [agraffebase_Decimal]
  by_cases hv : v = 0
  · subst hv
    have : itoaL 0 = [48] := by
      unfold itoaL Lib.itoa
      rw [if_neg (by decide)]
      exact Lib.decDigits_one (by decide)
    rw [this]; rfl
  · have hb : (v == 0) = false := by simp [hv]
    rw [hb, cond_false, withK_eq]
    obtain ⟨f, rfl⟩ : ∃ f, n = f + 1 := ⟨n - 1, by omega⟩
    have hp : v.natAbs < 10 ^ f := by
      have h1 : 10 ^ 20 ≤ 10 ^ f := Nat.pow_le_pow_right (by decide) (by omega)
      omega
    rw [Decimal_loop _ f [] v hp (by simp; omega) h, if_neg hv, List.append_nil]
    have hl := Lib.itoa_length_le v hr.1 hr.2
    unfold itoaL
    unfold Lib.itoa at hl ⊢
    by_cases hneg : v < 0
    · rw [if_pos hneg] at hl ⊢
      rw [decide_eq_true hneg, cond_true, nI_of (by simpa using (by simp at hl; omega : (Lib.decDigits v.natAbs).length + 1 ≤ 9223372036854775807)), chk_t]
      rfl
    · rw [if_neg hneg, decide_eq_false hneg, cond_false]
      have : v.toNat = v.natAbs := by omega
      rw [this]
end
section
set_option maxRecDepth 4000
open Go
variable {n : Nat}
theorem u8_sub {b : Nat} (h1 : 48 ≤ b) (h2 : b ≤ 57) : IntKind.u8.wrap (((b : Nat) : Int) - 48) = ((b - 48 : Nat) : Int) := by
  unfold IntKind.wrap
  simp [IntKind.bits, IntKind.signed]
  omega
theorem Number_loop (s : Str) (hs : s.length ≤ 100) (k : Int → Option (Int × Bool)) : ∀ (m j f acc e : Nat), j + m = s.length → m < f → acc < 10 ^ e → e + m ≤ 12 →
    loopN (agraffebase_Number_L1 n s k) f ((acc : Int), (j : Int)) = match Lib.decFrom acc (s.drop j) with | none => some (0, false) | some q => k (q : Int)
  | 0, j, f, acc, e, hj, hf, ha, he => by
    obtain ⟨f, rfl⟩ : ∃ q, f = q + 1 := ⟨f - 1, by omega⟩
    rw [loopN_s, agraffebase_Number_L1, decide_eq_false (by omega : ¬ ((j : Nat) : Int) < ((s.length : Nat) : Int)), List.drop_eq_nil_of_le (by omega)]
    rfl
  | m + 1, j, f, acc, e, hj, hf, ha, he => by
    obtain ⟨f, rfl⟩ : ∃ q, f = q + 1 := ⟨f - 1, by omega⟩
    have hlt : j < s.length := by omega
    have hd : s.drop j = s[j] :: s.drop (j + 1) := List.drop_eq_getElem_cons hlt
    have hg : List.getD s ((j : Nat) : Int).toNat 0 = s[j] := by simp [List.getD, hlt]
    have hib : inB ((j : Nat) : Int) s.length = true := inB_of (by omega) (by omega)
    have hp : (10 : Nat) ^ e ≤ 10 ^ 11 := Nat.pow_le_pow_right (by decide) (by omega)
    rw [loopN_s, agraffebase_Number_L1, decide_eq_true (by omega : ((j : Nat) : Int) < ((s.length : Nat) : Int)), hg, hd, Lib.decFrom]
    simp only [cond_true, hib, chk_t, agraffebase_isDigit, Option.bind_some]
    by_cases hb : 48 ≤ s[j].toNat ∧ s[j].toNat ≤ 57
    · have hv : Lib.digitVal s[j] = some (s[j].toNat - 48) := by rw [Lib.digitVal, if_pos hb]
      rw [hv, u8_sub hb.1 hb.2]
      have c1 : decide ((48 : Int) ≤ ((s[j].toNat : Nat) : Int)) = true := decide_eq_true (by omega)
      have c2 : decide (((s[j].toNat : Nat) : Int) ≤ (57 : Int)) = true := decide_eq_true (by omega)
      have i1 : inI (10 * ((acc : Nat) : Int)) = true := inI_of (by omega) (by omega)
      have i2 : inI ((s[j].toNat - 48 : Nat) : Int) = true := inI_of (by omega) (by omega)
      have i3 : inI (10 * ((acc : Nat) : Int) + ((s[j].toNat - 48 : Nat) : Int)) = true := inI_of (by omega) (by omega)
      have i4 : inI (((j : Nat) : Int) + 1) = true := inI_of (by omega) (by omega)
      simp only [c1, c2, Bool.and_self, Bool.not_true, cond_false, i1, i2, i3, i4, chk_t]
      have e1 : 10 * ((acc : Nat) : Int) + ((s[j].toNat - 48 : Nat) : Int) = ((acc * 10 + (s[j].toNat - 48) : Nat) : Int) := by omega
      have e2 : ((j : Nat) : Int) + 1 = ((j + 1 : Nat) : Int) := by omega
      rw [e1, e2]
      exact Number_loop s hs k m (j + 1) f (acc * 10 + (s[j].toNat - 48)) (e + 1) (by omega) (by omega) (by rw [Nat.pow_succ]; omega) (by omega)
    · have hv : Lib.digitVal s[j] = none := by rw [Lib.digitVal, if_neg hb]
      rw [hv]
      have : ((decide ((48 : Int) ≤ ((s[j].toNat : Nat) : Int))) && (decide (((s[j].toNat : Nat) : Int) ≤ (57 : Int)))) = false := by
        rw [Bool.and_eq_false_iff]
        by_cases h : 48 ≤ s[j].toNat
        · exact .inr (decide_eq_false (by omega))
        · exact .inl (decide_eq_false (by omega))
      rw [this]
      rfl
theorem Number_eq {d : Nat} (hd10 : d ≤ 10) (s : Str) (hn : 200 ≤ n) (hn2 : n ≤ 90000) (hl : s.length ≤ 9223372036854775000) : agraffebase_Number n s ((d : Nat) : Int) = some (numR d s) := by
  have key : ∀ (b : Bool) (j : Nat), (bif b then 1 else 0) = j → negL s = b → s.drop j = magL s → j ≤ s.length →
      (chk (!(!(((s.length : Nat) : Int) == (j : Int))) || inI ((j : Int) + (d : Int))) <|
      bif ((((s.length : Nat) : Int) == (j : Int)) || (decide (((j : Int) + (d : Int)) < ((s.length : Nat) : Int)))) || (decide ((18 : Int) < (d : Int))) then
        some (0, false)
      else
        loopN (agraffebase_Number_L1 n s fun v6 => bif ((j : Int) == (1 : Int)) then chk (inI (-v6)) <| (agraffebase_Decimal n (-v6)).bind fun y8 => some (-v6, (y8 == s)) else (agraffebase_Decimal n v6).bind fun y8 => some (v6, (y8 == s))) n (0, (j : Int))) = some (numR d s) := by
    intro b j hj hneg hm hle
    have hj1 : j ≤ 1 := by cases b <;> simp at hj <;> omega
    have hlen : (magL s).length = s.length - j := by rw [← hm]; simp
    have i1 : inI ((j : Int) + (d : Int)) = true := inI_of (by omega) (by omega)
    rw [i1, Bool.or_true, chk_t, numR]
    have e0 : (magL s).isEmpty = (((s.length : Nat) : Int) == (j : Int)) := by
      by_cases h : s.length = j
      · have : magL s = [] := List.eq_nil_of_length_eq_zero (by omega)
        rw [this, h]; simp
      · have h1 : magL s ≠ [] := fun e => by rw [e] at hlen; simp at hlen; omega
        have h2 : (((s.length : Nat) : Int) == (j : Int)) = false := by simp; omega
        rw [h2]
        cases hm2 : magL s with
        | nil => exact absurd hm2 h1
        | cons _ _ => rfl
    have e1 : decide (d < (magL s).length) = decide (((j : Int) + (d : Int)) < ((s.length : Nat) : Int)) := by
      rw [hlen]
      by_cases h : d < s.length - j
      · rw [decide_eq_true h, decide_eq_true (by omega)]
      · rw [decide_eq_false h, decide_eq_false (by omega)]
    rw [e0, e1, decide_eq_false (by omega : ¬ (18 : Int) < (d : Int)), Bool.or_false]
    cases hc : ((((s.length : Nat) : Int) == (j : Int)) || (decide (((j : Int) + (d : Int)) < ((s.length : Nat) : Int)))) with
    | true => rfl
    | false =>
      rw [Bool.or_eq_false_iff, decide_eq_false_iff_not] at hc
      simp only [cond_false]
      have hlp := Number_loop (n := n) s (by omega) (fun v6 => bif ((j : Int) == (1 : Int)) then chk (inI (-v6)) <| (agraffebase_Decimal n (-v6)).bind fun y8 => some (-v6, (y8 == s)) else (agraffebase_Decimal n v6).bind fun y8 => some (v6, (y8 == s)))
        (s.length - j) j n 0 0 (by omega) (by omega) (by decide) (by omega)
      rw [hm] at hlp
      refine hlp.trans ?_
      cases hd : Lib.decFrom 0 (magL s) with
      | none => rfl
      | some m =>
        simp only
        have h1 := Lib.decFrom_lt _ _ _ hd
        have h2 : 10 ^ (magL s).length ≤ 10 ^ 10 := Nat.pow_le_pow_right (by decide) (by omega)
        have h3 : m < 10000000000 := by
          have : (0 + 1) * 10 ^ (magL s).length ≤ 10000000000 := by omega
          omega
        rw [hneg]
        cases b with
        | true =>
          have : j = 1 := hj.symm
          subst this
          have i2 : inI (-((m : Nat) : Int)) = true := inI_of (by omega) (by omega)
          have e3 : (((1 : Nat) : Int) == (1 : Int)) = true := by decide
          simp only [e3, cond_true, i2, chk_t, Decimal_eq i2 (by omega : 100 ≤ n) hn2, Option.bind_some]
        | false =>
          have : j = 0 := hj.symm
          subst this
          have i2 : inI ((m : Nat) : Int) = true := inI_of (by omega) (by omega)
          have e3 : (((0 : Nat) : Int) == (1 : Int)) = false := by decide
          simp only [e3, cond_false, Decimal_eq i2 (by omega : 100 ≤ n) hn2, Option.bind_some]
  rw [agraffebase_Number]
  simp only [withK_eq]
  cases s with
  | nil => exact key false 0 rfl rfl rfl (by simp)
  | cons b r =>
    by_cases hb : b = 45
    · subst hb
      exact key true 1 rfl (by simp [negL]) (by simp [magL]) (by simp)
    · have h1 : (b == 45) = false := by simp [hb]
      have h2 : ((((List.getD (b :: r) 0 0).toNat : Nat) : Int) == (45 : Int)) = false := by
        simp only [List.getD_cons_zero, beq_eq_false_iff_ne, ne_eq]
        intro e
        have : b.toNat = 45 := by omega
        exact hb (UInt8.toNat.inj this)
      rw [h2, Bool.and_false, cond_false]
      exact key false 0 rfl (by simp [negL, h1]) (by simp [magL, h1]) (by simp)
theorem number_eq {d : Nat} (s : Str) (hl : s.length ≤ 281474976710656) : restore_number n s ((d : Nat) : Int) = some (numP d s) := by
  have hat : strconv_Atoi n s = some (atoiL s) := by
    rw [strconv_Atoi, Nat.ble_eq_true_of_le hl, chk_t]
  have hin : (atoiL s).2 = true → inI (atoiL s).1 = true := by
    intro h
    unfold atoiL at h ⊢
    cases hs : Lib.atoiAll s with
    | ok v => have := Lib.atoiAll_bounds hs; exact inI_of this.1 this.2
    | range => rw [hs] at h; cases h
    | _ => rw [hs] at h; cases h
  have htr : strings_TrimPrefix n s ([45] : Str) = some (magL s) := by
    rw [strings_TrimPrefix, internal_stringslite_TrimPrefix, internal_stringslite_HasPrefix]
    cases s with
    | nil => rfl
    | cons b r =>
      show ((bif (decide (1 ≤ r.length + 1) && (([b] : Str) == [45])) then chk (decide (1 ≤ r.length + 1)) (some r) else some (b :: r)).bind fun y1 => some y1) = some (bif b == 45 then r else b :: r)
      rw [decide_eq_true (by omega : 1 ≤ r.length + 1)]
      by_cases hb : b = 45
      · subst hb; rfl
      · have h1 : (b == 45) = false := by simp [hb]
        have h2 : (([b] : Str) == [45]) = false := by simp [hb]
        rw [h1, h2]; rfl
  have hq : decide ((((magL s).length : Nat) : Int) ≤ ((d : Nat) : Int)) = decide ((magL s).length ≤ d) := by simp only [Int.ofNat_le]
  rw [restore_number, hat, numP]
  simp only [Option.bind_some]
  cases h : (atoiL s).2 with
  | false => rfl
  | true =>
    simp only [gcall, cond_true, strconv_Itoa, hin h, chk_t, Option.bind_some, Bool.true_and]
    cases h2 : itoaL (atoiL s).1 == s with
    | false => rfl
    | true => simp only [cond_true, htr, Option.bind_some, hq]
theorem Cut_loop (s : Str) (hs : s.length ≤ 100000) (c : UInt8) (k : List Str → Option (List Str)) : ∀ (m i f : Nat) (out : List Str) (frm : Nat), i + m = s.length → m + 2 ≤ f → frm ≤ i → out.length ≤ i → c ∉ (s.drop frm).take (i - frm) →
    loopN (agraffebase_Cut_L1 s (c.toNat : Int) k) f (out, frm, i) = k (out ++ splitL c (s.drop frm))
  | m, i, f, out, frm, hi, hf, hfr, ho, hc => by
    obtain ⟨f, rfl⟩ : ∃ q, f = q + 1 := ⟨f - 1, by omega⟩
    have hnI : nI (i + 1) = true := nI_of (by omega)
    have hroom : ∀ x : Str, room 16 (out ++ ([x] : List Str)).length = true := fun x => room_of (by simp; omega) (by simp; omega)
    rw [loopN_s, agraffebase_Cut_L1, decide_eq_true (by omega : i ≤ s.length), cond_true, withK_eq]
    by_cases he : i = s.length
    · have hend : loopN (agraffebase_Cut_L1 s (c.toNat : Int) k) f (out ++ [(s.drop frm).take (i - frm)], i + 1, i + 1) = k (out ++ [(s.drop frm).take (i - frm)]) := by
        obtain ⟨f, rfl⟩ : ∃ q, f = q + 1 := ⟨f - 1, by omega⟩
        rw [loopN_s, agraffebase_Cut_L1, decide_eq_false (by omega : ¬ i + 1 ≤ s.length)]; rfl
      rw [decide_eq_true he]
      simp only [Bool.not_true, Bool.not_false, Bool.true_or, Bool.or_true, chk_t, cond_true, hroom, hnI, decide_eq_true hfr, hend]
      have ht : (s.drop frm).take (i - frm) = s.drop frm := List.take_of_length_le (by simp; omega)
      rw [ht] at hc ⊢
      rw [split_one c _ hc]
    · have hlt : i < s.length := by omega
      obtain ⟨m, rfl⟩ : ∃ q, m = q + 1 := ⟨m - 1, by omega⟩
      have hg : List.getD s i 0 = s[i] := by simp [List.getD, hlt]
      have hcut : s.drop frm = (s.drop frm).take (i - frm) ++ s[i] :: s.drop (i + 1) := by
        have h1 := (List.take_append_drop (i - frm) (s.drop frm)).symm
        rw [List.drop_drop, Nat.add_sub_cancel' hfr] at h1
        rw [← List.drop_eq_getElem_cons hlt]; exact h1
      rw [decide_eq_false he, decide_eq_true hlt, hg]
      simp only [Bool.not_true, Bool.not_false, Bool.false_or, Bool.or_true, chk_t]
      by_cases hb : s[i] = c
      · have h1 : ((((s[i]).toNat : Nat) : Int) == (c.toNat : Int)) = true := by rw [hb]; simp
        rw [h1]
        simp only [cond_true, hroom, hnI, chk_t, decide_eq_true hfr]
        rw [Cut_loop s hs c k m (i + 1) f _ (i + 1) (by omega) (by omega) (Nat.le_refl _) (by simp; omega) (by simp)]
        congr 1
        conv => rhs; rw [hcut, hb, split_app c _ _ hc]
        simp
      · have h1 : ((((s[i]).toNat : Nat) : Int) == (c.toNat : Int)) = false := by
          simp only [beq_eq_false_iff_ne, ne_eq]
          intro e
          exact hb (UInt8.toNat.inj (by omega))
        rw [h1]
        simp only [cond_false, hnI, chk_t]
        refine Cut_loop s hs c k m (i + 1) f out frm (by omega) (by omega) (by omega) (by omega) ?_
        have e : (s.drop frm).take (i + 1 - frm) = (s.drop frm).take (i - frm) ++ [s[i]] := by
          have h2 : i + 1 - frm = (i - frm) + 1 := by omega
          rw [h2, List.take_succ_eq_append_getElem (by simp; omega)]
          congr 2
          simp only [List.getElem_drop]
          congr 1; omega
        rw [e]
        intro hm
        rcases List.mem_append.1 hm with h | h
        · exact hc h
        · rw [List.mem_singleton] at h; exact hb h.symm
theorem Cut_eq (s : Str) (hs : s.length ≤ 1000) (hn : 1100 ≤ n) : agraffebase_Cut n s 32 = some (splitL 32 s) := by
  rw [agraffebase_Cut, withK_eq]
  have := Cut_loop s (by omega) 32 (fun v8 => some v8) s.length 0 n [] 0 (by omega) (by omega) (Nat.le_refl _) (by simp) (by simp)
  simpa using this
end
section
set_option maxRecDepth 4000
open Go
theorem getD_ix (s : Str) (v : Nat) : List.getD s v 0 = ix s v := by
  simp only [ix, List.getD]; rfl
theorem IsName_loop (s : Str) (n0 : Nat) (k : Unit → Option Bool) : ∀ (n v : Nat), s.length - v < n → s.length < 9223372036854775807 → loopN (agraffebase_IsName_L1 n0 s k) n v = bif (s.drop v).all okC then k () else some false := by
  intro n
  induction n with
  | zero => intro v h; omega
  | succ n ih =>
    intro v hn hl
    rw [loopN_s, agraffebase_IsName_L1]
    by_cases h : v < s.length
    · rw [drop_ix h]
      simp only [h, decide_true, cond_true, agraffebase_isLetter, agraffebase_isDigit, gcall_some_, Option.bind_some, getD_ix, List.all_cons, nI_of (by omega : v + 1 ≤ 9223372036854775807), chk_t]
      rw [ih (v + 1) (by omega) hl]
      show (bif ((!isL (ix s v)) && (!isD (ix s v))) && ((((ix s v).toNat : Nat) : Int) != (45 : Int)) then _ else _) = _
      simp only [okC]
      cases isL (ix s v) <;> cases isD (ix s v) <;> cases hh : (((((ix s v).toNat : Nat) : Int)) == (45 : Int)) <;> simp [bne, hh]
    · rw [drop_nil h]
      simp [h]
theorem IsName_eq (s : Str) (n : Nat) (hn : s.length + 1 < n) (hl : s.length < 9223372036854775807) : agraffebase_IsName n s = some (nameB s) := by
  rw [agraffebase_IsName]
  simp only [agraffebase_isLetter, gcall_some_, Option.bind_some, getD_ix, withK_eq]
  rw [IsName_loop _ _ _ _ _ (by omega) hl]
  cases s with
  | nil => simp [nameB]
  | cons c r =>
    have h0 : ¬ (c :: r).length = 0 := by simp
    have h1 : 0 < (c :: r).length := by simp
    have hix : ix (c :: r) 0 = c := rfl
    simp only [h0, h1, decide_true, decide_false, Bool.false_or, Bool.or_true, chk_t, hix, List.drop_zero]
    show (bif (decide (12 < (c :: r).length)) || (!isL c) then _ else _) = _
    simp only [nameB, List.all_cons, okC, List.length_cons]
    by_cases hlen : r.length < 12
    · have : ¬ 12 < r.length + 1 := by omega
      cases hL : isL c <;> cases hA : r.all okC <;> simp [this, hlen, hA]
    · have : 12 < r.length + 1 := by omega
      simp [this, hlen]
theorem inI_w {n : Int} (h : IntKind.i64.min ≤ n ∧ n ≤ IntKind.i64.max) : inI n = true := inI_of h.1 h.2
theorem itoa_noblank (v : Int) : (32 : UInt8) ∉ itoaL v := by
  unfold itoaL Lib.itoa
  split
  · intro h
    rcases List.mem_cons.1 h with h | h
    · exact absurd h (by decide)
    · have := decDigits_dig _ _ h
      simp at this
  · intro h
    have := decDigits_dig _ _ h
    simp at this
theorem name_noblank {s : Str} (h : nameB s = true) : (32 : UInt8) ∉ s := by
  have h32 : okC 32 = false := by decide
  have hl32 : isL 32 = false := by decide
  cases s with
  | nil => simp
  | cons c r =>
    simp only [nameB, Bool.and_eq_true, List.all_eq_true] at h
    intro hm
    rcases List.mem_cons.1 hm with e | hm
    · rw [← e, hl32] at h; exact absurd h.1.1 (by simp)
    · have := h.1.2 _ hm
      rw [h32] at this; cases this
theorem split_len (c : UInt8) : ∀ s, ∀ x ∈ splitL c s, x.length ≤ s.length
  | [], x, h => by simp [splitL] at h; subst h; simp
  | b :: l, x, h => by
    have ih := split_len c l
    rw [splitL] at h
    cases hb : b == c with
    | true =>
      rw [hb, cond_true] at h
      rcases List.mem_cons.1 h with rfl | h
      · simp
      · have := ih x h; simp; omega
    | false =>
      rw [hb, cond_false] at h
      cases hs : splitL c l with
      | nil => rw [hs] at h; simp at h; subst h; simp
      | cons y r =>
        rw [hs] at h ih
        simp only at h
        rcases List.mem_cons.1 h with rfl | h
        · have := ih y (by simp); simp; omega
        · have := ih x (by simp [h]); simp; omega
variable {n : Nat}
theorem itoa_len {v : Int} (h : inI v = true) : (itoaL v).length ≤ 21 := by
  have hr : -9223372036854775808 ≤ v ∧ v ≤ 9223372036854775807 := by simpa [inI] using h
  exact Lib.itoa_length_le v hr.1 hr.2
theorem joinL_len (c : UInt8) (B : Nat) : ∀ l : List Str, (∀ x ∈ l, x.length ≤ B) → (joinL l [c]).length ≤ l.length * (B + 1)
  | [], _ => by rw [joinL, Lib.join_nil]; simp
  | [x], h => by rw [joinL_one]; have := h x (by simp); simp; omega
  | x :: y :: r, h => by
    have ih := joinL_len c B (y :: r) (fun z hz => h z (by simp [hz]))
    have h1 := h x (by simp)
    rw [joinL_cons]
    simp only [List.length_append, List.length_cons, List.length_nil] at ih ⊢
    rw [Nat.add_mul] at ih ⊢
    rw [Nat.add_mul]
    omega
theorem itoa_ok {v : Int} (h : inI v = true) : strconv_Itoa n v = some (itoaL v) := by rw [strconv_Itoa, h, chk_t]
theorem join_ok (l : List Str) (h : l.length ≤ 10) (hx : ∀ x ∈ l, x.length ≤ 1000) : strings_Join n l [32] = some (joinL l [32]) := by
  have h1 := joinL_len 32 1000 l hx
  have h2 : l.length * (1000 + 1) ≤ 10 * (1000 + 1) := Nat.mul_le_mul_right _ h
  rw [strings_Join, Nat.ble_eq_true_of_le (by omega), Nat.ble_eq_true_of_le (by omega), chk_t, chk_t]
abbrev PP := Str × Str × Int × Int
def errP : PP := (([] : Str), ([] : Str), 0, 7)
def promW : List Str → PP
  | [a, b, c] => bif (numR 6 c).2 then (a, b, (numR 6 c).1, 0) else errP
  | _ => errP
theorem ParseP_prog (s : Str) (hs : s.length ≤ 1000) : restore_ParsePromise n s = some (promW (splitL 32 s)) := by
  have hsp : strings_Split n s ([32] : Str) = some (splitL 32 s) := by
    rw [strings_Split, show Nat.blt s.length 4294967281 = true from Nat.ble_eq_true_of_le (by omega), chk_t]; rfl
  rw [restore_ParsePromise, hsp]
  simp only [Option.bind_some]
  have hlen := split_len 32 s
  generalize splitL 32 s = w at hlen
  match w, hlen with
  | [], _ => rfl
  | [_], _ => rfl
  | [_, _], _ => rfl
  | [a, b, c], hlen =>
    have hc : c.length ≤ 281474976710656 := by have := hlen c (by simp); omega
    have e : restore_number n c 6 = some (numP 6 c) := number_eq (d := 6) c hc
    obtain ⟨h1, h2⟩ := num_eq (d := 6) (by decide) c
    show ((restore_number n c 6).bind fun y2 => bif !y2.2 then some (([] : Str), ([] : Str), 0, 7) else some (a, b, y2.1, 0)) = some (bif (numR 6 c).2 then (a, b, (numR 6 c).1, 0) else errP)
    rw [e, Option.bind_some, h1]
    cases hb : (numR 6 c).2 with
    | false => rfl
    | true => rw [h2 hb]; rfl
  | _ :: _ :: _ :: _ :: r, _ =>
    have : decide (r.length + 1 + 1 + 1 + 1 = 3) = false := decide_eq_false (by omega)
    simp only [List.length_cons, this, Bool.not_false, cond_true]
    rfl
theorem ParseP_ref (s : Str) (hs : s.length ≤ 1000) (hn : 1100 ≤ n) (hn2 : n ≤ 90000) : agrafferef08_ParsePromise n s = some (promW (splitL 32 s)) := by
  rw [agrafferef08_ParsePromise, Cut_eq s hs hn]
  simp only [Option.bind_some]
  have hlen := split_len 32 s
  generalize splitL 32 s = w at hlen
  match w, hlen with
  | [], _ => rfl
  | [_], _ => rfl
  | [_, _], _ => rfl
  | [a, b, c], hlen =>
    have hc : c.length ≤ 1000 := by have := hlen c (by simp); omega
    have e : agraffebase_Number n c 6 = some (numR 6 c) := Number_eq (d := 6) (by decide) c (by omega) hn2 (by omega)
    show ((agraffebase_Number n c 6).bind fun y2 => bif !y2.2 then some (([] : Str), ([] : Str), 0, 7) else some (a, b, y2.1, 0)) = some (bif (numR 6 c).2 then (a, b, (numR 6 c).1, 0) else errP)
    rw [e, Option.bind_some]
    cases hb : (numR 6 c).2 <;> rfl
  | _ :: _ :: _ :: _ :: r, _ =>
    have : decide (r.length + 1 + 1 + 1 + 1 = 3) = false := decide_eq_false (by omega)
    simp only [List.length_cons, this, Bool.not_false, cond_true]
    rfl
def fmtP (x : PartPromise) : Str := joinL [x.Instrument, x.Part, itoaL x.Count] [32]
theorem fmtP_eq (x : PartPromise) : fmtP x = (((x.Instrument ++ [32]) ++ x.Part) ++ [32]) ++ itoaL x.Count := by
  unfold fmtP
  rw [joinL_cons, joinL_cons, joinL_one]
  simp only [List.append_assoc]
theorem FormatP_prog (x : PartPromise) (h : inI x.Count = true) (h1 : x.Instrument.length ≤ 20) (h2 : x.Part.length ≤ 20) : restore_FormatPromise n x = some (fmtP x) := by
  rw [restore_FormatPromise, itoa_ok h, Option.bind_some, join_ok _ (by simp) (fun y hy => by
    have := itoa_len h
    simp only [List.mem_cons, List.not_mem_nil, or_false] at hy
    rcases hy with rfl | rfl | rfl <;> omega), Option.bind_some]
  rfl
theorem FormatP_ref (x : PartPromise) (h : inI x.Count = true) (h1 : x.Instrument.length ≤ 20) (h2 : x.Part.length ≤ 20) (hn : 100 ≤ n) (hn2 : n ≤ 90000) : agrafferef08_FormatPromise n x = some (fmtP x) := by
  have hl := itoa_len h
  have l2 : ∀ a b : Str, (a ++ b).length = a.length + b.length := fun a b => List.length_append
  have l1 : ([32] : Str).length = 1 := rfl
  have hb : ∀ (s : Str), s.length ≤ 10000 → nI s.length = true := fun s hs => nI_of (by omega)
  rw [agrafferef08_FormatPromise, Decimal_eq h hn hn2]
  simp only [Option.bind_some]
  rw [hb _ (by simp only [l2, l1]; omega), hb _ (by simp only [l2, l1]; omega), hb _ (by simp only [l2, l1]; omega), hb _ (by simp only [l2, l1]; omega), chk_t, chk_t, chk_t, chk_t, fmtP_eq]
theorem prom_round (x : PartPromise) (hc : x.Count.natAbs < 1000000) (h1 : (32 : UInt8) ∉ x.Instrument) (h2 : (32 : UInt8) ∉ x.Part) : promW (splitL 32 (fmtP x)) = (x.Instrument, x.Part, x.Count, 0) := by
  rw [fmtP, split_join 32 _ (by simp) (fun y hy => by
    simp only [List.mem_cons, List.not_mem_nil, or_false] at hy
    rcases hy with rfl | rfl | rfl
    · exact h1
    · exact h2
    · exact itoa_noblank _)]
  simp only [promW, num_itoa (d := 6) (by decide) (by simpa using hc : x.Count.natAbs < 10 ^ 6), cond_true]
theorem pure_RestoreTells (a0 : PartPromise) (a1 : Str) (h : inI a0.Count = true) : agraffelaw08_RestoreTells 5000 a0 a1 = some true := by
  rw [agraffelaw08_RestoreTells, agraffelaw08_awake]
  simp only [Option.bind_some, Bool.not_true, cond_false]
  have hp : agraffelaw08_promised 5000 [a0] = some (!((decide (20 < a0.Instrument.length)) || (decide (20 < a0.Part.length)))) := by
    rw [agraffelaw08_promised]
    have hc : ((decide (12 < [a0].length)) && (decide ([a0].length ≤ 200)) || (decide (203 < [a0].length))) = false := rfl
    rw [hc, cond_false, withK_eq, show (5000 : Nat) = 4998 + 1 + 1 from rfl, loopN_s, agraffelaw08_promised_L1]
    have h0 : decide (0 < [a0].length) = true := rfl
    have hx : ix [a0] 0 = a0 := rfl
    have hn : nI (0 + 1) = true := nI_of (by decide)
    rw [h0, cond_true, hx, hn, chk_t, loopN_s, agraffelaw08_promised_L1]
    have h1 : decide (0 + 1 < [a0].length) = false := rfl
    rw [h1, cond_false]
    cases (decide (20 < a0.Instrument.length)) || (decide (20 < a0.Part.length)) <;> rfl
  rw [hp, Option.bind_some, Bool.not_not]
  cases hs : ((decide (20 < a0.Instrument.length)) || (decide (20 < a0.Part.length))) || (decide (100 < a1.length)) with
  | true => rfl
  | false =>
    simp only [Bool.or_eq_false_iff, decide_eq_false_iff_not] at hs
    obtain ⟨⟨s1, s2⟩, s3⟩ := hs
    have hl := itoa_len h
    have hfl : (fmtP a0).length ≤ 1000 := by
      rw [fmtP_eq]; simp only [List.length_append, List.length_cons, List.length_nil]; omega
    rw [cond_false, FormatP_prog a0 h (by omega) (by omega), Option.bind_some, ParseP_prog a1 (by omega), Option.bind_some, ParseP_ref a1 (by omega) (by omega) (by omega), Option.bind_some, FormatP_ref a0 h (by omega) (by omega) (by omega) (by omega), Option.bind_some]
    simp only [beq_self_eq_true, Bool.not_true, Bool.false_or, bne_self_eq_false, Bool.and_self, cond_false, agraffebase_Within, IsName_eq a0.Instrument 5000 (by omega) (by omega), IsName_eq a0.Part 5000 (by omega) (by omega), Option.bind_some, gcall_some_, ParseP_prog (fmtP a0) hfl]
    cases hG : nameB a0.Instrument with
    | false => rfl
    | true =>
    cases hP : nameB a0.Part with
    | false => rfl
    | true =>
    cases hD : ((decide ((-999999) ≤ a0.Count)) && (decide (a0.Count ≤ 999999))) with
    | false => rfl
    | true =>
      simp only [Bool.and_eq_true, decide_eq_true_eq] at hD
      have hr := prom_round a0 (by omega) (name_noblank hG) (name_noblank hP)
      rw [hr]
      simp [gcall]
end
end Go.Proofs.YtchkkpbkgghcoaaGreatDoor.As
