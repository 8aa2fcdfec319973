/- The code computes what the plain functions say, part 1: no condition. -/
import Derived.Test.YtifabpmjiphhdaaGreatPlain2
import Derived.Test.YtifabpmjiphhdaaGreatProg
import Derived.Sort.EveryDepth
import Derived.Shelf.Lays
import Derived.Shelf.Slices.In.SortAlone
import Derived.Shelf.Slices.In.SortNone
namespace Go.Proofs.YtifabpmjiphhdaaGreat.As
open Go Go.Proofs
set_option maxRecDepth 4000
def keepU : List (Nat × List Nat):=[(20,[0,2,3,4,7,9,10,11,17,25]),(23,[0,2,3,4,7,8,9,10,11,15,20,28]),(31,[0,1,4,5,10,14,25]),(58,[0,1,2,6,7,8,9,10,11,12,13,15,16,17,19,20,22,23,24,25,26,27,28,29,30,34,39,46,50,51,52,53,63,77,78,79,80,81,85,86,87,88,127,128,129,140,144,145,146,147,155,180]),(75,[0,1,2,3]),(76,[0]),(77,[0]),(82,[0,1,4,5,6,7,9,10,15,20,27,38,66,69,70,71,72,77,82]),(83,[0,1,3,4,5,6,7,13]),(84,[2]),(86,[0,2,3,4,5,7,8,9,10,45]),(87,[0,1,3,4]),(88,[0,1,2,6]),(93,[0,1,4,5,6,7,8,9,10,14,19]),(95,[0,2]),(100,[0,1,4,5,6,7,8,9,10,14,19,25]),(108,[0,1,4]),(109,[0,1,3,4]),(110,[0,1,4]),(123,[0,1,4,6,7,8,9,10,11,17,22,34]),(124,[0,1,2,4,5,6,8,9,13,14,15,16,24]),(125,[0,1,4,5,7,8,9,10,11]),(126,[0,1,3,4,5,10,11,12,18,39]),(127,[0,1,4,5,6,7,8,9,10,11,19]),(128,[0,2,3,5,6,7,8,9,14]),(129,[0,1,4,5,6,11,12,13,16,19]),(130,[0,1,4,5,6,7,8,9,10,11,12,19,28,35]),(137,[0,1,4,5,6,11,12,13,16,19]),(138,[0,1,2]),(148,[0,2]),(149,[0,1,2,4]),(150,[0,1,4]),(151,[0,1,4,5,7,8,9,16]),(152,[0,1,2,3]),(153,[0,1,4,5,7,8,9,16]),(154,[0,1,2,3]),(158,[0,1,2,3,8,9,10,11,12,13,14,15,16,17,18,23,29,35,50,68,72,87,113]),(159,[0,2]),(160,[0,1,4]),(161,[0,1,2,3]),(163,[0,1,4,5,7,8,9,16]),(164,[0,1,2,3]),(165,[0,1,4,5,7,8,9,16]),(174,[0,1,4]),(175,[0,1,3]),(176,[0,2]),(179,[0,2]),(180,[0,2,3,5,6,8,9,10,11,12,20,25,26,27,28]),(185,[0,1,4,5,7,8,9,16]),(186,[0,1,2,6,7,12,30]),(187,[0,1,2,6,7,8,9,10,19,30]),(188,[0,1,2,6,7,8,9,10,15,33,43]),(189,[0,1,2,6,7,8,9,10,11,12,32,34,49,51,54]),(190,[0,1,2,6,7,13]),(191,[0,1,2,6,7,8,9,10,14,32,37,41,61,65,78,98,103,116]),(192,[0,1,4]),(193,[0,1,2,3,8,9,10,43,59,64]),(194,[0,1,2,3,8,9,10,11,43,60,65,112,129,134]),(195,[0,2,4,8]),(196,[0,2,4,8,14]),(197,[0,1,4,5,7,8,9,16]),(201,[0,1,4,5,7,8,9,16]),(212,[0,1,4,6,16]),(215,[0,1,2,3,8,9,16,36,52]),(216,[0,2]),(217,[0,2]),(218,[0,1,2,6]),(219,[0,1,2,3,4,10]),(225,[0,1,2,3,8,9,18])]
def keepUOf (f : Nat) : List Nat:=match keepU.find? (fun p=>Nat.beq p.1 f) with
  | some p=>p.2
  | none=>[]
theorem closed_top : FnL Tryz.prog 75 [] [] (vb true) []:=funE_sound (by kernel_rfl) 200 false 75 [] [] _ _ (by kernel_rfl : funE Tryz.prog keepUOf 1000 200 false 75 [] [] = some (vb true,[]))
theorem agraffelaw08_texts_ok (n : Nat) (a0 : List Str) (a1 : Int) (r : Bool) (h : agraffelaw08_texts n a0 a1 = some r) : FnL Tryz.prog 18 [eS 1 vt a0,vi a1] [] (vb r) [] := by
 dsimp only [agraffelaw08_texts] at h
 refine fo [4] Tryz.call18 Tryz.func18 rfl ?_
 refine sk .a ?_
 refine q1 ?_
 refine sj ?_
 refine rk 1 (.k2 (.i 6 (eS 1 vt a0) .n)) ?_
 refine jo 7 (.len 0 6) (ok_len_m rfl) ?_
 refine jk 2 (.d (.k (.i 9 (vb (decide (a1 < (a0.length : Int)))) .n))) ?_
 refine tc h (fun c1 h=>?_) (fun c1 h=>?_)
 ·refine sk (.i 4 (vb false) .n) ?_
  refine q3 ?_
  have h:=si h
  subst h
  exact DoneS.ret Sees.refl rfl rfl
 refine q2 ?_
 refine TriE.seqK h (fun (_ : Unit)=>St.mk [] []) ?_ ?_
 ·rintro ⟨⟩ h
  refine sk (.i 4 (vb true) .n) ?_
  refine q3 ?_
  have h:=si h
  subst h
  exact DoneS.ret Sees.refl rfl rfl
 intro k1 h
 refine sk (.k (.i 5 (vi 0) .n)) ?_
 refine q4 ?_
 refine ts (.k (.i 5 (vi 0) .n)) ?_
 refine TriE.loopN h (fun (v1 : Nat)=>St.mk [(0,eS 1 vt a0),(5,vi v1)] []) rfl ?_
 clear h
 rintro back v1 h
 dsimp only [agraffelaw08_texts_L1] at h
 refine q1 ?_
 refine sj ?_
 refine rk 2 (.k2 (.i 10 (vi v1) (.i 11 (eS 1 vt a0) .n))) ?_
 refine jo 12 (.len 0 11) (ok_len_m rfl) ?_
 refine jo 13 (.bin .lss false 10 12) (n_lss (i:=v1) (j:=a0.length) rfl rfl) ?_
 refine jf (.d2 (.k2 (.i 13 (vb (decide (v1 < a0.length))) .n))) ?_
 refine tc h (fun c2 h=>?_) (fun c2 h=>?_)
 ·refine q2 ?_
  refine q7 ?_
  refine sj ?_
  refine rk 2 (.k2 (.i 16 (eS 1 vt a0) (.i 17 (vi v1) .n))) ?_
  refine jo 18 (.iaddr 1 16 17) (ok_iaddr_m (j:=v1) rfl rfl rfl c2) ?_
  refine jo 19 (.load false 1 18) (ok_load_fm (v:=vt (ix a0 v1)) rfl c2 rfl) ?_
  refine jo 20 (.len 1 19) (ok_len_t rfl) ?_
  refine jo 21 (.bin .gtr false 20 (ki 20)) (n_gtr (i:=(ix a0 v1).length) (j:=20) rfl rfl) ?_
  refine jf (.d4 (.k2 (.i 21 (vb (decide (20 < ((ix a0 v1).length)))) .n))) ?_
  refine tc h (fun c3 h=>?_) (fun c3 h=>?_)
  ·refine sk (.i 4 (vb false) .n) ?_
   refine q3 ?_
   have h:=si h
   subst h
   exact DoneS.ret Sees.refl rfl rfl
  refine q2 ?_
  refine q6 ?_
  refine rk 1 (.k (.i 14 (vi v1) .n)) ?_
  obtain ⟨c4,h⟩:=ck h
  refine jo 15 (.bin .add false 14 (ki 1)) (r_addn (i:=v1) (j:=1) rfl rfl c4) ?_
  refine jk 1 (.d (.k (.i 5 (vi ((v1 + 1 : Nat) : Int)) .n))) ?_
  exact Vs.intro sy ⟨(v1 + 1),rfl,h⟩
 refine q5 ?_
 exact Vs.intro sy ⟨(),rfl,h⟩
set_option maxHeartbeats 1000000 in
theorem agraffelaw08_Few_ok (n : Nat) (a0 : List Task) (r : Bool) (h : agraffelaw08_Few n a0 = some r) : FnL Tryz.prog 16 [eS 6 eTask a0] [] (vb r) [] := by
 dsimp only [agraffelaw08_Few] at h
 refine fo [2] Tryz.call16 Tryz.func16 rfl ?_
 refine sk .a ?_
 refine q1 ?_
 refine sj ?_
 refine rk 1 (.k (.i 7 (eS 6 eTask a0) .n)) ?_
 refine jo 8 (.len 0 7) (ok_len_m rfl) ?_
 refine jo 9 (.bin .gtr false 8 (ki 9)) (n_gtr (i:=a0.length) (j:=9) rfl rfl) ?_
 refine rk 1 (.d2 (.k (.i 10 (vb (decide (9 < a0.length))) .n))) ?_
 refine gj (eS 6 eTask a0) 11 (.mov 0) 10 true rfl ?_
 refine gv 12 (.len 0 11) 10 true rfl (fun hg=>(ok_len_m rfl)) (fun hg=>(.cons hg .nil)) ?_
 refine gv 13 (.bin .leq false 12 (ki 60)) 10 true rfl (fun hg=>(n_leq (i:=a0.length) (j:=60) rfl rfl)) (fun hg=>(.cons hg (.cons rfl .nil))) ?_
 refine pa 14 10 13 rfl rfl ?_
 refine rk 1 (.d4 (.k (.i 15 (vb ((decide (9 < a0.length)) && (decide (a0.length ≤ 60)))) .n))) ?_
 refine gj (eS 6 eTask a0) 16 (.mov 0) 15 false rfl ?_
 refine gv 17 (.len 0 16) 15 false rfl (fun hg=>(ok_len_m rfl)) (fun hg=>(.cons hg .nil)) ?_
 refine gv 18 (.bin .gtr false 17 (ki 63)) 15 false rfl (fun hg=>(n_gtr (i:=a0.length) (j:=63) rfl rfl)) (fun hg=>(.cons hg (.cons rfl .nil))) ?_
 refine po 19 15 18 rfl rfl ?_
 refine jf (.d4 (.k (.i 19 (vb (((decide (9 < a0.length)) && (decide (a0.length ≤ 60))) || (decide (63 < a0.length)))) .n))) ?_
 refine tc h (fun c1 h=>?_) (fun c1 h=>?_)
 ·refine sk (.i 2 (vb false) .n) ?_
  refine q3 ?_
  have h:=si h
  subst h
  exact DoneS.ret Sees.refl rfl rfl
 refine q2 ?_
 refine TriE.seqK h (fun (_ : Unit)=>St.mk [] []) ?_ ?_
 ·rintro ⟨⟩ h
  refine sk (.i 2 (vb true) .n) ?_
  refine q3 ?_
  have h:=si h
  subst h
  exact DoneS.ret Sees.refl rfl rfl
 intro k3 h
 refine sk (.k (.i 3 (vi 0) .n)) ?_
 refine q4 ?_
 refine ts (.k (.i 3 (vi 0) .n)) ?_
 refine TriE.loopN h (fun (v6 : Nat)=>St.mk [(0,eS 6 eTask a0),(3,vi v6)] []) rfl ?_
 clear h
 rintro back v6 h
 dsimp only [agraffelaw08_Few_L3] at h
 refine q1 ?_
 refine sj ?_
 refine rk 2 (.k2 (.i 20 (vi v6) (.i 21 (eS 6 eTask a0) .n))) ?_
 refine jo 22 (.len 0 21) (ok_len_m rfl) ?_
 refine jo 23 (.bin .lss false 20 22) (n_lss (i:=v6) (j:=a0.length) rfl rfl) ?_
 refine jf (.d2 (.k2 (.i 23 (vb (decide (v6 < a0.length))) .n))) ?_
 refine tc h (fun c2 h=>?_) (fun c2 h=>?_)
 ·refine q2 ?_
  refine TriE.seqK h (fun (_ : Unit)=>St.mk [(0,eS 6 eTask a0),(3,vi v6)] []) ?_ ?_
  ·rintro ⟨⟩ h
   refine q6 ?_
   refine rk 1 (.k (.i 24 (vi v6) .n)) ?_
   obtain ⟨c12,h⟩:=ck h
   refine jo 25 (.bin .add false 24 (ki 1)) (r_addn (i:=v6) (j:=1) rfl rfl c12) ?_
   refine jk 1 (.d (.k (.i 3 (vi ((v6 + 1 : Nat) : Int)) .n))) ?_
   exact Vs.intro sy ⟨(v6 + 1),rfl,h⟩
  intro k2 h
  refine q4 ?_
  refine sj ?_
  refine rk 2 (.k2 (.i 26 (eS 6 eTask a0) (.i 27 (vi v6) .n))) ?_
  refine jo 28 (.iaddr 6 26 27) (ok_iaddr_m (j:=v6) rfl rfl rfl c2) ?_
  refine jo 29 (.load true 6 28) (ok_load_fm (v:=.agg [vt ((ix a0 v6).Name),vi ((ix a0 v6).Cents),vi ((ix a0 v6).Hours),eS 1 vt ((ix a0 v6).Needs),eS 1 (eS 1 vt) ((ix a0 v6).OneOf),eS 2 ePartCount ((ix a0 v6).Parts)]) rfl c2 rfl) ?_
  refine jko 2 (.d2 (.k2 (.i 4 (.ptr 0 0 0) .n))) [some (.row 6 [.agg [vt ((ix a0 v6).Name),vi ((ix a0 v6).Cents),vi ((ix a0 v6).Hours),eS 1 vt ((ix a0 v6).Needs),eS 1 (eS 1 vt) ((ix a0 v6).OneOf),eS 2 ePartCount ((ix a0 v6).Parts)]])] ?_
  refine q1 ?_
  refine sj ?_
  refine rk 2 (.k3 (.i 31 (vt ((ix a0 v6).Name)) .n)) ?_
  refine jo 32 (.len 1 31) (ok_len_t rfl) ?_
  refine jo 33 (.bin .gtr false 32 (ki 20)) (n_gtr (i:=((ix a0 v6).Name).length) (j:=20) rfl rfl) ?_
  refine rk 1 (.d2 (.k3 (.i 34 (vb (decide (20 < (((ix a0 v6).Name).length)))) .n))) ?_
  refine gj (.ptr 0 0 3) 35 (.faddr 3 4) 34 false rfl ?_
  refine gk (eS 1 vt ((ix a0 v6).Needs)) 36 (.load false 1 35) 34 false rfl (fun hg=>(.cons hg .nil)) ?_
  obtain ⟨y7,hy7,h⟩:=bs h
  refine gc 37 [36,(ki 13)] 34 false rfl (fun hg=>agraffelaw08_texts_ok n ((ix a0 v6).Needs) 13 y7 (gcall_some hy7 hg)) (fun hg=>(.cons rfl (.cons hg (.cons rfl .nil)))) (fun hg=>by kernel_rfl) ?_
  refine gk (vb (!y7)) 38 (.un .not 37) 34 false rfl (fun hg=>(.cons hg .nil)) ?_
  refine po 39 34 38 rfl rfl ?_
  refine rk 1 (.d4 (.d (.k3 (.i 35 (.cond (!(decide (20 < (((ix a0 v6).Name).length)))) (.ptr 0 0 3)) (.i 36 (.cond (!(decide (20 < (((ix a0 v6).Name).length)))) (eS 1 vt ((ix a0 v6).Needs))) (.i 37 (.cond (!(decide (20 < (((ix a0 v6).Name).length)))) (vb y7)) (.i 38 (.cond (!(decide (20 < (((ix a0 v6).Name).length)))) (vb (!y7))) (.i 40 (vb ((decide (20 < (((ix a0 v6).Name).length))) || (!y7))) .n)))))))) ?_
  refine gj (.ptr 0 0 4) 41 (.faddr 4 4) 40 false rfl ?_
  refine gk (eS 1 (eS 1 vt) ((ix a0 v6).OneOf)) 42 (.load false 1 41) 40 false rfl (fun hg=>(.cons hg .nil)) ?_
  refine gv 43 (.len 0 42) 40 false rfl (fun hg=>(ok_len_m rfl)) (fun hg=>(.cons hg .nil)) ?_
  refine gv 44 (.bin .gtr false 43 (ki 9)) 40 false rfl (fun hg=>(n_gtr (i:=((ix a0 v6).OneOf).length) (j:=9) rfl rfl)) (fun hg=>(.cons hg (.cons rfl .nil))) ?_
  refine po 45 40 44 rfl rfl ?_
  refine rk 1 (.d4 (.d (.k4 (.k3 (.i 41 (.cond (!((decide (20 < (((ix a0 v6).Name).length))) || (!y7))) (.ptr 0 0 4)) (.i 42 (.cond (!((decide (20 < (((ix a0 v6).Name).length))) || (!y7))) (eS 1 (eS 1 vt) ((ix a0 v6).OneOf))) (.i 43 (.cond (!((decide (20 < (((ix a0 v6).Name).length))) || (!y7))) (vi ((((ix a0 v6).OneOf).length : Nat) : Int))) (.i 44 (.cond (!((decide (20 < (((ix a0 v6).Name).length))) || (!y7))) (vb (decide (9 < (((ix a0 v6).OneOf).length))))) (.i 46 (vb (((decide (20 < (((ix a0 v6).Name).length))) || (!y7)) || (decide (9 < (((ix a0 v6).OneOf).length))))) .n))))))))) ?_
  refine gj (.ptr 0 0 5) 47 (.faddr 5 4) 46 false rfl ?_
  refine gk (eS 2 ePartCount ((ix a0 v6).Parts)) 48 (.load false 1 47) 46 false rfl (fun hg=>(.cons hg .nil)) ?_
  refine gv 49 (.len 0 48) 46 false rfl (fun hg=>(ok_len_m rfl)) (fun hg=>(.cons hg .nil)) ?_
  refine gv 50 (.bin .gtr false 49 (ki 13)) 46 false rfl (fun hg=>(n_gtr (i:=((ix a0 v6).Parts).length) (j:=13) rfl rfl)) (fun hg=>(.cons hg (.cons rfl .nil))) ?_
  refine po 51 46 50 rfl rfl ?_
  refine jf (.d4 (.d (.k3 (.i 51 (vb ((((decide (20 < (((ix a0 v6).Name).length))) || (!y7)) || (decide (9 < (((ix a0 v6).OneOf).length)))) || (decide (13 < (((ix a0 v6).Parts).length))))) .n)))) ?_
  refine tc h (fun c3 h=>?_) (fun c3 h=>?_)
  ·refine sk (.i 2 (vb false) .n) ?_
   refine q3 ?_
   have h:=si h
   subst h
   exact DoneS.ret (S' := ⟨[(2,vb false)],[]⟩) (sc [] (by decide) (by kernel_rfl) ObRen.nil rfl rfl) rfl rfl
  refine q2 ?_
  refine TriE.seqK h (fun (_ : Unit)=>St.mk [(0,eS 6 eTask a0),(3,vi v6),(4,.ptr 0 0 0)] [some (.row 6 [.agg [vt ((ix a0 v6).Name),vi ((ix a0 v6).Cents),vi ((ix a0 v6).Hours),eS 1 vt ((ix a0 v6).Needs),eS 1 (eS 1 vt) ((ix a0 v6).OneOf),eS 2 ePartCount ((ix a0 v6).Parts)]])]) ?_ ?_
  ·rintro ⟨⟩ h
   refine sk (.k3 (.i 6 (vi 0) .n)) ?_
   refine q4 ?_
   refine ts (.k3 (.i 6 (vi 0) .n)) ?_
   refine TriE.loopN h (fun (v11 : Nat)=>St.mk [(0,eS 6 eTask a0),(3,vi v6),(4,.ptr 0 0 0),(6,vi v11)] [some (.row 6 [.agg [vt ((ix a0 v6).Name),vi ((ix a0 v6).Cents),vi ((ix a0 v6).Hours),eS 1 vt ((ix a0 v6).Needs),eS 1 (eS 1 vt) ((ix a0 v6).OneOf),eS 2 ePartCount ((ix a0 v6).Parts)]])]) rfl ?_
   clear h
   rintro back v11 h
   dsimp only [agraffelaw08_Few_L2] at h
   refine q1 ?_
   refine sj ?_
   refine rk 3 (.k4 (.i 66 (vi v11) (.i 68 (eS 2 ePartCount ((ix a0 v6).Parts)) .n))) ?_
   refine jo 69 (.len 0 68) (ok_len_m rfl) ?_
   refine jo 70 (.bin .lss false 66 69) (n_lss (i:=v11) (j:=((ix a0 v6).Parts).length) rfl rfl) ?_
   refine jf (.d2 (.k4 (.i 70 (vb (decide (v11 < (((ix a0 v6).Parts).length)))) .n))) ?_
   refine tc h (fun c8 h=>?_) (fun c8 h=>?_)
   ·refine q2 ?_
    refine q7 ?_
    refine sj ?_
    refine rk 3 (.k4 (.i 74 (eS 2 ePartCount ((ix a0 v6).Parts)) (.i 75 (vi v11) .n))) ?_
    obtain ⟨c9,h⟩:=ck h
    refine jo 76 (.iaddr 2 74 75) (ok_iaddr_m (j:=v11) rfl rfl rfl c9) ?_
    refine rk 1 (.d (.k4 (.i 77 (.fptr 2 (List.map ePartCount ((ix a0 v6).Parts)) v11 0) .n))) ?_
    refine jo 78 (.load false 1 77) (ok_load_fm (v:=vt ((ix ((ix a0 v6).Parts) v11).Part)) rfl c9 rfl) ?_
    refine jo 79 (.len 1 78) (ok_len_t rfl) ?_
    refine jo 80 (.bin .gtr false 79 (ki 20)) (n_gtr (i:=((ix ((ix a0 v6).Parts) v11).Part).length) (j:=20) rfl rfl) ?_
    refine jf (.d3 (.k4 (.i 80 (vb (decide (20 < (((ix ((ix a0 v6).Parts) v11).Part).length)))) .n))) ?_
    refine tc h (fun c10 h=>?_) (fun c10 h=>?_)
    ·refine sk (.i 2 (vb false) .n) ?_
     refine q3 ?_
     have h:=si h
     subst h
     exact DoneS.ret (S' := ⟨[(2,vb false)],[]⟩) (sc [] (by decide) (by kernel_rfl) ObRen.nil rfl rfl) rfl rfl
    refine q2 ?_
    refine q6 ?_
    refine rk 1 (.k3 (.i 71 (vi v11) .n)) ?_
    obtain ⟨c11,h⟩:=ck h
    refine jo 72 (.bin .add false 71 (ki 1)) (r_addn (i:=v11) (j:=1) rfl rfl c11) ?_
    refine jk 1 (.d (.k3 (.i 6 (vi ((v11 + 1 : Nat) : Int)) .n))) ?_
    exact Vs.intro sy ⟨(v11 + 1),rfl,h⟩
   refine q5 ?_
   exact Vs.intro (sc [] (by decide) (by kernel_rfl) ObRen.nil rfl rfl) ⟨(),rfl,h⟩
  intro k1 h
  refine sk (.k3 (.i 5 (vi 0) .n)) ?_
  refine q4 ?_
  refine ts (.k3 (.i 5 (vi 0) .n)) ?_
  refine TriE.loopN h (fun (v9 : Nat)=>St.mk [(0,eS 6 eTask a0),(3,vi v6),(4,.ptr 0 0 0),(5,vi v9)] [some (.row 6 [.agg [vt ((ix a0 v6).Name),vi ((ix a0 v6).Cents),vi ((ix a0 v6).Hours),eS 1 vt ((ix a0 v6).Needs),eS 1 (eS 1 vt) ((ix a0 v6).OneOf),eS 2 ePartCount ((ix a0 v6).Parts)]])]) rfl ?_
  clear h
  rintro back v9 h
  dsimp only [agraffelaw08_Few_L1] at h
  refine q1 ?_
  refine sj ?_
  refine rk 3 (.k4 (.i 52 (vi v9) (.i 54 (eS 1 (eS 1 vt) ((ix a0 v6).OneOf)) .n))) ?_
  refine jo 55 (.len 0 54) (ok_len_m rfl) ?_
  refine jo 56 (.bin .lss false 52 55) (n_lss (i:=v9) (j:=((ix a0 v6).OneOf).length) rfl rfl) ?_
  refine jf (.d2 (.k4 (.i 56 (vb (decide (v9 < (((ix a0 v6).OneOf).length)))) .n))) ?_
  refine tc h (fun c4 h=>?_) (fun c4 h=>?_)
  ·refine q2 ?_
   refine q7 ?_
   refine sj ?_
   refine rk 3 (.k4 (.i 60 (eS 1 (eS 1 vt) ((ix a0 v6).OneOf)) (.i 61 (vi v9) .n))) ?_
   obtain ⟨c5,h⟩:=ck h
   refine jo 62 (.iaddr 1 60 61) (ok_iaddr_m (j:=v9) rfl rfl rfl c5) ?_
   refine jo 63 (.load false 1 62) (ok_load_fm (v:=eS 1 vt (ix ((ix a0 v6).OneOf) v9)) rfl c5 rfl) ?_
   obtain ⟨y10,hy10,h⟩:=bs h
   refine jc 64 [63,(ki 9)] (agraffelaw08_texts_ok n (ix ((ix a0 v6).OneOf) v9) 9 y10 hy10) ?_
   refine jk 1 (.d3 (.k4 (.i 65 (vb (!y10)) .n))) ?_
   refine tc h (fun c6 h=>?_) (fun c6 h=>?_)
   ·refine sk (.i 2 (vb false) .n) ?_
    refine q3 ?_
    have h:=si h
    subst h
    exact DoneS.ret (S' := ⟨[(2,vb false)],[]⟩) (sc [] (by decide) (by kernel_rfl) ObRen.nil rfl rfl) rfl rfl
   refine q2 ?_
   refine q6 ?_
   refine rk 1 (.k3 (.i 57 (vi v9) .n)) ?_
   obtain ⟨c7,h⟩:=ck h
   refine jo 58 (.bin .add false 57 (ki 1)) (r_addn (i:=v9) (j:=1) rfl rfl c7) ?_
   refine jk 1 (.d (.k3 (.i 5 (vi ((v9 + 1 : Nat) : Int)) .n))) ?_
   exact Vs.intro sy ⟨(v9 + 1),rfl,h⟩
  refine q5 ?_
  exact Vs.intro sy ⟨(),rfl,h⟩
 refine q5 ?_
 exact Vs.intro sy ⟨(),rfl,h⟩
theorem agraffebase_CopyTexts_2_ok (n : Nat) (a0 : List Str) (r : Unit) (h : agraffebase_CopyTexts_2 n a0 = some r) : FnL Tryz.prog 19 [eS 1 vt a0] [] (.own 0 0 a0.length) [some (.row 1 (List.map vt a0))] := by
 dsimp only [agraffebase_CopyTexts_2] at h
 refine fo [2] Tryz.call19 Tryz.func19 rfl ?_
 refine sk .a ?_
 refine sj ?_
 refine rk 2 (.i 3 .emp (.i 4 (eS 1 vt a0) .n)) ?_
 obtain ⟨c1,h⟩:=ck h
 refine jx 5 (.app 1 16 3 4) _ (ok_app_emp (e:=vt) (l:=a0) (u:=eS 1 vt a0) rfl rfl els_sl c1) rfl rfl ?_
 refine jk 1 (.i 2 (.own 0 0 a0.length) .n) ?_
 refine q3 ?_
 have h:=si h
 subst h
 exact DoneS.ret Sees.refl rfl rfl
set_option maxHeartbeats 1000000 in
theorem restore_isName_ok (n : Nat) (a0 : Str) (r : Bool) (h : restore_isName n a0 = some r) : FnL Tryz.prog 86 [vt a0] [] (vb r) []:=by
  dsimp only [restore_isName] at h
  refine FnL.ofS (ts:=[2]) Tryz.call86 Tryz.func86 rfl rfl (Nat.le_of_ble_eq_true rfl) (Nat.le_of_ble_eq_true rfl) (fun j h=>absurd h (Nat.not_lt_zero j)) ?_
  show TriE _ _ _ _ _ (St.mk [(0,vt a0)] []) _
  refine TriE.seq ?_
  refine TriE.run [(0,vt a0)] [] (by kernel_rfl) ?_
  refine TriE.seqK h (fun (_ : Unit)=>St.mk [(0,vt a0)] []) ?_ ?_
  · rintro ⟨⟩ h
    show TriE _ _ _ _ _ (St.mk [(0,vt a0)] []) _
    refine TriE.seq ?_
    refine TriE.regJ ?_
    refine RegJ.run 3 [(0,vt a0),(49,vb (!(a0 == ([] : Str))))] [] (by kernel_rfl) ?_
    refine RegJ.op (Op1.valk (g:=!(a0 == ([] : Str))) (v:=vt a0) _ _ (cz (IG 50 (.mov (.t 0)) 49 true) (by kernel_rfl)) rfl (by kernel_rfl) (fun hg=>(.cons rfl .nil))) ?_
    refine RegJ.op (Op1.valg (g:=!(a0 == ([] : Str))) (v:=vi ((a0.length : Nat) : Int)) _ _ (cz (IG 51 (.len 1 (.t 50)) 49 true) (by kernel_rfl)) rfl (fun hg=>(ok_len_t rfl)) (fun hg=>(.cons hg .nil))) ?_
    refine RegJ.op (Op1.valg (g:=!(a0 == ([] : Str))) (v:=vb (decide (a0.length ≤ 12))) _ _ (cz (IG 52 (.bin .leq false (.t 51) (.c (.p (.int .i64 12)))) 49 true) (by kernel_rfl)) rfl (fun hg=>(n_leq (i:=a0.length) (j:=12) rfl rfl)) (fun hg=>(.cons hg (.cons rfl .nil)))) ?_
    refine RegJ.op (Op1.and (cz (I0 53 (.pick (.t 49) (.t 52) (.c (.p (.bool false))))) (by kernel_rfl)) rfl rfl (by first | exact hokA1 | exact hokA0 | simp)) ?_
    refine jrd 1 [(2,vb ((!(a0 == ([] : Str))) && (decide (a0.length ≤ 12))))] [] (by kernel_rfl) rfl ?_
    refine TriE.ret ?_
    have h:=Option.some.inj h
    subst h
    exact DoneS.ret (S':=⟨[(2,vb ((!(a0 == ([] : Str))) && (decide (a0.length ≤ 12))))],[]⟩) Sees.refl rfl rfl
  intro k1 h
  refine TriE.seq ?_
  refine TriE.regJ ?_
  refine RegJ.run 1 [(0,vt a0),(6,vt a0)] [] (by kernel_rfl) ?_
  refine RegJ.op (Op1.bytes (s:=⟨⟨a0⟩⟩) _ (cz (I0 7 (.bytes (.t 6))) (by kernel_rfl)) rfl (.cons rfl .nil)) ?_
  refine jv (vi ((a0.length : Nat) : Int)) (cz (I0 8 (.len 0 (.t 7))) (by kernel_rfl)) (ok_len_m rfl) rfl ?_
  refine jrd 1 [(0,vt a0),(7,eS 1 vbyte a0),(8,vi ((a0.length : Nat) : Int)),(9,vi 0)] [] (by kernel_rfl) rfl ?_
  refine TriE.block ?_
  refine TriE.sees (S':=⟨[(0,vt a0),(7,eS 1 vbyte a0),(8,vi ((a0.length : Nat) : Int)),(9,vi ((0 : Nat) : Int))],[]⟩) (sl (by kernel_rfl)) ?_
  refine TriE.loopN h (fun (v1 : Nat)=>St.mk [(0,vt a0),(7,eS 1 vbyte a0),(8,vi ((a0.length : Nat) : Int)),(9,vi ((v1 : Nat) : Int))] []) rfl ?_
  clear h
  rintro back v1 h
  dsimp only [restore_isName_L1] at h
  show TriE _ _ _ _ _ (St.mk [(0,vt a0),(7,eS 1 vbyte a0),(8,vi ((a0.length : Nat) : Int)),(9,vi ((v1 : Nat) : Int))] []) _
  refine TriE.seq ?_
  refine TriE.regJ ?_
  refine jv (vb (decide (v1 < a0.length))) (cz (I0 10 (.bin .lss false (.t 9) (.t 8))) (by kernel_rfl)) (n_lss (i:=v1) (j:=a0.length) rfl rfl) rfl ?_
  refine jd [(0,vt a0),(7,eS 1 vbyte a0),(8,vi ((a0.length : Nat) : Int)),(9,vi ((v1 : Nat) : Int)),(10,vb (decide (v1 < a0.length)))] (by kernel_rfl) rfl ?_
  refine TriE.seq ?_
  refine TriE.cond (b:=decide (v1 < a0.length)) rfl (fun c1=>?_) (fun c1=>?_)
  · have h:=cond_t h c1
    refine TriE.skip ?_
    refine TriE.seq ?_
    refine TriE.block ?_
    refine TriE.seq ?_
    refine TriE.regJ ?_
    refine RegJ.run 1 [(0,vt a0),(7,eS 1 vbyte a0),(8,vi ((a0.length : Nat) : Int)),(9,vi ((v1 : Nat) : Int)),(11,vi ((v1 : Nat) : Int))] [] (by kernel_rfl) ?_
    refine jv (.fptr 1 (List.map vbyte a0) v1 0) (cz (I0 12 (.iaddr 1 (.t 7) (.t 9))) (by kernel_rfl)) (ok_iaddr_m (j:=v1) rfl rfl rfl c1) rfl ?_
    refine jv (vk .u8 (((ix a0 v1).toNat : Nat) : Int)) (cz (I0 13 (.load false 1 (.t 12))) (by kernel_rfl)) (ok_load_fm (v:=vk .u8 (((ix a0 v1).toNat : Nat) : Int)) rfl c1 rfl) rfl ?_
    refine jrd 2 [(0,vt a0),(7,eS 1 vbyte a0),(8,vi ((a0.length : Nat) : Int)),(9,vi ((v1 : Nat) : Int)),(3,vi ((v1 : Nat) : Int)),(4,vk .u8 (((ix a0 v1).toNat : Nat) : Int))] [] (by kernel_rfl) rfl ?_
    refine TriE.seq ?_
    refine TriE.regJ ?_
    refine RegJ.run 3 [(0,vt a0),(7,eS 1 vbyte a0),(8,vi ((a0.length : Nat) : Int)),(9,vi ((v1 : Nat) : Int)),(3,vi ((v1 : Nat) : Int)),(4,vk .u8 (((ix a0 v1).toNat : Nat) : Int)),(16,vb (decide ((97 : Int) ≤ (((ix a0 v1).toNat : Nat) : Int))))] [] (by kernel_rfl) ?_
    refine RegJ.op (Op1.valk (g:=decide ((97 : Int) ≤ (((ix a0 v1).toNat : Nat) : Int))) (v:=vk .u8 (((ix a0 v1).toNat : Nat) : Int)) _ _ (cz (IG 17 (.mov (.t 4)) 16 true) (by kernel_rfl)) rfl (by kernel_rfl) (fun hg=>(.cons rfl .nil))) ?_
    refine RegJ.op (Op1.valk (g:=decide ((97 : Int) ≤ (((ix a0 v1).toNat : Nat) : Int))) (v:=vb (decide ((((ix a0 v1).toNat : Nat) : Int) ≤ (122 : Int)))) _ _ (cz (IG 18 (.bin .leq false (.t 17) (.c (.p (.int .u8 122)))) 16 true) (by kernel_rfl)) rfl (by kernel_rfl) (fun hg=>(.cons hg (.cons rfl .nil)))) ?_
    refine RegJ.op (Op1.and (cz (I0 19 (.pick (.t 16) (.t 18) (.c (.p (.bool false))))) (by kernel_rfl)) rfl rfl (by first | exact hokA1 | exact hokA0 | simp)) ?_
    refine RegJ.run 1 [(0,vt a0),(7,eS 1 vbyte a0),(8,vi ((a0.length : Nat) : Int)),(9,vi ((v1 : Nat) : Int)),(3,vi ((v1 : Nat) : Int)),(4,vk .u8 (((ix a0 v1).toNat : Nat) : Int)),(17,.cond (decide ((97 : Int) ≤ (((ix a0 v1).toNat : Nat) : Int))) (vk .u8 (((ix a0 v1).toNat : Nat) : Int))),(18,.cond (decide ((97 : Int) ≤ (((ix a0 v1).toNat : Nat) : Int))) (vb (decide ((((ix a0 v1).toNat : Nat) : Int) ≤ (122 : Int))))),(20,vb ((decide ((97 : Int) ≤ (((ix a0 v1).toNat : Nat) : Int))) && (decide ((((ix a0 v1).toNat : Nat) : Int) ≤ (122 : Int)))))] [] (by kernel_rfl) ?_
    refine RegJ.op (Op1.valk (g:=!((decide ((97 : Int) ≤ (((ix a0 v1).toNat : Nat) : Int))) && (decide ((((ix a0 v1).toNat : Nat) : Int) ≤ (122 : Int))))) (v:=vk .u8 (((ix a0 v1).toNat : Nat) : Int)) _ _ (cz (IG 21 (.mov (.t 4)) 20 false) (by kernel_rfl)) rfl (by kernel_rfl) (fun hg=>(.cons rfl .nil))) ?_
    refine RegJ.op (Op1.valk (g:=!((decide ((97 : Int) ≤ (((ix a0 v1).toNat : Nat) : Int))) && (decide ((((ix a0 v1).toNat : Nat) : Int) ≤ (122 : Int))))) (v:=vb (decide ((65 : Int) ≤ (((ix a0 v1).toNat : Nat) : Int)))) _ _ (cz (IG 22 (.bin .geq false (.t 21) (.c (.p (.int .u8 65)))) 20 false) (by kernel_rfl)) rfl (by kernel_rfl) (fun hg=>(.cons hg (.cons rfl .nil)))) ?_
    refine RegJ.op (Op1.valk (g:=!((decide ((97 : Int) ≤ (((ix a0 v1).toNat : Nat) : Int))) && (decide ((((ix a0 v1).toNat : Nat) : Int) ≤ (122 : Int))))) (v:=vb (decide ((65 : Int) ≤ (((ix a0 v1).toNat : Nat) : Int)))) _ _ (cz (IG 23 (.mov (.t 22)) 20 false) (by kernel_rfl)) rfl (by kernel_rfl) (fun hg=>(.cons hg .nil))) ?_
    refine RegJ.op (Op1.valk (g:=(!((decide ((97 : Int) ≤ (((ix a0 v1).toNat : Nat) : Int))) && (decide ((((ix a0 v1).toNat : Nat) : Int) ≤ (122 : Int))))) && (decide ((65 : Int) ≤ (((ix a0 v1).toNat : Nat) : Int)))) (v:=vk .u8 (((ix a0 v1).toNat : Nat) : Int)) _ _ (cz (IG 24 (.mov (.t 4)) 23 true) (by kernel_rfl)) rfl (by kernel_rfl) (fun hg=>(.cons rfl .nil))) ?_
    refine RegJ.op (Op1.valk (g:=(!((decide ((97 : Int) ≤ (((ix a0 v1).toNat : Nat) : Int))) && (decide ((((ix a0 v1).toNat : Nat) : Int) ≤ (122 : Int))))) && (decide ((65 : Int) ≤ (((ix a0 v1).toNat : Nat) : Int)))) (v:=vb (decide ((((ix a0 v1).toNat : Nat) : Int) ≤ (90 : Int)))) _ _ (cz (IG 25 (.bin .leq false (.t 24) (.c (.p (.int .u8 90)))) 23 true) (by kernel_rfl)) rfl (by kernel_rfl) (fun hg=>(.cons hg (.cons rfl .nil)))) ?_
    refine RegJ.op (Op1.andg (g:=!((decide ((97 : Int) ≤ (((ix a0 v1).toNat : Nat) : Int))) && (decide ((((ix a0 v1).toNat : Nat) : Int) ≤ (122 : Int))))) (cz (IG 26 (.pick (.t 23) (.t 25) (.c (.p (.bool false)))) 20 false) (by kernel_rfl)) rfl rfl rfl (fun hg=>by first | exact hokA2 hg | exact hokA3 hg | exact hokA1 | exact hokA0 | (rw [hg]; simp) | simp_all)) ?_
    refine RegJ.op (Op1.or (cz (I0 27 (.pick (.t 20) (.c (.p (.bool true))) (.t 26))) (by kernel_rfl)) rfl rfl (by first | exact hokO1 | exact hokO0 | simp)) ?_
    refine jrd 1 [(0,vt a0),(7,eS 1 vbyte a0),(8,vi ((a0.length : Nat) : Int)),(9,vi ((v1 : Nat) : Int)),(3,vi ((v1 : Nat) : Int)),(4,vk .u8 (((ix a0 v1).toNat : Nat) : Int)),(5,vb (((decide ((97 : Int) ≤ (((ix a0 v1).toNat : Nat) : Int))) && (decide ((((ix a0 v1).toNat : Nat) : Int) ≤ (122 : Int)))) || ((decide ((65 : Int) ≤ (((ix a0 v1).toNat : Nat) : Int))) && (decide ((((ix a0 v1).toNat : Nat) : Int) ≤ (90 : Int))))))] [] (by kernel_rfl) rfl ?_
    refine TriE.seq ?_
    refine TriE.regJ ?_
    refine RegJ.run 3 [(0,vt a0),(7,eS 1 vbyte a0),(8,vi ((a0.length : Nat) : Int)),(9,vi ((v1 : Nat) : Int)),(3,vi ((v1 : Nat) : Int)),(4,vk .u8 (((ix a0 v1).toNat : Nat) : Int)),(30,vb (!(((decide ((97 : Int) ≤ (((ix a0 v1).toNat : Nat) : Int))) && (decide ((((ix a0 v1).toNat : Nat) : Int) ≤ (122 : Int)))) || ((decide ((65 : Int) ≤ (((ix a0 v1).toNat : Nat) : Int))) && (decide ((((ix a0 v1).toNat : Nat) : Int) ≤ (90 : Int)))))))] [] (by kernel_rfl) ?_
    refine RegJ.op (Op1.valk (g:=!(((decide ((97 : Int) ≤ (((ix a0 v1).toNat : Nat) : Int))) && (decide ((((ix a0 v1).toNat : Nat) : Int) ≤ (122 : Int)))) || ((decide ((65 : Int) ≤ (((ix a0 v1).toNat : Nat) : Int))) && (decide ((((ix a0 v1).toNat : Nat) : Int) ≤ (90 : Int)))))) (v:=vi ((v1 : Nat) : Int)) _ _ (cz (IG 31 (.mov (.t 3)) 30 true) (by kernel_rfl)) rfl (by kernel_rfl) (fun hg=>(.cons rfl .nil))) ?_
    refine RegJ.op (Op1.valg (g:=!(((decide ((97 : Int) ≤ (((ix a0 v1).toNat : Nat) : Int))) && (decide ((((ix a0 v1).toNat : Nat) : Int) ≤ (122 : Int)))) || ((decide ((65 : Int) ≤ (((ix a0 v1).toNat : Nat) : Int))) && (decide ((((ix a0 v1).toNat : Nat) : Int) ≤ (90 : Int)))))) (v:=vb (decide (v1 = 0))) _ _ (cz (IG 32 (.bin .eql false (.t 31) (.c (.p (.int .i64 0)))) 30 true) (by kernel_rfl)) rfl (fun hg=>(n_eql (i:=v1) (j:=0) rfl rfl)) (fun hg=>(.cons hg (.cons rfl .nil)))) ?_
    refine RegJ.op (Op1.valk (g:=!(((decide ((97 : Int) ≤ (((ix a0 v1).toNat : Nat) : Int))) && (decide ((((ix a0 v1).toNat : Nat) : Int) ≤ (122 : Int)))) || ((decide ((65 : Int) ≤ (((ix a0 v1).toNat : Nat) : Int))) && (decide ((((ix a0 v1).toNat : Nat) : Int) ≤ (90 : Int)))))) (v:=vb (decide (v1 = 0))) _ _ (cz (IG 33 (.mov (.t 32)) 30 true) (by kernel_rfl)) rfl (by kernel_rfl) (fun hg=>(.cons hg .nil))) ?_
    refine RegJ.op (Op1.valk (g:=(!(((decide ((97 : Int) ≤ (((ix a0 v1).toNat : Nat) : Int))) && (decide ((((ix a0 v1).toNat : Nat) : Int) ≤ (122 : Int)))) || ((decide ((65 : Int) ≤ (((ix a0 v1).toNat : Nat) : Int))) && (decide ((((ix a0 v1).toNat : Nat) : Int) ≤ (90 : Int)))))) && !(decide (v1 = 0))) (v:=vk .u8 (((ix a0 v1).toNat : Nat) : Int)) _ _ (cz (IG 34 (.mov (.t 4)) 33 false) (by kernel_rfl)) rfl (by kernel_rfl) (fun hg=>(.cons rfl .nil))) ?_
    refine RegJ.op (Op1.valk (g:=(!(((decide ((97 : Int) ≤ (((ix a0 v1).toNat : Nat) : Int))) && (decide ((((ix a0 v1).toNat : Nat) : Int) ≤ (122 : Int)))) || ((decide ((65 : Int) ≤ (((ix a0 v1).toNat : Nat) : Int))) && (decide ((((ix a0 v1).toNat : Nat) : Int) ≤ (90 : Int)))))) && !(decide (v1 = 0))) (v:=vb ((((ix a0 v1).toNat : Nat) : Int) != (45 : Int))) _ _ (cz (IG 35 (.bin .neq false (.t 34) (.c (.p (.int .u8 45)))) 33 false) (by kernel_rfl)) rfl (by kernel_rfl) (fun hg=>(.cons hg (.cons rfl .nil)))) ?_
    refine RegJ.op (Op1.valk (g:=(!(((decide ((97 : Int) ≤ (((ix a0 v1).toNat : Nat) : Int))) && (decide ((((ix a0 v1).toNat : Nat) : Int) ≤ (122 : Int)))) || ((decide ((65 : Int) ≤ (((ix a0 v1).toNat : Nat) : Int))) && (decide ((((ix a0 v1).toNat : Nat) : Int) ≤ (90 : Int)))))) && !(decide (v1 = 0))) (v:=vb ((((ix a0 v1).toNat : Nat) : Int) != (45 : Int))) _ _ (cz (IG 36 (.mov (.t 35)) 33 false) (by kernel_rfl)) rfl (by kernel_rfl) (fun hg=>(.cons hg .nil))) ?_
    refine RegJ.op (Op1.valk (g:=((!(((decide ((97 : Int) ≤ (((ix a0 v1).toNat : Nat) : Int))) && (decide ((((ix a0 v1).toNat : Nat) : Int) ≤ (122 : Int)))) || ((decide ((65 : Int) ≤ (((ix a0 v1).toNat : Nat) : Int))) && (decide ((((ix a0 v1).toNat : Nat) : Int) ≤ (90 : Int)))))) && !(decide (v1 = 0))) && ((((ix a0 v1).toNat : Nat) : Int) != (45 : Int))) (v:=vk .u8 (((ix a0 v1).toNat : Nat) : Int)) _ _ (cz (IG 37 (.mov (.t 4)) 36 true) (by kernel_rfl)) rfl (by kernel_rfl) (fun hg=>(.cons rfl .nil))) ?_
    refine RegJ.op (Op1.valk (g:=((!(((decide ((97 : Int) ≤ (((ix a0 v1).toNat : Nat) : Int))) && (decide ((((ix a0 v1).toNat : Nat) : Int) ≤ (122 : Int)))) || ((decide ((65 : Int) ≤ (((ix a0 v1).toNat : Nat) : Int))) && (decide ((((ix a0 v1).toNat : Nat) : Int) ≤ (90 : Int)))))) && !(decide (v1 = 0))) && ((((ix a0 v1).toNat : Nat) : Int) != (45 : Int))) (v:=vb (decide ((((ix a0 v1).toNat : Nat) : Int) < (48 : Int)))) _ _ (cz (IG 38 (.bin .lss false (.t 37) (.c (.p (.int .u8 48)))) 36 true) (by kernel_rfl)) rfl (by kernel_rfl) (fun hg=>(.cons hg (.cons rfl .nil)))) ?_
    refine RegJ.op (Op1.valk (g:=((!(((decide ((97 : Int) ≤ (((ix a0 v1).toNat : Nat) : Int))) && (decide ((((ix a0 v1).toNat : Nat) : Int) ≤ (122 : Int)))) || ((decide ((65 : Int) ≤ (((ix a0 v1).toNat : Nat) : Int))) && (decide ((((ix a0 v1).toNat : Nat) : Int) ≤ (90 : Int)))))) && !(decide (v1 = 0))) && ((((ix a0 v1).toNat : Nat) : Int) != (45 : Int))) (v:=vb (decide ((((ix a0 v1).toNat : Nat) : Int) < (48 : Int)))) _ _ (cz (IG 39 (.mov (.t 38)) 36 true) (by kernel_rfl)) rfl (by kernel_rfl) (fun hg=>(.cons hg .nil))) ?_
    refine RegJ.op (Op1.valk (g:=(((!(((decide ((97 : Int) ≤ (((ix a0 v1).toNat : Nat) : Int))) && (decide ((((ix a0 v1).toNat : Nat) : Int) ≤ (122 : Int)))) || ((decide ((65 : Int) ≤ (((ix a0 v1).toNat : Nat) : Int))) && (decide ((((ix a0 v1).toNat : Nat) : Int) ≤ (90 : Int)))))) && !(decide (v1 = 0))) && ((((ix a0 v1).toNat : Nat) : Int) != (45 : Int))) && !(decide ((((ix a0 v1).toNat : Nat) : Int) < (48 : Int)))) (v:=vk .u8 (((ix a0 v1).toNat : Nat) : Int)) _ _ (cz (IG 40 (.mov (.t 4)) 39 false) (by kernel_rfl)) rfl (by kernel_rfl) (fun hg=>(.cons rfl .nil))) ?_
    refine RegJ.op (Op1.valk (g:=(((!(((decide ((97 : Int) ≤ (((ix a0 v1).toNat : Nat) : Int))) && (decide ((((ix a0 v1).toNat : Nat) : Int) ≤ (122 : Int)))) || ((decide ((65 : Int) ≤ (((ix a0 v1).toNat : Nat) : Int))) && (decide ((((ix a0 v1).toNat : Nat) : Int) ≤ (90 : Int)))))) && !(decide (v1 = 0))) && ((((ix a0 v1).toNat : Nat) : Int) != (45 : Int))) && !(decide ((((ix a0 v1).toNat : Nat) : Int) < (48 : Int)))) (v:=vb (decide ((57 : Int) < (((ix a0 v1).toNat : Nat) : Int)))) _ _ (cz (IG 41 (.bin .gtr false (.t 40) (.c (.p (.int .u8 57)))) 39 false) (by kernel_rfl)) rfl (by kernel_rfl) (fun hg=>(.cons hg (.cons rfl .nil)))) ?_
    refine RegJ.op (Op1.org (g:=((!(((decide ((97 : Int) ≤ (((ix a0 v1).toNat : Nat) : Int))) && (decide ((((ix a0 v1).toNat : Nat) : Int) ≤ (122 : Int)))) || ((decide ((65 : Int) ≤ (((ix a0 v1).toNat : Nat) : Int))) && (decide ((((ix a0 v1).toNat : Nat) : Int) ≤ (90 : Int)))))) && !(decide (v1 = 0))) && ((((ix a0 v1).toNat : Nat) : Int) != (45 : Int))) (cz (IG 42 (.pick (.t 39) (.c (.p (.bool true))) (.t 41)) 36 true) (by kernel_rfl)) rfl rfl rfl (fun hg=>by first | exact hokO2 hg | exact hokO3 hg | exact hokO1 | exact hokO0 | (rw [hg]; simp) | simp_all)) ?_
    refine RegJ.op (Op1.andg (g:=(!(((decide ((97 : Int) ≤ (((ix a0 v1).toNat : Nat) : Int))) && (decide ((((ix a0 v1).toNat : Nat) : Int) ≤ (122 : Int)))) || ((decide ((65 : Int) ≤ (((ix a0 v1).toNat : Nat) : Int))) && (decide ((((ix a0 v1).toNat : Nat) : Int) ≤ (90 : Int)))))) && !(decide (v1 = 0))) (cz (IG 43 (.pick (.t 36) (.t 42) (.c (.p (.bool false)))) 33 false) (by kernel_rfl)) rfl rfl rfl (fun hg=>by first | exact hokA2 hg | exact hokA3 hg | exact hokA1 | exact hokA0 | (rw [hg]; simp) | simp_all)) ?_
    refine RegJ.op (Op1.org (g:=!(((decide ((97 : Int) ≤ (((ix a0 v1).toNat : Nat) : Int))) && (decide ((((ix a0 v1).toNat : Nat) : Int) ≤ (122 : Int)))) || ((decide ((65 : Int) ≤ (((ix a0 v1).toNat : Nat) : Int))) && (decide ((((ix a0 v1).toNat : Nat) : Int) ≤ (90 : Int)))))) (cz (IG 44 (.pick (.t 33) (.c (.p (.bool true))) (.t 43)) 30 true) (by kernel_rfl)) rfl rfl rfl (fun hg=>by first | exact hokO2 hg | exact hokO3 hg | exact hokO1 | exact hokO0 | (rw [hg]; simp) | simp_all)) ?_
    refine RegJ.op (Op1.and (cz (I0 45 (.pick (.t 30) (.t 44) (.c (.p (.bool false))))) (by kernel_rfl)) rfl rfl (by first | exact hokA1 | exact hokA0 | simp)) ?_
    refine jd [(0,vt a0),(7,eS 1 vbyte a0),(8,vi ((a0.length : Nat) : Int)),(9,vi ((v1 : Nat) : Int)),(45,vb ((!(((decide ((97 : Int) ≤ (((ix a0 v1).toNat : Nat) : Int))) && (decide ((((ix a0 v1).toNat : Nat) : Int) ≤ (122 : Int)))) || ((decide ((65 : Int) ≤ (((ix a0 v1).toNat : Nat) : Int))) && (decide ((((ix a0 v1).toNat : Nat) : Int) ≤ (90 : Int)))))) && ((decide (v1 = 0)) || (((((ix a0 v1).toNat : Nat) : Int) != (45 : Int)) && ((decide ((((ix a0 v1).toNat : Nat) : Int) < (48 : Int))) || (decide ((57 : Int) < (((ix a0 v1).toNat : Nat) : Int))))))))] (by kernel_rfl) rfl ?_
    refine TriE.cond (b:=(!(((decide ((97 : Int) ≤ (((ix a0 v1).toNat : Nat) : Int))) && (decide ((((ix a0 v1).toNat : Nat) : Int) ≤ (122 : Int)))) || ((decide ((65 : Int) ≤ (((ix a0 v1).toNat : Nat) : Int))) && (decide ((((ix a0 v1).toNat : Nat) : Int) ≤ (90 : Int)))))) && ((decide (v1 = 0)) || (((((ix a0 v1).toNat : Nat) : Int) != (45 : Int)) && ((decide ((((ix a0 v1).toNat : Nat) : Int) < (48 : Int))) || (decide ((57 : Int) < (((ix a0 v1).toNat : Nat) : Int))))))) rfl (fun c2=>?_) (fun c2=>?_)
    · have h:=cond_t h c2
      refine TriE.seq ?_
      refine TriE.run [(2,vb false)] [] (by kernel_rfl) ?_
      refine TriE.ret ?_
      have h:=Option.some.inj h
      subst h
      exact DoneS.ret (S':=⟨[(2,vb false)],[]⟩) Sees.refl rfl rfl
    have h:=cond_f h c2
    refine TriE.skip ?_
    refine TriE.regJ ?_
    obtain ⟨c3,h⟩:=chk_some h
    refine jv (vi ((v1 + 1 : Nat) : Int)) (cz (I0 46 (.bin .add false (.t 9) (.c (.p (.int .i64 1))))) (by kernel_rfl)) (r_addn (i:=v1) (j:=1) rfl rfl c3) rfl ?_
    refine jrd 1 [(0,vt a0),(7,eS 1 vbyte a0),(8,vi ((a0.length : Nat) : Int)),(9,vi ((v1 + 1 : Nat) : Int))] [] (by kernel_rfl) rfl ?_
    exact Vs.intro (sl (by kernel_rfl)) ⟨(v1 + 1),rfl,h⟩
  have h:=cond_f h c1
  refine TriE.exit ?_
  exact Vs.intro (sl (by kernel_rfl)) ⟨(),rfl,h⟩
theorem restore_list_find_f1_ok (n : Nat) (a0 : Task) (a1 : Str) (r : Unit) (h : restore_list_find_f1 n a0 a1 = some r) : FnL Tryz.prog 164 [.agg [vt a0.Name,vi a0.Cents,vi a0.Hours,eS 1 vt a0.Needs,eS 1 (eS 1 vt) a0.OneOf,eS 2 ePartCount a0.Parts],.ptr 0 0 0] [some (.row 1 [vt a1])] (vb (a0.Name == a1)) [some (.row 1 [vt a1])] := by
 dsimp only [restore_list_find_f1] at h
 refine fob [3] Tryz.call164 Tryz.func164 rfl (.cons rfl .nil) ?_
 refine sko (.d (.k (.i 2 (.ptr 1 0 0) .n))) [some (.row 1 [vt a1]),some (.row 6 [.agg [vt a0.Name,vi a0.Cents,vi a0.Hours,eS 1 vt a0.Needs,eS 1 (eS 1 vt) a0.OneOf,eS 2 ePartCount a0.Parts]])] ?_
 refine sk (.i 3 (vb (a0.Name == a1)) .n) ?_
 refine q3 ?_
 have h:=si h
 subst h
 exact DoneS.ret (S' := ⟨[(3,vb (a0.Name == a1))],[some (.row 1 [vt a1])]⟩) (sc [0] (by decide) (by kernel_rfl) (.cons rfl .nil) rfl rfl) rfl rfl
theorem slices_IndexFunc_Task_ok (n : Nat) (a0 : List Task) (a1 : Str) (r : Int) (h : slices_IndexFunc_Task n a0 a1 = some r) : FnL Tryz.prog 151 [eS 6 eTask a0,.fn (.func 164) [] [.ptr 0 0 0]] [some (.row 1 [vt a1])] (vi r) [some (.row 1 [vt a1])] := by
 dsimp only [slices_IndexFunc_Task] at h
 refine fob [4] Tryz.call151 Tryz.func151 rfl (.cons rfl .nil) ?_
 refine sk .a ?_
 refine TriE.seqK h (fun (_ : Unit)=>St.mk [] [some (.row 1 [vt a1])]) ?_ ?_
 ·rintro ⟨⟩ h
  refine sk (.i 4 (vi (-1)) .n) ?_
  refine q3 ?_
  have h:=si h
  subst h
  exact DoneS.ret Sees.refl rfl rfl
 intro k1 h
 refine sj ?_
 refine rk 1 (.k2 (.i 6 (eS 6 eTask a0) .n)) ?_
 refine jo 7 (.len 0 6) (ok_len_m rfl) ?_
 refine jk 1 (.d (.k2 (.i 7 (vi (a0.length : Int)) (.i 8 (vi 0) .n)))) ?_
 refine q4 ?_
 refine ts (.k3 (.i 8 (vi 0) .n)) ?_
 refine TriE.loopN h (fun (v2 : Nat)=>St.mk [(0,eS 6 eTask a0),(1,.fn (.func 164) [] [.ptr 0 0 0]),(7,vi (a0.length : Int)),(8,vi v2)] [some (.row 1 [vt a1])]) rfl ?_
 clear h
 rintro back v2 h
 dsimp only [slices_IndexFunc_Task_L1] at h
 refine sj ?_
 refine jo 9 (.bin .lss false 8 7) (n_lss (i:=v2) (j:=a0.length) rfl rfl) ?_
 refine jf (.d (.k4 (.i 9 (vb (decide (v2 < a0.length))) .n))) ?_
 refine q1 ?_
 refine tc h (fun c1 h=>?_) (fun c1 h=>?_)
 ·refine q2 ?_
  refine q7 ?_
  refine sk (.k4 (.i 5 (vi v2) .n)) ?_
  refine sj ?_
  refine rk 3 (.k4 (.k (.i 11 (.fn (.func 164) [] [.ptr 0 0 0]) (.i 12 (eS 6 eTask a0) (.i 13 (vi v2) .n))))) ?_
  refine jo 14 (.iaddr 6 12 13) (ok_iaddr_m (j:=v2) rfl rfl rfl c1) ?_
  refine jo 15 (.load true 6 14) (ok_load_fm (v:=.agg [vt ((ix a0 v2).Name),vi ((ix a0 v2).Cents),vi ((ix a0 v2).Hours),eS 1 vt ((ix a0 v2).Needs),eS 1 (eS 1 vt) ((ix a0 v2).OneOf),eS 2 ePartCount ((ix a0 v2).Parts)]) rfl c1 rfl) ?_
  obtain ⟨y3,hy3,h⟩:=bs h
  refine jy (vb ((ix a0 v2).Name == a1)) 16 11 [15] rfl (restore_list_find_f1_ok n (ix a0 v2) a1 y3 hy3) [0] rfl (.cons rfl .nil) (.cons rfl .nil) rfl ?_
  refine jf (.d3 (.k4 (.k (.i 16 (vb ((ix a0 v2).Name == a1)) .n)))) ?_
  refine tc h (fun c2 h=>?_) (fun c2 h=>?_)
  ·refine sk (.i 4 (vi v2) .n) ?_
   refine q3 ?_
   have h:=si h
   subst h
   exact DoneS.ret Sees.refl rfl rfl
  refine q2 ?_
  refine q6 ?_
  obtain ⟨c3,h⟩:=ck h
  refine jo 18 (.bin .add false 8 (ki 1)) (r_addn (i:=v2) (j:=1) rfl rfl c3) ?_
  refine jk 1 (.d (.k3 (.i 8 (vi ((v2 + 1 : Nat) : Int)) .n))) ?_
  exact Vs.intro sy ⟨(v2 + 1),rfl,h⟩
 refine q5 ?_
 exact Vs.intro sy ⟨(),rfl,h⟩
theorem restore_list_find_ok (n : Nat) (a0 : List Task) (a1 : Str) (r : Int) (h : restore_list_find n a0 a1 = some r) : FnL Tryz.prog 109 [eS 6 eTask a0,vt a1] [] (vi r) [] := by
 dsimp only [restore_list_find] at h
 refine fo [4] Tryz.call109 Tryz.func109 rfl ?_
 refine sko (.k (.i 3 (.ptr 0 0 0) .n)) [some (.row 1 [vt a1])] ?_
 refine sj ?_
 refine rk 2 (.i 5 (eS 6 eTask a0) (.i 6 (.fn (.func 164) [] [.ptr 0 0 0]) .n)) ?_
 obtain ⟨y1,hy1,h⟩:=bs h
 refine jco (vi y1) 7 [5,6] (slices_IndexFunc_Task_ok n a0 a1 y1 hy1) [0] rfl (.cons rfl .nil) (.cons rfl .nil) rfl ?_
 refine jk 1 (.i 4 (vi y1) .n) ?_
 refine q3 ?_
 have h:=si h
 subst h
 exact DoneS.ret (S' := ⟨[(4,vi y1)],[]⟩) (sc [] (by decide) (by kernel_rfl) ObRen.nil rfl rfl) rfl rfl
theorem restore_within_ok (n : Nat) (a0 : Int) (a1 : Int) (a2 : Int) (r : Unit) (h : q53k n a0 a1 a2 = some r) : FnL Tryz.prog 88 [vi a0,vi a1,vi a2] [] (vb ((decide (a1 ≤ a0)) && (decide (a0 ≤ a2)))) [] := by
 dsimp only [q53k] at h
 refine fo [6] Tryz.call88 Tryz.func88 rfl ?_
 refine sk .a ?_
 refine sj ?_
 refine rk 4 (.k (.d (.k (.i 10 (vb (decide (a1 ≤ a0))) .n)))) ?_
 refine gj (vi a0) 11 (.mov 0) 10 true rfl ?_
 refine gj (vi a2) 12 (.mov 2) 10 true rfl ?_
 refine gk (vb (decide (a0 ≤ a2))) 13 (.bin .leq false 11 12) 10 true rfl (fun hg=>(.cons hg (.cons hg .nil))) ?_
 refine pa 14 10 13 rfl rfl ?_
 refine jk 1 (.i 6 (vb ((decide (a1 ≤ a0)) && (decide (a0 ≤ a2)))) .n) ?_
 refine q3 ?_
 have h:=si h
 subst h
 exact DoneS.ret Sees.refl rfl rfl
theorem restore_list_checkTask_f1_ok (n : Nat) (a0 : List Str) (r : Unit) (h : restore_list_checkTask_f1 n a0 = some r) : FnL Tryz.prog 148 [eS 1 vt a0] [] (vb (decide (6 < a0.length))) [] := by
 dsimp only [restore_list_checkTask_f1] at h
 refine fo [2] Tryz.call148 Tryz.func148 rfl ?_
 refine sk .a ?_
 refine sj ?_
 refine rk 1 (.i 3 (eS 1 vt a0) .n) ?_
 refine jo 4 (.len 0 3) (ok_len_m rfl) ?_
 refine jo 5 (.bin .gtr false 4 (ki 6)) (n_gtr (i:=a0.length) (j:=6) rfl rfl) ?_
 refine jk 1 (.i 2 (vb (decide (6 < a0.length))) .n) ?_
 refine q3 ?_
 have h:=si h
 subst h
 exact DoneS.ret Sees.refl rfl rfl
theorem slices_IndexFunc_string_ok (n : Nat) (a0 : List (List Str)) (r : Int) (h : slices_IndexFunc_string n a0 = some r) : FnL Tryz.prog 165 [eS 1 (eS 1 vt) a0,.fn (.func 148) [] []] [] (vi r) [] := by
 dsimp only [slices_IndexFunc_string] at h
 refine fo [4] Tryz.call165 Tryz.func165 rfl ?_
 refine sk .a ?_
 refine TriE.seqK h (fun (_ : Unit)=>St.mk [] []) ?_ ?_
 ·rintro ⟨⟩ h
  refine sk (.i 4 (vi (-1)) .n) ?_
  refine q3 ?_
  have h:=si h
  subst h
  exact DoneS.ret Sees.refl rfl rfl
 intro k1 h
 refine sj ?_
 refine rk 1 (.k2 (.i 6 (eS 1 (eS 1 vt) a0) .n)) ?_
 refine jo 7 (.len 0 6) (ok_len_m rfl) ?_
 refine jk 1 (.d (.k2 (.i 7 (vi (a0.length : Int)) (.i 8 (vi 0) .n)))) ?_
 refine q4 ?_
 refine ts (.k3 (.i 8 (vi 0) .n)) ?_
 refine TriE.loopN h (fun (v2 : Nat)=>St.mk [(0,eS 1 (eS 1 vt) a0),(1,.fn (.func 148) [] []),(7,vi (a0.length : Int)),(8,vi v2)] []) rfl ?_
 clear h
 rintro back v2 h
 dsimp only [slices_IndexFunc_string_L1] at h
 refine sj ?_
 refine jo 9 (.bin .lss false 8 7) (n_lss (i:=v2) (j:=a0.length) rfl rfl) ?_
 refine jf (.d (.k4 (.i 9 (vb (decide (v2 < a0.length))) .n))) ?_
 refine q1 ?_
 refine tc h (fun c1 h=>?_) (fun c1 h=>?_)
 ·refine q2 ?_
  refine q7 ?_
  refine sk (.k4 (.i 5 (vi v2) .n)) ?_
  refine sj ?_
  refine rk 3 (.k4 (.k (.i 11 (.fn (.func 148) [] []) (.i 12 (eS 1 (eS 1 vt) a0) (.i 13 (vi v2) .n))))) ?_
  refine jo 14 (.iaddr 1 12 13) (ok_iaddr_m (j:=v2) rfl rfl rfl c1) ?_
  refine jo 15 (.load false 1 14) (ok_load_fm (v:=eS 1 vt (ix a0 v2)) rfl c1 rfl) ?_
  obtain ⟨y3,hy3,h⟩:=bs h
  refine jy (vb (decide (6 < (ix a0 v2).length))) 16 11 [15] rfl (restore_list_checkTask_f1_ok n (ix a0 v2) y3 hy3) [] rfl ObsRen.nil ObsRen.nil rfl ?_
  refine jf (.d3 (.k4 (.k (.i 16 (vb (decide (6 < (ix a0 v2).length))) .n)))) ?_
  refine tc h (fun c2 h=>?_) (fun c2 h=>?_)
  ·refine sk (.i 4 (vi v2) .n) ?_
   refine q3 ?_
   have h:=si h
   subst h
   exact DoneS.ret Sees.refl rfl rfl
  refine q2 ?_
  refine q6 ?_
  obtain ⟨c3,h⟩:=ck h
  refine jo 18 (.bin .add false 8 (ki 1)) (r_addn (i:=v2) (j:=1) rfl rfl c3) ?_
  refine jk 1 (.d (.k3 (.i 8 (vi ((v2 + 1 : Nat) : Int)) .n))) ?_
  exact Vs.intro sy ⟨(v2 + 1),rfl,h⟩
 refine q5 ?_
 exact Vs.intro sy ⟨(),rfl,h⟩
theorem slices_ContainsFunc_string_ok (n : Nat) (a0 : List (List Str)) (r : Bool) (h : q51k n a0 = some r) : FnL Tryz.prog 110 [eS 1 (eS 1 vt) a0,.fn (.func 148) [] []] [] (vb r) [] := by
 dsimp only [q51k] at h
 refine fo [4] Tryz.call110 Tryz.func110 rfl ?_
 refine sk .a ?_
 refine sj ?_
 refine rk 2 (.i 5 (eS 1 (eS 1 vt) a0) (.i 6 (.fn (.func 148) [] []) .n)) ?_
 obtain ⟨y1,hy1,h⟩:=bs h
 refine jc 7 [5,6] (slices_IndexFunc_string_ok n a0 y1 hy1) ?_
 refine jk 2 (.i 4 (vb (decide ((0 : Int) ≤ y1))) .n) ?_
 refine q3 ?_
 have h:=si h
 subst h
 exact DoneS.ret Sees.refl rfl rfl
theorem slices_Index_string_ok (n : Nat) (a0 : List Str) (a1 : Str) (r : Int) (h : slices_Index_string n a0 a1 = some r) : FnL Tryz.prog 185 [eS 1 vt a0,vt a1] [] (vi r) [] := by
 dsimp only [slices_Index_string] at h
 refine fo [4] Tryz.call185 Tryz.func185 rfl ?_
 refine sk .a ?_
 refine TriE.seqK h (fun (_ : Unit)=>St.mk [] []) ?_ ?_
 ·rintro ⟨⟩ h
  refine sk (.i 4 (vi (-1)) .n) ?_
  refine q3 ?_
  have h:=si h
  subst h
  exact DoneS.ret Sees.refl rfl rfl
 intro k1 h
 refine sj ?_
 refine rk 1 (.k2 (.i 6 (eS 1 vt a0) .n)) ?_
 refine jo 7 (.len 0 6) (ok_len_m rfl) ?_
 refine jk 1 (.d (.k2 (.i 7 (vi (a0.length : Int)) (.i 8 (vi 0) .n)))) ?_
 refine q4 ?_
 refine ts (.k3 (.i 8 (vi 0) .n)) ?_
 refine TriE.loopN h (fun (v1 : Nat)=>St.mk [(0,eS 1 vt a0),(1,vt a1),(7,vi (a0.length : Int)),(8,vi v1)] []) rfl ?_
 clear h
 rintro back v1 h
 dsimp only [slices_Index_string_L1] at h
 refine sj ?_
 refine jo 9 (.bin .lss false 8 7) (n_lss (i:=v1) (j:=a0.length) rfl rfl) ?_
 refine jf (.d (.k4 (.i 9 (vb (decide (v1 < a0.length))) .n))) ?_
 refine q1 ?_
 refine tc h (fun c1 h=>?_) (fun c1 h=>?_)
 ·refine q2 ?_
  refine q7 ?_
  refine sk (.k4 (.i 5 (vi v1) .n)) ?_
  refine sj ?_
  refine rk 3 (.k4 (.k (.i 11 (vt a1) (.i 12 (eS 1 vt a0) (.i 13 (vi v1) .n))))) ?_
  refine jo 14 (.iaddr 1 12 13) (ok_iaddr_m (j:=v1) rfl rfl rfl c1) ?_
  refine jo 15 (.load false 1 14) (ok_load_fm (v:=vt (ix a0 v1)) rfl c1 rfl) ?_
  refine jk 1 (.d2 (.k4 (.k (.i 16 (vb (a1 == (ix a0 v1))) .n)))) ?_
  refine tc h (fun c2 h=>?_) (fun c2 h=>?_)
  ·refine sk (.i 4 (vi v1) .n) ?_
   refine q3 ?_
   have h:=si h
   subst h
   exact DoneS.ret Sees.refl rfl rfl
  refine q2 ?_
  refine q6 ?_
  obtain ⟨c3,h⟩:=ck h
  refine jo 18 (.bin .add false 8 (ki 1)) (r_addn (i:=v1) (j:=1) rfl rfl c3) ?_
  refine jk 1 (.d (.k3 (.i 8 (vi ((v1 + 1 : Nat) : Int)) .n))) ?_
  exact Vs.intro sy ⟨(v1 + 1),rfl,h⟩
 refine q5 ?_
 exact Vs.intro sy ⟨(),rfl,h⟩
theorem slices_Contains_string_ok (n : Nat) (a0 : List Str) (a1 : Str) (r : Bool) (h : slices_Contains_string n a0 a1 = some r) : FnL Tryz.prog 150 [eS 1 vt a0,vt a1] [] (vb r) [] := by
 dsimp only [slices_Contains_string] at h
 refine fo [4] Tryz.call150 Tryz.func150 rfl ?_
 refine sk .a ?_
 refine sj ?_
 refine rk 2 (.i 5 (eS 1 vt a0) (.i 6 (vt a1) .n)) ?_
 obtain ⟨y1,hy1,h⟩:=bs h
 refine jc 7 [5,6] (slices_Index_string_ok n a0 a1 y1 hy1) ?_
 refine jk 2 (.i 4 (vb (decide ((0 : Int) ≤ y1))) .n) ?_
 refine q3 ?_
 have h:=si h
 subst h
 exact DoneS.ret Sees.refl rfl rfl
theorem restore_list_known_ok (n : Nat) (a0 : List Task) (a1 : List Str) (r : Int) (h : restore_list_known n a0 a1 = some r) : FnL Tryz.prog 93 [eS 6 eTask a0,eS 1 vt a1] [] (vi r) [] := by
 dsimp only [restore_list_known] at h
 refine fo [4] Tryz.call93 Tryz.func93 rfl ?_
 refine sk .a ?_
 refine TriE.seqK h (fun (_ : Unit)=>St.mk [] []) ?_ ?_
 ·rintro ⟨⟩ h
  refine sk (.i 4 (vi 0) .n) ?_
  refine q3 ?_
  have h:=si h
  subst h
  exact DoneS.ret Sees.refl rfl rfl
 intro k1 h
 refine sj ?_
 refine rk 1 (.k2 (.i 7 (eS 1 vt a1) .n)) ?_
 refine jo 8 (.len 0 7) (ok_len_m rfl) ?_
 refine jk 1 (.d (.k3 (.i 8 (vi (a1.length : Int)) (.i 9 (vi 0) .n)))) ?_
 refine q4 ?_
 refine ts (.k4 (.i 9 (vi 0) .n)) ?_
 refine TriE.loopN h (fun (v3 : Nat)=>St.mk [(0,eS 6 eTask a0),(1,eS 1 vt a1),(7,eS 1 vt a1),(8,vi (a1.length : Int)),(9,vi v3)] []) rfl ?_
 clear h
 rintro back v3 h
 dsimp only [restore_list_known_L1] at h
 refine sj ?_
 refine jo 10 (.bin .lss false 9 8) (n_lss (i:=v3) (j:=a1.length) rfl rfl) ?_
 refine jf (.d (.k4 (.k (.i 10 (vb (decide (v3 < a1.length))) .n)))) ?_
 refine q1 ?_
 refine tc h (fun c1 h=>?_) (fun c1 h=>?_)
 ·refine q2 ?_
  refine q7 ?_
  refine sj ?_
  refine rk 1 (.k4 (.k (.i 11 (vi v3) .n))) ?_
  refine jo 12 (.iaddr 1 7 9) (ok_iaddr_m (j:=v3) rfl rfl rfl c1) ?_
  refine jo 13 (.load false 1 12) (ok_load_fm (v:=vt (ix a1 v3)) rfl c1 rfl) ?_
  refine jk 2 (.d2 (.k4 (.k (.i 5 (vi v3) (.i 6 (vt (ix a1 v3)) .n))))) ?_
  refine q4 ?_
  refine sj ?_
  refine rk 2 (.k4 (.k3 (.i 15 (eS 6 eTask a0) (.i 16 (vt (ix a1 v3)) .n)))) ?_
  obtain ⟨y4,hy4,h⟩:=bs h
  refine jc 17 [15,16] (restore_list_find_ok n a0 (ix a1 v3) y4 hy4) ?_
  refine jk 2 (.d (.k4 (.k3 (.i 14 (vb (decide (y4 < (0 : Int)))) .n)))) ?_
  refine tc h (fun c2 h=>?_) (fun c2 h=>?_)
  ·refine sk (.i 4 (vi 6) .n) ?_
   refine q3 ?_
   have h:=si h
   subst h
   exact DoneS.ret Sees.refl rfl rfl
  refine sj ?_
  refine rk 2 (.k4 (.k (.d (.k (.i 20 (eS 1 vt a1) (.i 21 (vi v3) .n)))))) ?_
  obtain ⟨c3,h⟩:=ck h
  refine jo 22 (.slc 1 20 none (some 21) none) (ok_slc_hi (j:=v3) rfl rfl rfl c3) ?_
  refine rk 1 (.d (.k4 (.k (.i 22 (eS 1 vt (List.take v3 a1)) (.i 23 (vt (ix a1 v3)) .n))))) ?_
  obtain ⟨y5,hy5,h⟩:=bs h
  refine jc 24 [22,23] (slices_Contains_string_ok n (List.take v3 a1) (ix a1 v3) y5 hy5) ?_
  refine jk 1 (.d (.k4 (.k (.i 19 (vb y5) .n)))) ?_
  refine tc h (fun c4 h=>?_) (fun c4 h=>?_)
  ·refine sk (.i 4 (vi 5) .n) ?_
   refine q3 ?_
   have h:=si h
   subst h
   exact DoneS.ret Sees.refl rfl rfl
  refine q2 ?_
  refine q6 ?_
  obtain ⟨c5,h⟩:=ck h
  refine jo 25 (.bin .add false 9 (ki 1)) (r_addn (i:=v3) (j:=1) rfl rfl c5) ?_
  refine jk 1 (.d (.k4 (.i 9 (vi ((v3 + 1 : Nat) : Int)) .n))) ?_
  exact Vs.intro sy ⟨(v3 + 1),rfl,h⟩
 refine q5 ?_
 exact Vs.intro sy ⟨(),rfl,h⟩
theorem restore_checkCounts_f1_ok (n : Nat) (a0 : PartCount) (a1 : Str) (a2 : Int) (r : Unit) (h : restore_checkCounts_f1 n a0 a1 a2 = some r) : FnL Tryz.prog 161 [.agg [vt a0.Part,vi a0.Count],.ptr 0 0 0] [some (.row 2 [.agg [vt a1,vi a2]])] (vb (a0.Part == a1)) [some (.row 2 [.agg [vt a1,vi a2]])] := by
 dsimp only [restore_checkCounts_f1] at h
 refine fob [3] Tryz.call161 Tryz.func161 rfl (.cons rfl .nil) ?_
 refine sko (.d (.k (.i 2 (.ptr 1 0 0) .n))) [some (.row 2 [.agg [vt a1,vi a2]]),some (.row 2 [.agg [vt a0.Part,vi a0.Count]])] ?_
 refine sk (.i 3 (vb (a0.Part == a1)) .n) ?_
 refine q3 ?_
 have h:=si h
 subst h
 exact DoneS.ret (S' := ⟨[(3,vb (a0.Part == a1))],[some (.row 2 [.agg [vt a1,vi a2]])]⟩) (sc [0] (by decide) (by kernel_rfl) (.cons rfl .nil) rfl rfl) rfl rfl
theorem slices_IndexFunc_PartCount_ok (n : Nat) (a0 : List PartCount) (a1 : Str) (a2 : Int) (r : Int) (h : slices_IndexFunc_PartCount n a0 a1 a2 = some r) : FnL Tryz.prog 197 [eS 2 ePartCount a0,.fn (.func 161) [] [.ptr 0 0 0]] [some (.row 2 [.agg [vt a1,vi a2]])] (vi r) [some (.row 2 [.agg [vt a1,vi a2]])] := by
 dsimp only [slices_IndexFunc_PartCount] at h
 refine fob [4] Tryz.call197 Tryz.func197 rfl (.cons rfl .nil) ?_
 refine sk .a ?_
 refine TriE.seqK h (fun (_ : Unit)=>St.mk [] [some (.row 2 [.agg [vt a1,vi a2]])]) ?_ ?_
 ·rintro ⟨⟩ h
  refine sk (.i 4 (vi (-1)) .n) ?_
  refine q3 ?_
  have h:=si h
  subst h
  exact DoneS.ret Sees.refl rfl rfl
 intro k1 h
 refine sj ?_
 refine rk 1 (.k2 (.i 6 (eS 2 ePartCount a0) .n)) ?_
 refine jo 7 (.len 0 6) (ok_len_m rfl) ?_
 refine jk 1 (.d (.k2 (.i 7 (vi (a0.length : Int)) (.i 8 (vi 0) .n)))) ?_
 refine q4 ?_
 refine ts (.k3 (.i 8 (vi 0) .n)) ?_
 refine TriE.loopN h (fun (v2 : Nat)=>St.mk [(0,eS 2 ePartCount a0),(1,.fn (.func 161) [] [.ptr 0 0 0]),(7,vi (a0.length : Int)),(8,vi v2)] [some (.row 2 [.agg [vt a1,vi a2]])]) rfl ?_
 clear h
 rintro back v2 h
 dsimp only [q57k] at h
 refine sj ?_
 refine jo 9 (.bin .lss false 8 7) (n_lss (i:=v2) (j:=a0.length) rfl rfl) ?_
 refine jf (.d (.k4 (.i 9 (vb (decide (v2 < a0.length))) .n))) ?_
 refine q1 ?_
 refine tc h (fun c1 h=>?_) (fun c1 h=>?_)
 ·refine q2 ?_
  refine q7 ?_
  refine sk (.k4 (.i 5 (vi v2) .n)) ?_
  refine sj ?_
  refine rk 3 (.k4 (.k (.i 11 (.fn (.func 161) [] [.ptr 0 0 0]) (.i 12 (eS 2 ePartCount a0) (.i 13 (vi v2) .n))))) ?_
  refine jo 14 (.iaddr 2 12 13) (ok_iaddr_m (j:=v2) rfl rfl rfl c1) ?_
  refine jo 15 (.load true 2 14) (ok_load_fm (v:=.agg [vt ((ix a0 v2).Part),vi ((ix a0 v2).Count)]) rfl c1 rfl) ?_
  obtain ⟨y3,hy3,h⟩:=bs h
  refine jy (vb ((ix a0 v2).Part == a1)) 16 11 [15] rfl (restore_checkCounts_f1_ok n (ix a0 v2) a1 a2 y3 hy3) [0] rfl (.cons rfl .nil) (.cons rfl .nil) rfl ?_
  refine jf (.d3 (.k4 (.k (.i 16 (vb ((ix a0 v2).Part == a1)) .n)))) ?_
  refine tc h (fun c2 h=>?_) (fun c2 h=>?_)
  ·refine sk (.i 4 (vi v2) .n) ?_
   refine q3 ?_
   have h:=si h
   subst h
   exact DoneS.ret Sees.refl rfl rfl
  refine q2 ?_
  refine q6 ?_
  obtain ⟨c3,h⟩:=ck h
  refine jo 18 (.bin .add false 8 (ki 1)) (r_addn (i:=v2) (j:=1) rfl rfl c3) ?_
  refine jk 1 (.d (.k3 (.i 8 (vi ((v2 + 1 : Nat) : Int)) .n))) ?_
  exact Vs.intro sy ⟨(v2 + 1),rfl,h⟩
 refine q5 ?_
 exact Vs.intro sy ⟨(),rfl,h⟩
theorem slices_ContainsFunc_PartCount_ok (n : Nat) (a0 : List PartCount) (a1 : Str) (a2 : Int) (r : Bool) (h : q43k n a0 a1 a2 = some r) : FnL Tryz.prog 160 [eS 2 ePartCount a0,.fn (.func 161) [] [.ptr 0 0 0]] [some (.row 2 [.agg [vt a1,vi a2]])] (vb r) [some (.row 2 [.agg [vt a1,vi a2]])] := by
 dsimp only [q43k] at h
 refine fob [4] Tryz.call160 Tryz.func160 rfl (.cons rfl .nil) ?_
 refine sk .a ?_
 refine sj ?_
 refine rk 2 (.i 5 (eS 2 ePartCount a0) (.i 6 (.fn (.func 161) [] [.ptr 0 0 0]) .n)) ?_
 obtain ⟨y1,hy1,h⟩:=bs h
 refine jco (vi y1) 7 [5,6] (slices_IndexFunc_PartCount_ok n a0 a1 a2 y1 hy1) [0] rfl (.cons rfl .nil) (.cons rfl .nil) rfl ?_
 refine jk 2 (.i 4 (vb (decide ((0 : Int) ≤ y1))) .n) ?_
 refine q3 ?_
 have h:=si h
 subst h
 exact DoneS.ret Sees.refl rfl rfl
theorem restore_checkCounts_ok (n : Nat) (a0 : List PartCount) (a1 : Int) (r : Int) (h : q59k n a0 a1 = some r) : FnL Tryz.prog 100 [eS 2 ePartCount a0,vi a1] [] (vi r) [] := by
 dsimp only [q59k] at h
 refine fo [4] Tryz.call100 Tryz.func100 rfl ?_
 refine sk .a ?_
 refine TriE.seqK h (fun (_ : Unit)=>St.mk [] []) ?_ ?_
 ·rintro ⟨⟩ h
  refine sk (.i 4 (vi 0) .n) ?_
  refine q3 ?_
  have h:=si h
  subst h
  exact DoneS.ret Sees.refl rfl rfl
 intro k1 h
 refine sj ?_
 refine rk 1 (.k2 (.i 7 (eS 2 ePartCount a0) .n)) ?_
 refine jo 8 (.len 0 7) (ok_len_m rfl) ?_
 refine jk 1 (.d (.k3 (.i 8 (vi (a0.length : Int)) (.i 9 (vi 0) .n)))) ?_
 refine q4 ?_
 refine ts (.k4 (.i 9 (vi 0) .n)) ?_
 refine TriE.loopN h (fun (v4 : Nat)=>St.mk [(0,eS 2 ePartCount a0),(1,vi a1),(7,eS 2 ePartCount a0),(8,vi (a0.length : Int)),(9,vi v4)] []) rfl ?_
 clear h
 rintro back v4 h
 dsimp only [restore_checkCounts_L1] at h
 refine sj ?_
 refine jo 10 (.bin .lss false 9 8) (n_lss (i:=v4) (j:=a0.length) rfl rfl) ?_
 refine jf (.d (.k4 (.k (.i 10 (vb (decide (v4 < a0.length))) .n)))) ?_
 refine q1 ?_
 refine tc h (fun c1 h=>?_) (fun c1 h=>?_)
 ·refine q2 ?_
  refine q7 ?_
  refine sj ?_
  refine rk 1 (.k4 (.k (.i 11 (vi v4) .n))) ?_
  refine jo 12 (.iaddr 2 7 9) (ok_iaddr_m (j:=v4) rfl rfl rfl c1) ?_
  refine jo 13 (.load true 2 12) (ok_load_fm (v:=.agg [vt ((ix a0 v4).Part),vi ((ix a0 v4).Count)]) rfl c1 rfl) ?_
  refine jko 3 (.d2 (.k4 (.k (.i 6 (.ptr 0 0 0) (.i 5 (vi v4) .n))))) [some (.row 2 [.agg [vt ((ix a0 v4).Part),vi ((ix a0 v4).Count)]])] ?_
  refine q4 ?_
  refine sj ?_
  refine rk 2 (.k4 (.k3 (.i 16 (vt ((ix a0 v4).Part)) .n))) ?_
  obtain ⟨y5,hy5,h⟩:=bs h
  refine jc 17 [16] (restore_isName_ok n ((ix a0 v4).Part) y5 hy5) ?_
  refine jk 2 (.d (.k4 (.k3 (.i 14 (vb (!y5)) .n)))) ?_
  refine tc h (fun c2 h=>?_) (fun c2 h=>?_)
  ·refine sk (.i 4 (vi 4) .n) ?_
   refine q3 ?_
   have h:=si h
   subst h
   exact DoneS.ret (S' := ⟨[(4,vi 4)],[]⟩) (sc [] (by decide) (by kernel_rfl) ObRen.nil rfl rfl) rfl rfl
  refine sj ?_
  refine rk 2 (.k4 (.k2 (.i 20 (eS 2 ePartCount a0) (.i 21 (vi v4) .n)))) ?_
  obtain ⟨c3,h⟩:=ck h
  refine jo 22 (.slc 2 20 none (some 21) none) (ok_slc_hi (j:=v4) rfl rfl rfl c3) ?_
  refine rk 1 (.d (.k4 (.k2 (.i 22 (eS 2 ePartCount (List.take v4 a0)) (.i 23 (.fn (.func 161) [] [.ptr 0 0 0]) .n))))) ?_
  obtain ⟨y6,hy6,h⟩:=bs h
  refine jco (vb y6) 24 [22,23] (slices_ContainsFunc_PartCount_ok n (List.take v4 a0) ((ix a0 v4).Part) ((ix a0 v4).Count) y6 hy6) [0] rfl (.cons rfl .nil) (.cons rfl .nil) rfl ?_
  refine jk 1 (.d (.k4 (.k2 (.i 19 (vb y6) .n)))) ?_
  refine tc h (fun c4 h=>?_) (fun c4 h=>?_)
  ·refine sk (.i 4 (vi 5) .n) ?_
   refine q3 ?_
   have h:=si h
   subst h
   exact DoneS.ret (S' := ⟨[(4,vi 5)],[]⟩) (sc [] (by decide) (by kernel_rfl) ObRen.nil rfl rfl) rfl rfl
  refine sj ?_
  refine rk 3 (.k4 (.k (.i 27 (vi ((ix a0 v4).Count)) (.i 28 (vi a1) .n)))) ?_
  obtain ⟨y7,hy7,h⟩:=bs h
  refine jc 29 [27,(ki 1),28] (restore_within_ok n ((ix a0 v4).Count) 1 a1 y7 hy7) ?_
  refine jk 2 (.d (.k4 (.k (.i 25 (vb (!((decide (1 ≤ ((ix a0 v4).Count))) && (decide (((ix a0 v4).Count) ≤ a1))))) .n)))) ?_
  refine tc h (fun c5 h=>?_) (fun c5 h=>?_)
  ·refine sk (.i 4 (vi 2) .n) ?_
   refine q3 ?_
   have h:=si h
   subst h
   exact DoneS.ret (S' := ⟨[(4,vi 2)],[]⟩) (sc [] (by decide) (by kernel_rfl) ObRen.nil rfl rfl) rfl rfl
  refine q2 ?_
  refine q6 ?_
  obtain ⟨c6,h⟩:=ck h
  refine jo 31 (.bin .add false 9 (ki 1)) (r_addn (i:=v4) (j:=1) rfl rfl c6) ?_
  refine jk 1 (.d (.k4 (.i 9 (vi ((v4 + 1 : Nat) : Int)) .n))) ?_
  exact Vs.intro (sc [] (by decide) (by kernel_rfl) ObRen.nil rfl rfl) ⟨(v4 + 1),rfl,h⟩
 refine q5 ?_
 exact Vs.intro sy ⟨(),rfl,h⟩
set_option maxHeartbeats 1000000 in
theorem restore_list_checkTask_ok (n : Nat) (a0 : List Task) (a1 : Int) (r : Int) (h : restore_list_checkTask n a0 a1 = some r) : FnL Tryz.prog 82 [eS 6 eTask a0,vi a1] [] (vi r) [] := by
 dsimp only [restore_list_checkTask] at h
 refine fo [4] Tryz.call82 Tryz.func82 rfl ?_
 refine sk .a ?_
 refine sj ?_
 refine rk 2 (.k2 (.i 11 (eS 6 eTask a0) (.i 12 (vi a1) .n))) ?_
 obtain ⟨c1,h⟩:=ck h
 refine jo 13 (.iaddr 6 11 12) (ok_iaddr_m (j:=a1.toNat) rfl rfl (inB_to c1) (inB_lt c1)) ?_
 obtain ⟨c2,h⟩:=ck h
 refine jo 14 (.load true 6 13) (ok_load_fm (v:=.agg [vt ((ix a0 a1.toNat).Name),vi ((ix a0 a1.toNat).Cents),vi ((ix a0 a1.toNat).Hours),eS 1 vt ((ix a0 a1.toNat).Needs),eS 1 (eS 1 vt) ((ix a0 a1.toNat).OneOf),eS 2 ePartCount ((ix a0 a1.toNat).Parts)]) rfl c2 rfl) ?_
 refine jko 2 (.d2 (.k2 (.i 5 (.ptr 0 0 0) .n))) [some (.row 6 [.agg [vt ((ix a0 a1.toNat).Name),vi ((ix a0 a1.toNat).Cents),vi ((ix a0 a1.toNat).Hours),eS 1 vt ((ix a0 a1.toNat).Needs),eS 1 (eS 1 vt) ((ix a0 a1.toNat).OneOf),eS 2 ePartCount ((ix a0 a1.toNat).Parts)]])] ?_
 refine sk (.k3 (.i 6 (.fn (.func 148) [] []) .n)) ?_
 refine q7 ?_
 refine sj ?_
 refine rk 2 (.k4 (.i 17 (vt ((ix a0 a1.toNat).Name)) .n)) ?_
 obtain ⟨y1,hy1,h⟩:=bs h
 refine jc 18 [17] (restore_isName_ok n ((ix a0 a1.toNat).Name) y1 hy1) ?_
 refine jk 2 (.d (.k4 (.i 15 (vb (!y1)) .n))) ?_
 refine tc h (fun c3 h=>?_) (fun c3 h=>?_)
 ·refine sk (.i 4 (vi 4) .n) ?_
  refine q3 ?_
  have h:=si h
  subst h
  exact DoneS.ret (S' := ⟨[(4,vi 4)],[]⟩) (sc [] (by decide) (by kernel_rfl) ObRen.nil rfl rfl) rfl rfl
 refine sj ?_
 refine rk 3 (.k4 (.i 21 (eS 6 eTask a0) (.i 23 (vt ((ix a0 a1.toNat).Name)) .n))) ?_
 obtain ⟨y2,hy2,h⟩:=bs h
 refine jc 24 [21,23] (restore_list_find_ok n a0 ((ix a0 a1.toNat).Name) y2 hy2) ?_
 refine jk 3 (.d (.k (.d (.k2 (.i 20 (vb (decide (y2 < a1))) .n))))) ?_
 refine tc h (fun c4 h=>?_) (fun c4 h=>?_)
 ·refine sk (.i 4 (vi 5) .n) ?_
  refine q3 ?_
  have h:=si h
  subst h
  exact DoneS.ret (S' := ⟨[(4,vi 5)],[]⟩) (sc [] (by decide) (by kernel_rfl) ObRen.nil rfl rfl) rfl rfl
 refine sj ?_
 refine rk 2 (.k3 (.i 29 (vi ((ix a0 a1.toNat).Cents)) .n)) ?_
 obtain ⟨y3,hy3,h⟩:=bs h
 refine jc 30 [29,(ki 0),(ki 1000000000)] (restore_within_ok n ((ix a0 a1.toNat).Cents) 0 1000000000 y3 hy3) ?_
 refine rk 2 (.d (.k3 (.i 32 (vb (!((decide (0 ≤ ((ix a0 a1.toNat).Cents))) && (decide (((ix a0 a1.toNat).Cents) ≤ 1000000000))))) .n))) ?_
 refine gj (.ptr 0 0 2) 33 (.faddr 2 5) 32 false rfl ?_
 refine gk (vi ((ix a0 a1.toNat).Hours)) 34 (.load false 1 33) 32 false rfl (fun hg=>(.cons hg .nil)) ?_
 obtain ⟨y4,hy4,h⟩:=bs h
 refine gc 35 [34,(ki 0),(ki 10000)] 32 false rfl (fun hg=>restore_within_ok n ((ix a0 a1.toNat).Hours) 0 10000 y4 (gcall_some hy4 hg)) (fun hg=>(.cons rfl (.cons hg (.cons rfl (.cons rfl .nil))))) (fun hg=>by kernel_rfl) ?_
 refine gk (vb (!((decide (0 ≤ ((ix a0 a1.toNat).Hours))) && (decide (((ix a0 a1.toNat).Hours) ≤ 10000))))) 36 (.un .not 35) 32 false rfl (fun hg=>(.cons hg .nil)) ?_
 refine po 37 32 36 rfl rfl ?_
 refine jk 1 (.d4 (.d (.k3 (.i 27 (vb ((!((decide (0 ≤ ((ix a0 a1.toNat).Cents))) && (decide (((ix a0 a1.toNat).Cents) ≤ 1000000000)))) || (!((decide (0 ≤ ((ix a0 a1.toNat).Hours))) && (decide (((ix a0 a1.toNat).Hours) ≤ 10000)))))) .n)))) ?_
 refine tc h (fun c5 h=>?_) (fun c5 h=>?_)
 ·refine sk (.i 4 (vi 2) .n) ?_
  refine q3 ?_
  have h:=si h
  subst h
  exact DoneS.ret (S' := ⟨[(4,vi 2)],[]⟩) (sc [] (by decide) (by kernel_rfl) ObRen.nil rfl rfl) rfl rfl
 refine sj ?_
 refine rk 2 (.k3 (.i 40 (eS 1 vt ((ix a0 a1.toNat).Needs)) .n)) ?_
 refine jo 41 (.len 0 40) (ok_len_m rfl) ?_
 refine jo 42 (.bin .gtr false 41 (ki 10)) (n_gtr (i:=((ix a0 a1.toNat).Needs).length) (j:=10) rfl rfl) ?_
 refine rk 1 (.d2 (.k3 (.i 43 (vb (decide (10 < (((ix a0 a1.toNat).Needs).length)))) .n))) ?_
 refine gj (.ptr 0 0 4) 44 (.faddr 4 5) 43 false rfl ?_
 refine gk (eS 1 (eS 1 vt) ((ix a0 a1.toNat).OneOf)) 45 (.load false 1 44) 43 false rfl (fun hg=>(.cons hg .nil)) ?_
 refine gv 46 (.len 0 45) 43 false rfl (fun hg=>(ok_len_m rfl)) (fun hg=>(.cons hg .nil)) ?_
 refine gv 47 (.bin .gtr false 46 (ki 6)) 43 false rfl (fun hg=>(n_gtr (i:=((ix a0 a1.toNat).OneOf).length) (j:=6) rfl rfl)) (fun hg=>(.cons hg (.cons rfl .nil))) ?_
 refine po 48 43 47 rfl rfl ?_
 refine rk 1 (.d4 (.d (.k3 (.i 49 (vb ((decide (10 < (((ix a0 a1.toNat).Needs).length))) || (decide (6 < (((ix a0 a1.toNat).OneOf).length))))) .n)))) ?_
 refine gj (.ptr 0 0 4) 50 (.faddr 4 5) 49 false rfl ?_
 refine gk (eS 1 (eS 1 vt) ((ix a0 a1.toNat).OneOf)) 51 (.load false 1 50) 49 false rfl (fun hg=>(.cons hg .nil)) ?_
 refine gj (.fn (.func 148) [] []) 52 (.mov 6) 49 false rfl ?_
 obtain ⟨y5,hy5,h⟩:=bs h
 refine gc 53 [51,52] 49 false rfl (fun hg=>slices_ContainsFunc_string_ok n ((ix a0 a1.toNat).OneOf) y5 (gcall_some hy5 hg)) (fun hg=>(.cons rfl (.cons hg (.cons hg .nil)))) (fun hg=>by kernel_rfl) ?_
 refine po 54 49 53 rfl rfl ?_
 refine rk 1 (.d4 (.d (.k2 (.i 55 (vb (((decide (10 < (((ix a0 a1.toNat).Needs).length))) || (decide (6 < (((ix a0 a1.toNat).OneOf).length)))) || y5)) .n)))) ?_
 refine gj (.ptr 0 0 5) 56 (.faddr 5 5) 55 false rfl ?_
 refine gk (eS 2 ePartCount ((ix a0 a1.toNat).Parts)) 57 (.load false 1 56) 55 false rfl (fun hg=>(.cons hg .nil)) ?_
 refine gv 58 (.len 0 57) 55 false rfl (fun hg=>(ok_len_m rfl)) (fun hg=>(.cons hg .nil)) ?_
 refine gv 59 (.bin .gtr false 58 (ki 10)) 55 false rfl (fun hg=>(n_gtr (i:=((ix a0 a1.toNat).Parts).length) (j:=10) rfl rfl)) (fun hg=>(.cons hg (.cons rfl .nil))) ?_
 refine po 60 55 59 rfl rfl ?_
 refine jk 1 (.d4 (.d (.k2 (.i 38 (vb ((((decide (10 < (((ix a0 a1.toNat).Needs).length))) || (decide (6 < (((ix a0 a1.toNat).OneOf).length)))) || y5) || (decide (10 < (((ix a0 a1.toNat).Parts).length))))) .n)))) ?_
 refine tc h (fun c6 h=>?_) (fun c6 h=>?_)
 ·refine sk (.i 4 (vi 8) .n) ?_
  refine q3 ?_
  have h:=si h
  subst h
  exact DoneS.ret (S' := ⟨[(4,vi 8)],[]⟩) (sc [] (by decide) (by kernel_rfl) ObRen.nil rfl rfl) rfl rfl
 refine q2 ?_
 refine q1 ?_
 refine sj ?_
 refine rk 3 (.k2 (.i 61 (eS 6 eTask a0) (.i 63 (eS 1 vt ((ix a0 a1.toNat).Needs)) .n))) ?_
 obtain ⟨y6,hy6,h⟩:=bs h
 refine jc 64 [61,63] (restore_list_known_ok n a0 ((ix a0 a1.toNat).Needs) y6 hy6) ?_
 refine jk 1 (.d (.k2 (.i 7 (vi y6) .n))) ?_
 refine sk (.k3 (.i 66 (vb (y6 != (0 : Int))) .n)) ?_
 refine tc h (fun c7 h=>?_) (fun c7 h=>?_)
 ·refine sk (.i 4 (vi y6) .n) ?_
  refine q3 ?_
  have h:=si h
  subst h
  exact DoneS.ret (S' := ⟨[(4,vi y6)],[]⟩) (sc [] (by decide) (by kernel_rfl) ObRen.nil rfl rfl) rfl rfl
 refine q2 ?_
 refine TriE.seqK h (fun (_ : Unit)=>St.mk [(5,.ptr 0 0 0)] [some (.row 6 [.agg [vt ((ix a0 a1.toNat).Name),vi ((ix a0 a1.toNat).Cents),vi ((ix a0 a1.toNat).Hours),eS 1 vt ((ix a0 a1.toNat).Needs),eS 1 (eS 1 vt) ((ix a0 a1.toNat).OneOf),eS 2 ePartCount ((ix a0 a1.toNat).Parts)]])]) ?_ ?_
 ·rintro ⟨⟩ h
  refine sj ?_
  refine rk 2 (.i 86 (eS 2 ePartCount ((ix a0 a1.toNat).Parts)) .n) ?_
  obtain ⟨y10,hy10,h⟩:=bs h
  refine jc 87 [86,(ki 1000)] (restore_checkCounts_ok n ((ix a0 a1.toNat).Parts) 1000 y10 hy10) ?_
  refine jk 1 (.i 4 (vi y10) .n) ?_
  refine q3 ?_
  have h:=si h
  subst h
  exact DoneS.ret (S' := ⟨[(4,vi y10)],[]⟩) (sc [] (by decide) (by kernel_rfl) ObRen.nil rfl rfl) rfl rfl
 intro k1 h
 refine sj ?_
 refine rk 2 (.k2 (.i 69 (eS 1 (eS 1 vt) ((ix a0 a1.toNat).OneOf)) .n)) ?_
 refine jo 70 (.len 0 69) (ok_len_m rfl) ?_
 refine jk 1 (.d (.k3 (.i 70 (vi ((((ix a0 a1.toNat).OneOf).length : Nat) : Int)) (.i 71 (vi 0) .n)))) ?_
 refine q4 ?_
 refine ts (.k4 (.i 71 (vi 0) .n)) ?_
 refine TriE.loopN h (fun (v8 : Nat)=>St.mk [(0,eS 6 eTask a0),(5,.ptr 0 0 0),(69,eS 1 (eS 1 vt) ((ix a0 a1.toNat).OneOf)),(70,vi ((((ix a0 a1.toNat).OneOf).length : Nat) : Int)),(71,vi v8)] [some (.row 6 [.agg [vt ((ix a0 a1.toNat).Name),vi ((ix a0 a1.toNat).Cents),vi ((ix a0 a1.toNat).Hours),eS 1 vt ((ix a0 a1.toNat).Needs),eS 1 (eS 1 vt) ((ix a0 a1.toNat).OneOf),eS 2 ePartCount ((ix a0 a1.toNat).Parts)]])]) rfl ?_
 clear h
 rintro back v8 h
 dsimp only [restore_list_checkTask_L1] at h
 refine sj ?_
 refine jo 72 (.bin .lss false 71 70) (n_lss (i:=v8) (j:=((ix a0 a1.toNat).OneOf).length) rfl rfl) ?_
 refine jf (.d (.k4 (.k (.i 72 (vb (decide (v8 < (((ix a0 a1.toNat).OneOf).length)))) .n)))) ?_
 refine q1 ?_
 refine tc h (fun c8 h=>?_) (fun c8 h=>?_)
 ·refine q2 ?_
  refine q7 ?_
  refine sj ?_
  obtain ⟨c9,h⟩:=ck h
  refine jo 73 (.iaddr 1 69 71) (ok_iaddr_m (j:=v8) rfl rfl rfl c9) ?_
  refine jo 74 (.load false 1 73) (ok_load_fm (v:=eS 1 vt (ix ((ix a0 a1.toNat).OneOf) v8)) rfl c9 rfl) ?_
  refine jk 1 (.d2 (.k4 (.k (.i 9 (eS 1 vt (ix ((ix a0 a1.toNat).OneOf) v8)) .n)))) ?_
  refine q1 ?_
  refine sj ?_
  refine rk 1 (.k4 (.k2 (.i 75 (eS 1 vt (ix ((ix a0 a1.toNat).OneOf) v8)) .n))) ?_
  refine jo 76 (.len 0 75) (ok_len_m rfl) ?_
  refine jo 77 (.bin .eql false 76 (ki 0)) (n_eql (i:=(ix ((ix a0 a1.toNat).OneOf) v8).length) (j:=0) rfl rfl) ?_
  refine jf (.d2 (.k4 (.k2 (.i 77 (vb (decide (((ix ((ix a0 a1.toNat).OneOf) v8).length) = 0))) .n)))) ?_
  refine tc h (fun c10 h=>?_) (fun c10 h=>?_)
  ·refine sk (.i 4 (vi 10) .n) ?_
   refine q3 ?_
   have h:=si h
   subst h
   exact DoneS.ret (S' := ⟨[(4,vi 10)],[]⟩) (sc [] (by decide) (by kernel_rfl) ObRen.nil rfl rfl) rfl rfl
  refine q2 ?_
  refine sj ?_
  refine rk 2 (.k4 (.k (.i 78 (eS 6 eTask a0) (.i 79 (eS 1 vt (ix ((ix a0 a1.toNat).OneOf) v8)) .n)))) ?_
  obtain ⟨y9,hy9,h⟩:=bs h
  refine jc 80 [78,79] (restore_list_known_ok n a0 (ix ((ix a0 a1.toNat).OneOf) v8) y9 hy9) ?_
  refine jk 1 (.d (.k4 (.k (.i 10 (vi y9) .n)))) ?_
  refine sk (.k4 (.k2 (.i 82 (vb (y9 != (0 : Int))) .n))) ?_
  refine tc h (fun c11 h=>?_) (fun c11 h=>?_)
  ·refine sk (.i 4 (vi y9) .n) ?_
   refine q3 ?_
   have h:=si h
   subst h
   exact DoneS.ret (S' := ⟨[(4,vi y9)],[]⟩) (sc [] (by decide) (by kernel_rfl) ObRen.nil rfl rfl) rfl rfl
  refine q2 ?_
  refine q6 ?_
  obtain ⟨c12,h⟩:=ck h
  refine jo 84 (.bin .add false 71 (ki 1)) (r_addn (i:=v8) (j:=1) rfl rfl c12) ?_
  refine jk 1 (.d (.k4 (.i 71 (vi ((v8 + 1 : Nat) : Int)) .n))) ?_
  exact Vs.intro sy ⟨(v8 + 1),rfl,h⟩
 refine q5 ?_
 exact Vs.intro sy ⟨(),rfl,h⟩
theorem restore_CheckTasks_f1_ok (n : Nat) (a0 : Str) (r : Unit) (h : restore_CheckTasks_f1 n a0 = some r) : FnL Tryz.prog 84 [vt a0] [] (vb true) [] := by
 dsimp only [restore_CheckTasks_f1] at h
 refine fo [2] Tryz.call84 Tryz.func84 rfl ?_
 refine sk .n ?_
 refine sk (.i 2 (vb true) .n) ?_
 refine q3 ?_
 have h:=si h
 subst h
 exact DoneS.ret Sees.refl rfl rfl
theorem slices_Grow_string_ok (n : Nat) (a0 : Int) (r : (List Str)) (h : slices_Grow_string n a0 = some r) : FnL Tryz.prog 212 [.emp,vi a0] [] (.own 0 0 r.length) [some (.row 1 (List.map vt r))] := by
 dsimp only [slices_Grow_string] at h
 refine fo [4] Tryz.call212 Tryz.func212 rfl ?_
 refine sk .a ?_
 refine q1 ?_
 refine sk (.k2 (.i 6 (vb (decide (a0 < (0 : Int)))) .n)) ?_
 refine tc h (fun c1 h=>?_) (fun c1 h=>?_)
 ·refine q6 ?_
  cases h
 refine q2 ?_
 refine TriE.seqK h (fun (v1 : (List Str))=>St.mk [(0,.own 0 0 v1.length)] [some (.row 1 (List.map vt v1))]) ?_ ?_
 ·rintro v1 h
  refine sk (.i 4 (.own 0 0 v1.length) .n) ?_
  refine q3 ?_
  have h:=si h
  subst h
  exact DoneS.ret Sees.refl rfl rfl
 intro k1 h
 refine sj ?_
 refine rk 2 (.k (.i 8 (vi a0) (.i 9 .emp .n))) ?_
 refine RegJ.capE (d:=some 10) (x:=.t 9) (by kernel_rfl) rfl rfl ?_
 refine rn 2 [(0,.emp),(8,vi a0),(10,vi 0),(12,vi 0)] [] ?_
 obtain ⟨c2,h⟩:=ck h
 refine jo 13 (.bin .sub false 10 12) (r_sub rfl rfl c2) ?_
 obtain ⟨c3,h⟩:=ck h
 refine jo 14 (.bin .sub false 8 13) (r_sub rfl rfl c3) ?_
 refine jk 1 (.d2 (.k (.i 1 (vi (a0 - (0 - 0))) .n))) ?_
 refine sk (.k2 (.i 16 (vb (decide ((0 : Int) < (a0 - (0 - 0))))) .n)) ?_
 refine tc h (fun c4 h=>?_) (fun c4 h=>?_)
 ·refine q6 ?_
  refine rk 2 (.k2 (.i 17 .emp (.i 18 .emp .n))) ?_
  refine RegJ.capE (d:=some 19) (x:=.t 18) (by kernel_rfl) rfl rfl ?_
  refine rn 2 [(0,.emp),(20,.emp),(21,vi (a0 - (0 - 0)))] [] ?_
  obtain ⟨c5,h⟩:=ck h
  obtain ⟨c6,h⟩:=ck h
  obtain ⟨c7,h⟩:=ck h
  refine RegJ.appZ (d:=some 22) (kk:=1) (b:=16) (n:=(a0 - (0 - 0)).toNat) (x:=.t 20) (y:=.t 21) (by kernel_rfl) rfl rfl rfl rfl (nn_to c5) c6 c7 ?_
  refine rn 2 [(22,.own 0 0 ((a0 - (0 - 0)).toNat)),(24,vi 0)] [some (.row 1 (List.map vt ([] : List Str)))] ?_
  obtain ⟨c8,h⟩:=ck h
  refine jo 25 (.slc 1 22 none (some 24) none) (ok_slco_hi (j:=0) rfl rfl rfl rfl c8) ?_
  refine jk 1 (.i 0 (.own 0 0 (([] : List Str).length)) .n) ?_
  exact Vs.intro sy ⟨([] : List Str),rfl,h⟩
 refine q2 ?_
 exact Vs.intro (Sees.trans (Sees.co (fr' := [(0,.own 0 0 0)]) (ob' := []) (.cons .own .nil) ObCo.nil 1) sy) ⟨([] : List Str),rfl,h⟩
set_option maxHeartbeats 1000000 in
theorem slices_Concat_string_ok (n : Nat) (a0 : List (List Str)) (r : (List Str)) (h : slices_Concat_string n a0 = some r) : FnL Tryz.prog 180 [.own 0 0 a0.length] [some (.row 1 (List.map (eS 1 vt) a0))] (eS 1 vt r) [some (.row 1 (List.map (eS 1 vt) a0))] := by
 dsimp only [slices_Concat_string] at h
 refine fob [2] Tryz.call180 Tryz.func180 rfl (.cons rfl .nil) ?_
 refine sk .a ?_
 refine sk (.k (.i 3 (vi 0) .n)) ?_
 refine TriE.seqK h (fun (v3 : Nat)=>St.mk [(0,.own 0 0 a0.length),(3,vi v3)] [some (.row 1 (List.map (eS 1 vt) a0))]) ?_ ?_
 ·rintro v3 h
  refine sj ?_
  refine rk 1 (.k (.i 23 (vi v3) .n)) ?_
  obtain ⟨y4,hy4,h⟩:=bs h
  refine jco (.own 1 0 y4.length) 24 [(.c .emp),23] (slices_Grow_string_ok n (v3 : Int) y4 hy4) [] rfl ObsRen.nil (.same (row_ren vt_frz _ _ _) .nil) rfl ?_
  refine jk 1 (.d (.k (.i 6 (.own 1 0 y4.length) .n))) ?_
  refine TriE.seqK h (fun (v7 : (List Str))=>St.mk [(6,.own 1 0 v7.length)] [some (.row 1 (List.map (eS 1 vt) a0)),some (.row 1 (List.map vt v7))]) ?_ ?_
  ·rintro v7 h
   refine sk (.i 2 (.own 1 0 v7.length) .n) ?_
   refine q3 ?_
   have h:=si h
   subst h
   exact DoneS.ret (S' := ⟨[(2,eS 1 vt v7)],[some (.row 1 (List.map (eS 1 vt) a0))]⟩) (Sees.trans (Sees.freeze 1 (fr' := [(2,eS 1 vt v7)]) (ob' := [some (.row 1 (List.map (eS 1 vt) a0)),none]) rfl (frz_row vt_frzE _) (.cons (frz_full rfl) .nil) rfl) (sc [0] (by decide) (by kernel_rfl) (obRen_row (eS_frz 1 vt) rfl .nil) rfl rfl)) rfl rfl
  intro k2 h
  refine sk (.d (.k (.i 25 (.own 0 0 a0.length) (.i 26 (vi (a0.length : Int)) (.i 27 (vi 0) .n))))) ?_
  refine q4 ?_
  refine ts (.k3 (.i 27 (vi 0) .n)) ?_
  refine TriE.loopN h (fun (t : Nat × (List Str))=>match t with | (v5,v6)=>St.mk [(6,.own 1 0 v6.length),(25,.own 0 0 a0.length),(26,vi (a0.length : Int)),(27,vi v5)] [some (.row 1 (List.map (eS 1 vt) a0)),some (.row 1 (List.map vt v6))]) rfl ?_
  clear h
  rintro back ⟨v5,v6⟩ h
  dsimp only [slices_Concat_string_L2] at h
  refine sj ?_
  refine jo 28 (.bin .lss false 27 26) (n_lss (i:=v5) (j:=a0.length) rfl rfl) ?_
  refine jf (.d (.k4 (.i 28 (vb (decide (v5 < a0.length))) .n))) ?_
  refine q1 ?_
  refine tc h (fun c5 h=>?_) (fun c5 h=>?_)
  ·refine q2 ?_
   refine q7 ?_
   refine sj ?_
   refine jo 29 (.iaddr 1 25 27) (ok_iaddr_o0 (j:=v5) rfl rfl rfl rfl c5) ?_
   refine jo 30 (.load false 1 29) (ok_load_pm (l:=a0) (e:=(eS 1 vt)) (v:=eS 1 vt (ix a0 v5)) rfl rfl c5 rfl) ?_
   refine jk 1 (.d2 (.k4 (.i 8 (eS 1 vt (ix a0 v5)) .n))) ?_
   refine q6 ?_
   refine rk 2 (.d (.k3 (.i 31 (.own 1 0 v6.length) (.i 32 (eS 1 vt (ix a0 v5)) .n)))) ?_
   obtain ⟨c6,h⟩:=ck h
   refine jx 33 (.app 1 16 31 32) _ (ok_app_own (l:=v6) (l2:=(ix a0 v5)) (e:=vt) (u:=eS 1 vt (ix a0 v5)) rfl rfl rfl rfl els_sl c6) rfl rfl ?_
   refine jk 1 (.d (.k3 (.i 6 (.own 2 0 ((v6 ++ (ix a0 v5)).length)) .n))) ?_
   refine q6 ?_
   obtain ⟨c7,h⟩:=ck h
   refine jo 34 (.bin .add false 27 (ki 1)) (r_addn (i:=v5) (j:=1) rfl rfl c7) ?_
   refine jk 1 (.d (.k2 (.d (.k (.i 27 (vi ((v5 + 1 : Nat) : Int)) .n))))) ?_
   exact Vs.intro (sc [0,2] (by decide) (by kernel_rfl) (obRen_row (eS_frz 1 vt) rfl (obRen_row vt_frz rfl .nil)) rfl rfl) ⟨(v5 + 1,(v6 ++ (ix a0 v5))),rfl,h⟩
  refine q5 ?_
  exact Vs.intro sy ⟨v6,rfl,h⟩
 intro k1 h
 refine sk (.k2 (.i 9 (.own 0 0 a0.length) (.i 10 (vi (a0.length : Int)) (.i 11 (vi 0) .n)))) ?_
 refine q4 ?_
 refine ts (.k (.i 3 (vi 0) (.d (.k2 (.i 11 (vi 0) .n))))) ?_
 refine TriE.loopN h (fun (t : Nat × Nat)=>match t with | (v1,v2)=>St.mk [(0,.own 0 0 a0.length),(3,vi v1),(9,.own 0 0 a0.length),(10,vi (a0.length : Int)),(11,vi v2)] [some (.row 1 (List.map (eS 1 vt) a0))]) rfl ?_
 clear h
 rintro back ⟨v1,v2⟩ h
 dsimp only [slices_Concat_string_L1] at h
 refine sj ?_
 refine jo 12 (.bin .lss false 11 10) (n_lss (i:=v2) (j:=a0.length) rfl rfl) ?_
 refine jf (.d (.k4 (.k (.i 12 (vb (decide (v2 < a0.length))) .n)))) ?_
 refine q1 ?_
 refine tc h (fun c1 h=>?_) (fun c1 h=>?_)
 ·refine q2 ?_
  refine q7 ?_
  refine sj ?_
  refine jo 13 (.iaddr 1 9 11) (ok_iaddr_o0 (j:=v2) rfl rfl rfl rfl c1) ?_
  refine jo 14 (.load false 1 13) (ok_load_pm (l:=a0) (e:=(eS 1 vt)) (v:=eS 1 vt (ix a0 v2)) rfl rfl c1 rfl) ?_
  refine jk 1 (.d2 (.k4 (.k (.i 5 (eS 1 vt (ix a0 v2)) .n)))) ?_
  refine sj ?_
  refine rk 2 (.k (.d (.k3 (.i 15 (vi v1) (.i 16 (eS 1 vt (ix a0 v2)) .n))))) ?_
  refine jo 17 (.len 0 16) (ok_len_m rfl) ?_
  obtain ⟨c2,h⟩:=ck h
  refine jo 18 (.bin .add false 15 17) (r_addn (i:=v1) (j:=(ix a0 v2).length) rfl rfl c2) ?_
  refine jk 1 (.d2 (.k4 (.i 3 (vi ((v1 + ((ix a0 v2).length) : Nat) : Int)) .n))) ?_
  refine sj ?_
  refine rk 1 (.k4 (.k (.i 19 (vi ((v1 + ((ix a0 v2).length) : Nat) : Int)) .n))) ?_
  refine jo 20 (.bin .lss false 19 (ki 0)) (n_lss (i:=v1 + ((ix a0 v2).length)) (j:=0) rfl rfl) ?_
  refine jf (.d (.k4 (.k (.i 20 (vb (decide ((v1 + ((ix a0 v2).length)) < 0))) .n)))) ?_
  refine tc h (fun c3 h=>?_) (fun c3 h=>?_)
  ·refine q6 ?_
   cases h
  refine q2 ?_
  refine q6 ?_
  obtain ⟨c4,h⟩:=ck h
  refine jo 22 (.bin .add false 11 (ki 1)) (r_addn (i:=v2) (j:=1) rfl rfl c4) ?_
  refine jk 1 (.d (.k3 (.d (.k (.i 11 (vi ((v2 + 1 : Nat) : Int)) .n))))) ?_
  exact Vs.intro sy ⟨(v1 + ((ix a0 v2).length),v2 + 1),rfl,h⟩
 refine q5 ?_
 exact Vs.intro sy ⟨v1,rfl,h⟩
theorem restore_leads_ok (n : Nat) (a0 : Task) (r : (List Str)) (h : restore_leads n a0 = some r) : FnL Tryz.prog 138 [.agg [vt a0.Name,vi a0.Cents,vi a0.Hours,eS 1 vt a0.Needs,eS 1 (eS 1 vt) a0.OneOf,eS 2 ePartCount a0.Parts]] [] (eS 1 vt r) [] := by
 dsimp only [restore_leads] at h
 refine fo [2] Tryz.call138 Tryz.func138 rfl ?_
 refine sko (.i 1 (.ptr 0 0 0) .n) [some (.row 6 [.agg [vt a0.Name,vi a0.Cents,vi a0.Hours,eS 1 vt a0.Needs,eS 1 (eS 1 vt) a0.OneOf,eS 2 ePartCount a0.Parts]])] ?_
 refine sj ?_
 refine rko 5 (.i 5 (.own 1 0 1) (.i 7 (eS 1 (eS 1 vt) a0.OneOf) .n)) [some (.row 6 [.agg [vt a0.Name,vi a0.Cents,vi a0.Hours,eS 1 vt a0.Needs,eS 1 (eS 1 vt) a0.OneOf,eS 2 ePartCount a0.Parts]]),some (.row 1 [eS 1 vt a0.Needs])] ?_
 obtain ⟨c1,h⟩:=ck h
 refine jx 8 (.app 1 24 5 7) _ (ok_app_own (l:=([a0.Needs] : List (List Str))) (l2:=a0.OneOf) (e:=(eS 1 vt)) (u:=eS 1 (eS 1 vt) a0.OneOf) rfl rfl rfl rfl els_sl c1) rfl rfl ?_
 obtain ⟨y1,hy1,h⟩:=bs h
 refine jco (eS 1 vt y1) 9 [8] (slices_Concat_string_ok n (([a0.Needs] : List (List Str)) ++ a0.OneOf) y1 hy1) [2] rfl (.same (row_ren (eS_frz 1 vt) _ _ _) .nil) (.same (row_ren (eS_frz 1 vt) _ _ _) .nil) rfl ?_
 refine jk 1 (.i 2 (eS 1 vt y1) .n) ?_
 refine q3 ?_
 have h:=si h
 subst h
 exact DoneS.ret (S' := ⟨[(2,eS 1 vt y1)],[]⟩) (sc [] (by decide) (by kernel_rfl) ObRen.nil rfl rfl) rfl rfl
theorem slices_Index_string_2_ok (n : Nat) (a0 : List Str) (a1 : Str) (r : Int) (h : slices_Index_string_2 n a0 a1 = some r) : FnL Tryz.prog 185 [.own 0 0 a0.length,vt a1] [some (.row 1 (List.map vt a0))] (vi r) [some (.row 1 (List.map vt a0))] := by
 dsimp only [slices_Index_string_2] at h
 refine fob [4] Tryz.call185 Tryz.func185 rfl (.cons rfl .nil) ?_
 refine sk .a ?_
 refine TriE.seqK h (fun (_ : Unit)=>St.mk [] [some (.row 1 (List.map vt a0))]) ?_ ?_
 ·rintro ⟨⟩ h
  refine sk (.i 4 (vi (-1)) .n) ?_
  refine q3 ?_
  have h:=si h
  subst h
  exact DoneS.ret Sees.refl rfl rfl
 intro k1 h
 refine sk (.k2 (.i 7 (vi (a0.length : Int)) (.i 8 (vi 0) .n))) ?_
 refine q4 ?_
 refine ts (.k3 (.i 8 (vi 0) .n)) ?_
 refine TriE.loopN h (fun (v1 : Nat)=>St.mk [(0,.own 0 0 a0.length),(1,vt a1),(7,vi (a0.length : Int)),(8,vi v1)] [some (.row 1 (List.map vt a0))]) rfl ?_
 clear h
 rintro back v1 h
 dsimp only [slices_Index_string_2_L1] at h
 refine sj ?_
 refine jo 9 (.bin .lss false 8 7) (n_lss (i:=v1) (j:=a0.length) rfl rfl) ?_
 refine jf (.d (.k4 (.i 9 (vb (decide (v1 < a0.length))) .n))) ?_
 refine q1 ?_
 refine tc h (fun c1 h=>?_) (fun c1 h=>?_)
 ·refine q2 ?_
  refine q7 ?_
  refine sk (.k4 (.i 5 (vi v1) .n)) ?_
  refine sj ?_
  refine rk 3 (.k4 (.k (.i 11 (vt a1) (.i 12 (.own 0 0 a0.length) (.i 13 (vi v1) .n))))) ?_
  refine jo 14 (.iaddr 1 12 13) (ok_iaddr_o0 (j:=v1) rfl rfl rfl rfl c1) ?_
  refine jo 15 (.load false 1 14) (ok_load_pm (l:=a0) (e:=vt) (v:=vt (ix a0 v1)) rfl rfl c1 rfl) ?_
  refine jk 1 (.d2 (.k4 (.k (.i 16 (vb (a1 == (ix a0 v1))) .n)))) ?_
  refine tc h (fun c2 h=>?_) (fun c2 h=>?_)
  ·refine sk (.i 4 (vi v1) .n) ?_
   refine q3 ?_
   have h:=si h
   subst h
   exact DoneS.ret Sees.refl rfl rfl
  refine q2 ?_
  refine q6 ?_
  obtain ⟨c3,h⟩:=ck h
  refine jo 18 (.bin .add false 8 (ki 1)) (r_addn (i:=v1) (j:=1) rfl rfl c3) ?_
  refine jk 1 (.d (.k3 (.i 8 (vi ((v1 + 1 : Nat) : Int)) .n))) ?_
  exact Vs.intro sy ⟨(v1 + 1),rfl,h⟩
 refine q5 ?_
 exact Vs.intro sy ⟨(),rfl,h⟩
theorem slices_Contains_string_2_ok (n : Nat) (a0 : List Str) (a1 : Str) (r : Bool) (h : slices_Contains_string_2 n a0 a1 = some r) : FnL Tryz.prog 150 [.own 0 0 a0.length,vt a1] [some (.row 1 (List.map vt a0))] (vb r) [some (.row 1 (List.map vt a0))] := by
 dsimp only [slices_Contains_string_2] at h
 refine fob [4] Tryz.call150 Tryz.func150 rfl (.cons rfl .nil) ?_
 refine sk .a ?_
 refine sj ?_
 refine rk 2 (.i 5 (.own 0 0 a0.length) (.i 6 (vt a1) .n)) ?_
 obtain ⟨y1,hy1,h⟩:=bs h
 refine jco (vi y1) 7 [5,6] (slices_Index_string_2_ok n a0 a1 y1 hy1) [0] rfl (.same (row_ren vt_frz _ _ _) .nil) (.same (row_ren vt_frz _ _ _) .nil) rfl ?_
 refine jk 2 (.i 4 (vb (decide ((0 : Int) ≤ y1))) .n) ?_
 refine q3 ?_
 have h:=si h
 subst h
 exact DoneS.ret Sees.refl rfl rfl
theorem restore_list_order_f1_2_ok (n : Nat) (a0 : Str) (a1 : List Str) (r : Bool) (h : q48k n a0 a1 = some r) : FnL Tryz.prog 149 [vt a0,.ptr 0 0 0,.ptr 1 0 0] [some (.row 1 [.fn (.func 84) [] []]),some (.row 1 [.own 2 0 a1.length]),some (.row 1 (List.map vt a1))] (vb r) [some (.row 1 [.fn (.func 84) [] []]),some (.row 1 [.own 2 0 a1.length]),some (.row 1 (List.map vt a1))] := by
 dsimp only [q48k] at h
 refine fob [4] Tryz.call149 Tryz.func149 rfl (.cons rfl (.cons rfl (.cons rfl .nil))) ?_
 refine sk .a ?_
 refine sj ?_
 refine rk 2 (.k (.d (.k (.i 5 (.fn (.func 84) [] []) (.i 6 (vt a0) .n))))) ?_
 obtain ⟨y1,hy1,h⟩:=bs h
 refine jy (vb true) 7 5 [6] rfl (restore_CheckTasks_f1_ok n a0 y1 hy1) [] rfl ObsRen.nil ObsRen.nil rfl ?_
 refine rk 1 (.d (.k2 (.i 8 (vb true) .n))) ?_
 refine gj (.own 2 0 a1.length) 9 (.load false 1 2) 8 true rfl ?_
 refine gj (vt a0) 10 (.mov 0) 8 true rfl ?_
 obtain ⟨y2,hy2,h⟩:=bs h
 refine RegJ.op (Op1.callg (g:=true) (y':=vb y2) (obx:=[some (.row 1 (List.map vt a1))]) _ _ (cy (IG 11 (.call 150 [9,10]) 8 true)) rfl (fun hg=>slices_Contains_string_2_ok n a1 a0 y2 (gcall_some hy2 hg)) [2] (fun hg=>by kernel_rfl) (fun hg=>(.cons rfl (.cons hg (.cons hg .nil)))) (by kernel_rfl) (by kernel_rfl) (.same (row_ren vt_frz _ _ _) .nil) (by kernel_rfl) (by kernel_rfl)) ?_
 refine gk (vb (!y2)) 12 (.un .not 11) 8 true rfl (fun hg=>(.cons hg .nil)) ?_
 refine pa 13 8 12 rfl rfl ?_
 refine jk 1 (.i 4 (vb (true && (!y2))) .n) ?_
 refine q3 ?_
 have h:=si h
 subst h
 exact DoneS.ret Sees.refl rfl rfl
theorem slices_IndexFunc_string_3_ok (n : Nat) (a0 : List Str) (a1 : List Str) (r : Int) (h : slices_IndexFunc_string_3 n a0 a1 = some r) : FnL Tryz.prog 163 [eS 1 vt a0,.fn (.func 149) [] [.ptr 0 0 0,.ptr 1 0 0]] [some (.row 1 [.fn (.func 84) [] []]),some (.row 1 [.own 2 0 a1.length]),some (.row 1 (List.map vt a1))] (vi r) [some (.row 1 [.fn (.func 84) [] []]),some (.row 1 [.own 2 0 a1.length]),some (.row 1 (List.map vt a1))] := by
 dsimp only [slices_IndexFunc_string_3] at h
 refine fob [4] Tryz.call163 Tryz.func163 rfl (.cons rfl (.cons rfl (.cons rfl .nil))) ?_
 refine sk .a ?_
 refine TriE.seqK h (fun (_ : Unit)=>St.mk [] [some (.row 1 [.fn (.func 84) [] []]),some (.row 1 [.own 2 0 a1.length]),some (.row 1 (List.map vt a1))]) ?_ ?_
 ·rintro ⟨⟩ h
  refine sk (.i 4 (vi (-1)) .n) ?_
  refine q3 ?_
  have h:=si h
  subst h
  exact DoneS.ret Sees.refl rfl rfl
 intro k1 h
 refine sj ?_
 refine rk 1 (.k2 (.i 6 (eS 1 vt a0) .n)) ?_
 refine jo 7 (.len 0 6) (ok_len_m rfl) ?_
 refine jk 1 (.d (.k2 (.i 7 (vi (a0.length : Int)) (.i 8 (vi 0) .n)))) ?_
 refine q4 ?_
 refine ts (.k3 (.i 8 (vi 0) .n)) ?_
 refine TriE.loopN h (fun (v2 : Nat)=>St.mk [(0,eS 1 vt a0),(1,.fn (.func 149) [] [.ptr 0 0 0,.ptr 1 0 0]),(7,vi (a0.length : Int)),(8,vi v2)] [some (.row 1 [.fn (.func 84) [] []]),some (.row 1 [.own 2 0 a1.length]),some (.row 1 (List.map vt a1))]) rfl ?_
 clear h
 rintro back v2 h
 dsimp only [slices_IndexFunc_string_3_L1] at h
 refine sj ?_
 refine jo 9 (.bin .lss false 8 7) (n_lss (i:=v2) (j:=a0.length) rfl rfl) ?_
 refine jf (.d (.k4 (.i 9 (vb (decide (v2 < a0.length))) .n))) ?_
 refine q1 ?_
 refine tc h (fun c1 h=>?_) (fun c1 h=>?_)
 ·refine q2 ?_
  refine q7 ?_
  refine sk (.k4 (.i 5 (vi v2) .n)) ?_
  refine sj ?_
  refine rk 3 (.k4 (.k (.i 11 (.fn (.func 149) [] [.ptr 0 0 0,.ptr 1 0 0]) (.i 12 (eS 1 vt a0) (.i 13 (vi v2) .n))))) ?_
  refine jo 14 (.iaddr 1 12 13) (ok_iaddr_m (j:=v2) rfl rfl rfl c1) ?_
  refine jo 15 (.load false 1 14) (ok_load_fm (v:=vt (ix a0 v2)) rfl c1 rfl) ?_
  obtain ⟨y3,hy3,h⟩:=bs h
  refine jy (vb y3) 16 11 [15] rfl (restore_list_order_f1_2_ok n (ix a0 v2) a1 y3 hy3) [0,1,2] rfl (.cons rfl (.cons rfl (.same (row_ren vt_frz _ _ _) .nil))) (.cons rfl (.cons rfl (.same (row_ren vt_frz _ _ _) .nil))) rfl ?_
  refine jf (.d3 (.k4 (.k (.i 16 (vb y3) .n)))) ?_
  refine tc h (fun c2 h=>?_) (fun c2 h=>?_)
  ·refine sk (.i 4 (vi v2) .n) ?_
   refine q3 ?_
   have h:=si h
   subst h
   exact DoneS.ret Sees.refl rfl rfl
  refine q2 ?_
  refine q6 ?_
  obtain ⟨c3,h⟩:=ck h
  refine jo 18 (.bin .add false 8 (ki 1)) (r_addn (i:=v2) (j:=1) rfl rfl c3) ?_
  refine jk 1 (.d (.k3 (.i 8 (vi ((v2 + 1 : Nat) : Int)) .n))) ?_
  exact Vs.intro sy ⟨(v2 + 1),rfl,h⟩
 refine q5 ?_
 exact Vs.intro sy ⟨(),rfl,h⟩
theorem slices_ContainsFunc_string_3_ok (n : Nat) (a0 : List Str) (a1 : List Str) (r : Bool) (h : q46k n a0 a1 = some r) : FnL Tryz.prog 108 [eS 1 vt a0,.fn (.func 149) [] [.ptr 0 0 0,.ptr 1 0 0]] [some (.row 1 [.fn (.func 84) [] []]),some (.row 1 [.own 2 0 a1.length]),some (.row 1 (List.map vt a1))] (vb r) [some (.row 1 [.fn (.func 84) [] []]),some (.row 1 [.own 2 0 a1.length]),some (.row 1 (List.map vt a1))] := by
 dsimp only [q46k] at h
 refine fob [4] Tryz.call108 Tryz.func108 rfl (.cons rfl (.cons rfl (.cons rfl .nil))) ?_
 refine sk .a ?_
 refine sj ?_
 refine rk 2 (.i 5 (eS 1 vt a0) (.i 6 (.fn (.func 149) [] [.ptr 0 0 0,.ptr 1 0 0]) .n)) ?_
 obtain ⟨y1,hy1,h⟩:=bs h
 refine jco (vi y1) 7 [5,6] (slices_IndexFunc_string_3_ok n a0 a1 y1 hy1) [0,1,2] rfl (.cons rfl (.cons rfl (.same (row_ren vt_frz _ _ _) .nil))) (.cons rfl (.cons rfl (.same (row_ren vt_frz _ _ _) .nil))) rfl ?_
 refine jk 2 (.i 4 (vb (decide ((0 : Int) ≤ y1))) .n) ?_
 refine q3 ?_
 have h:=si h
 subst h
 exact DoneS.ret Sees.refl rfl rfl
theorem restore_list_order_f2_2_ok (n : Nat) (a0 : Task) (a1 : List Str) (r : Bool) (h : restore_list_order_f2_2 n a0 a1 = some r) : FnL Tryz.prog 152 [.agg [vt a0.Name,vi a0.Cents,vi a0.Hours,eS 1 vt a0.Needs,eS 1 (eS 1 vt) a0.OneOf,eS 2 ePartCount a0.Parts],.ptr 0 0 0] [some (.row 1 [.fn (.func 149) [] [.ptr 1 0 0,.ptr 2 0 0]]),some (.row 1 [.fn (.func 84) [] []]),some (.row 1 [.own 3 0 a1.length]),some (.row 1 (List.map vt a1))] (vb r) [some (.row 1 [.fn (.func 149) [] [.ptr 1 0 0,.ptr 2 0 0]]),some (.row 1 [.fn (.func 84) [] []]),some (.row 1 [.own 3 0 a1.length]),some (.row 1 (List.map vt a1))] := by
 dsimp only [restore_list_order_f2_2] at h
 refine fob [3] Tryz.call152 Tryz.func152 rfl (.cons rfl (.cons rfl (.cons rfl (.cons rfl .nil)))) ?_
 refine sko (.d (.k (.i 2 (.ptr 4 0 0) .n))) [some (.row 1 [.fn (.func 149) [] [.ptr 1 0 0,.ptr 2 0 0]]),some (.row 1 [.fn (.func 84) [] []]),some (.row 1 [.own 3 0 a1.length]),some (.row 1 (List.map vt a1)),some (.row 6 [.agg [vt a0.Name,vi a0.Cents,vi a0.Hours,eS 1 vt a0.Needs,eS 1 (eS 1 vt) a0.OneOf,eS 2 ePartCount a0.Parts]])] ?_
 refine q1 ?_
 refine ts .a ?_
 refine TriE.draw (by kernel_rfl) ?_
 refine dk 3 (.i 6 (vt a0.Name) (.i 5 (.ptr 4 0 0) (.i 4 (.fn (.func 149) [] [.ptr 1 0 0,.ptr 2 0 0]) .a))) ?_
 obtain ⟨y1,hy1,h⟩:=bs h
 refine RegD.op (OpD.dyn (y':=vb y1) (obx:=[some (.row 1 [.fn (.func 84) [] []]),some (.row 1 [.own 3 0 a1.length]),some (.row 1 (List.map vt a1))]) (oby:=[some (.row 1 [.fn (.func 84) [] []]),some (.row 1 [.own 3 0 a1.length]),some (.row 1 (List.map vt a1))]) (ob2:=[some (.row 1 [.fn (.func 149) [] [.ptr 1 0 0,.ptr 2 0 0]]),some (.row 1 [.fn (.func 84) [] []]),some (.row 1 [.own 3 0 a1.length]),some (.row 1 (List.map vt a1)),some (.row 6 [.agg [vt a0.Name,vi a0.Cents,vi a0.Hours,eS 1 vt a0.Needs,eS 1 (eS 1 vt) a0.OneOf,eS 2 ePartCount a0.Parts]]),none,none,none,none]) (tch:=[]) 0 _ _ _ (cy (I0 7 (.dyn 4 [6]))) rfl (restore_list_order_f1_2_ok n a0.Name a1 y1 hy1) [1,2,3] (by kernel_rfl) (.cons rfl (.cons rfl .nil)) (by kernel_rfl) (by kernel_rfl) (.cons rfl (.cons rfl (.same (row_ren vt_frz _ _ _) .nil))) (by kernel_rfl) (.cons rfl (.cons rfl (.same (row_ren vt_frz _ _ _) .nil))) (by kernel_rfl) rfl (.inr ⟨rfl,rfl⟩)) ?_
 refine dk 1 (.i 8 (vb y1) .a) ?_
 refine gd y1 (.agg [vt a0.Name,vi a0.Cents,vi a0.Hours,eS 1 vt a0.Needs,eS 1 (eS 1 vt) a0.OneOf,eS 2 ePartCount a0.Parts]) 9 (.load true 6 2) 8 true rfl (fun hg=>(.cons rfl .nil)) ?_
 obtain ⟨y2,hy2,h⟩:=bs h
 refine du y1 10 [9] 8 true rfl (fun hg=>restore_leads_ok n a0 y2 (gcall_some hy2 hg)) (fun hg=>(.cons rfl (.cons hg .nil))) (fun hg=>by kernel_rfl) ?_
 refine gd y1 (.fn (.func 149) [] [.ptr 1 0 0,.ptr 2 0 0]) 11 (.load false 1 1) 8 true rfl (fun hg=>(.cons rfl .nil)) ?_
 obtain ⟨y3,hy3,h⟩:=bs h
 refine RegD.op (OpD.callg (g:=y1) (y':=vb y3) (obx:=[some (.row 1 [.fn (.func 84) [] []]),some (.row 1 [.own 3 0 a1.length]),some (.row 1 (List.map vt a1))]) _ _ (cy (IG 12 (.call 108 [10,11]) 8 true)) rfl (fun hg=>slices_ContainsFunc_string_3_ok n y2 a1 y3 (gcall_some hy3 hg)) [1,2,3] (fun hg=>by kernel_rfl) (fun hg=>(.cons rfl (.cons hg (.cons hg .nil)))) (by kernel_rfl) (by kernel_rfl) (.cons rfl (.cons rfl (.same (row_ren vt_frz _ _ _) .nil))) (by kernel_rfl) (by kernel_rfl) rfl) ?_
 refine gd y1 (vb (!y3)) 13 (.un .not 12) 8 true rfl (fun hg=>(.cons hg .nil)) ?_
 refine RegD.op (OpD.and (cy (I0 14 (.pick 8 13 (.c (.p (.bool false)))))) rfl rfl (by first | exact hokA1 | exact hokA0 | simp)) ?_
 refine dk 1 (.i 3 (vb (y1 && (!y3))) (.i 14 (vb (y1 && (!y3))) (.d .a))) ?_
 refine dfi (ob':=[some (.row 1 [.fn (.func 149) [] [.ptr 1 0 0,.ptr 2 0 0]]),some (.row 1 [.fn (.func 84) [] []]),some (.row 1 [.own 3 0 a1.length]),some (.row 1 (List.map vt a1))]) (.k .n) [0,1,2,3] (.cons rfl (.cons rfl (.cons rfl (obRen_row vt_frz rfl .nil)))) ?_
 refine q3 ?_
 have h:=si h
 subst h
 exact DoneS.ret Sees.refl rfl rfl
theorem slices_IndexFunc_Task_3_ok (n : Nat) (a0 : List Task) (a1 : List Str) (r : Int) (h : slices_IndexFunc_Task_3 n a0 a1 = some r) : FnL Tryz.prog 151 [eS 6 eTask a0,.fn (.func 152) [] [.ptr 0 0 0]] [some (.row 1 [.fn (.func 149) [] [.ptr 1 0 0,.ptr 2 0 0]]),some (.row 1 [.fn (.func 84) [] []]),some (.row 1 [.own 3 0 a1.length]),some (.row 1 (List.map vt a1))] (vi r) [some (.row 1 [.fn (.func 149) [] [.ptr 1 0 0,.ptr 2 0 0]]),some (.row 1 [.fn (.func 84) [] []]),some (.row 1 [.own 3 0 a1.length]),some (.row 1 (List.map vt a1))] := by
 dsimp only [slices_IndexFunc_Task_3] at h
 refine fob [4] Tryz.call151 Tryz.func151 rfl (.cons rfl (.cons rfl (.cons rfl (.cons rfl .nil)))) ?_
 refine sk .a ?_
 refine TriE.seqK h (fun (_ : Unit)=>St.mk [] [some (.row 1 [.fn (.func 149) [] [.ptr 1 0 0,.ptr 2 0 0]]),some (.row 1 [.fn (.func 84) [] []]),some (.row 1 [.own 3 0 a1.length]),some (.row 1 (List.map vt a1))]) ?_ ?_
 ·rintro ⟨⟩ h
  refine sk (.i 4 (vi (-1)) .n) ?_
  refine q3 ?_
  have h:=si h
  subst h
  exact DoneS.ret Sees.refl rfl rfl
 intro k1 h
 refine sj ?_
 refine rk 1 (.k2 (.i 6 (eS 6 eTask a0) .n)) ?_
 refine jo 7 (.len 0 6) (ok_len_m rfl) ?_
 refine jk 1 (.d (.k2 (.i 7 (vi (a0.length : Int)) (.i 8 (vi 0) .n)))) ?_
 refine q4 ?_
 refine ts (.k3 (.i 8 (vi 0) .n)) ?_
 refine TriE.loopN h (fun (v2 : Nat)=>St.mk [(0,eS 6 eTask a0),(1,.fn (.func 152) [] [.ptr 0 0 0]),(7,vi (a0.length : Int)),(8,vi v2)] [some (.row 1 [.fn (.func 149) [] [.ptr 1 0 0,.ptr 2 0 0]]),some (.row 1 [.fn (.func 84) [] []]),some (.row 1 [.own 3 0 a1.length]),some (.row 1 (List.map vt a1))]) rfl ?_
 clear h
 rintro back v2 h
 dsimp only [slices_IndexFunc_Task_3_L1] at h
 refine sj ?_
 refine jo 9 (.bin .lss false 8 7) (n_lss (i:=v2) (j:=a0.length) rfl rfl) ?_
 refine jf (.d (.k4 (.i 9 (vb (decide (v2 < a0.length))) .n))) ?_
 refine q1 ?_
 refine tc h (fun c1 h=>?_) (fun c1 h=>?_)
 ·refine q2 ?_
  refine q7 ?_
  refine sk (.k4 (.i 5 (vi v2) .n)) ?_
  refine sj ?_
  refine rk 3 (.k4 (.k (.i 11 (.fn (.func 152) [] [.ptr 0 0 0]) (.i 12 (eS 6 eTask a0) (.i 13 (vi v2) .n))))) ?_
  refine jo 14 (.iaddr 6 12 13) (ok_iaddr_m (j:=v2) rfl rfl rfl c1) ?_
  refine jo 15 (.load true 6 14) (ok_load_fm (v:=.agg [vt ((ix a0 v2).Name),vi ((ix a0 v2).Cents),vi ((ix a0 v2).Hours),eS 1 vt ((ix a0 v2).Needs),eS 1 (eS 1 vt) ((ix a0 v2).OneOf),eS 2 ePartCount ((ix a0 v2).Parts)]) rfl c1 rfl) ?_
  obtain ⟨y3,hy3,h⟩:=bs h
  refine jy (vb y3) 16 11 [15] rfl (restore_list_order_f2_2_ok n (ix a0 v2) a1 y3 hy3) [0,1,2,3] rfl (.cons rfl (.cons rfl (.cons rfl (.same (row_ren vt_frz _ _ _) .nil)))) (.cons rfl (.cons rfl (.cons rfl (.same (row_ren vt_frz _ _ _) .nil)))) rfl ?_
  refine jf (.d3 (.k4 (.k (.i 16 (vb y3) .n)))) ?_
  refine tc h (fun c2 h=>?_) (fun c2 h=>?_)
  ·refine sk (.i 4 (vi v2) .n) ?_
   refine q3 ?_
   have h:=si h
   subst h
   exact DoneS.ret Sees.refl rfl rfl
  refine q2 ?_
  refine q6 ?_
  obtain ⟨c3,h⟩:=ck h
  refine jo 18 (.bin .add false 8 (ki 1)) (r_addn (i:=v2) (j:=1) rfl rfl c3) ?_
  refine jk 1 (.d (.k3 (.i 8 (vi ((v2 + 1 : Nat) : Int)) .n))) ?_
  exact Vs.intro sy ⟨(v2 + 1),rfl,h⟩
 refine q5 ?_
 exact Vs.intro sy ⟨(),rfl,h⟩
theorem restore_list_order_ok (n : Nat) (a0 : List Task) (r : (List Str)) (h : restore_list_order n a0 = some r) : FnL Tryz.prog 83 [eS 6 eTask a0,.fn (.func 84) [] []] [] (eS 1 vt r) [] := by
 dsimp only [restore_list_order] at h
 refine fo [4] Tryz.call83 Tryz.func83 rfl ?_
 refine sko (.k (.i 3 (.ptr 0 0 0) .n)) [some (.row 1 [.fn (.func 84) [] []])] ?_
 refine sko (.k2 (.i 5 (.ptr 1 0 0) .n)) [some (.row 1 [.fn (.func 84) [] []]),some (.row 1 [.emp])] ?_
 refine sko (.k (.d (.k (.i 6 (.ptr 2 0 0) .n)))) [some (.row 1 [.fn (.func 84) [] []]),some (.row 1 [.emp]),some (.row 1 [.fn (.func 149) [] [.ptr 0 0 0,.ptr 1 0 0]])] ?_
 refine q4 ?_
 refine TriE.sees (S':=⟨[(0,eS 6 eTask a0),(5,.ptr 1 0 0),(6,.ptr 2 0 0)],[some (.row 1 [.fn (.func 84) [] []]),some (.row 1 [.own 3 0 ([] : List Str).length]),some (.row 1 [.fn (.func 149) [] [.ptr 0 0 0,.ptr 1 0 0]]),some (.row 1 (List.map vt ([] : List Str)))]⟩) (Sees.trans (Sees.co (fr':=[(0,eS 6 eTask a0),(5,.ptr 1 0 0),(6,.ptr 2 0 0)]) (ob':=[some (.row 1 [.fn (.func 84) [] []]),some (.row 1 [.own 3 0 0]),some (.row 1 [.fn (.func 149) [] [.ptr 0 0 0,.ptr 1 0 0]])]) (.cons .same (.cons .same (.cons .same .nil))) (.same (.cell (.cons .own .nil) rfl (.same .nil))) 1) sy) ?_
 refine TriE.loopN h (fun (v2 : (List Str))=>St.mk [(0,eS 6 eTask a0),(5,.ptr 1 0 0),(6,.ptr 2 0 0)] [some (.row 1 [.fn (.func 84) [] []]),some (.row 1 [.own 3 0 v2.length]),some (.row 1 [.fn (.func 149) [] [.ptr 0 0 0,.ptr 1 0 0]]),some (.row 1 (List.map vt v2))]) rfl ?_
 clear h
 rintro back v2 h
 dsimp only [restore_list_order_L1] at h
 refine q4 ?_
 refine sj ?_
 refine rk 2 (.k3 (.i 9 (eS 6 eTask a0) (.i 10 (.fn (.func 152) [] [.ptr 2 0 0]) .n))) ?_
 obtain ⟨y3,hy3,h⟩:=bs h
 refine jco (vi y3) 11 [9,10] (slices_IndexFunc_Task_3_ok n a0 v2 y3 hy3) [2,0,1,3] rfl (.cons rfl (.cons rfl (.cons rfl (.same (row_ren vt_frz _ _ _) .nil)))) (.cons rfl (.cons rfl (.cons rfl (.same (row_ren vt_frz _ _ _) .nil)))) rfl ?_
 refine jk 1 (.d (.k3 (.i 7 (vi y3) .n))) ?_
 refine q1 ?_
 refine sk (.k4 (.i 13 (vb (decide (y3 < (0 : Int)))) .n)) ?_
 refine tc h (fun c1 h=>?_) (fun c1 h=>?_)
 ·refine sk (.i 4 (.own 3 0 v2.length) .n) ?_
  refine q3 ?_
  have h:=si h
  subst h
  exact DoneS.ret (S' := ⟨[(4,eS 1 vt v2)],[]⟩) (Sees.trans (Sees.freeze 3 (fr' := [(4,eS 1 vt v2)]) (ob' := [some (.row 1 [.fn (.func 84) [] []]),some (.row 1 [.own 3 0 v2.length]),some (.row 1 [.fn (.func 149) [] [.ptr 0 0 0,.ptr 1 0 0]]),none]) rfl (frz_row vt_frzE _) (.cons (frz_full rfl) .nil) rfl) (sc [] (by decide) (by kernel_rfl) ObRen.nil rfl rfl)) rfl rfl
 refine q2 ?_
 refine ts (.k4 .n) ?_
 refine TriE.draw (by kernel_rfl) ?_
 refine dk 3 (.i 17 (vi y3) (.i 16 (eS 6 eTask a0) (.i 15 (.own 3 0 v2.length) .a))) ?_
 obtain ⟨c2,h⟩:=ck h
 refine dp 18 (.iaddr 6 16 17) (ok_iaddr_m (j:=y3.toNat) rfl rfl (inB_to c2) (inB_lt c2)) ?_
 refine dk 1 (.i 19 (.fptr 6 (List.map eTask a0) y3.toNat 0) .a) ?_
 obtain ⟨c3,h⟩:=ck h
 refine dp 20 (.load false 1 19) (ok_load_fm (v:=vt ((ix a0 y3.toNat).Name)) rfl c3 rfl) ?_
 refine dko 1 (.i 21 (.own 10 0 1) .a) [some (.row 1 [.fn (.func 84) [] []]),some (.row 1 [.own 3 0 v2.length]),some (.row 1 [.fn (.func 149) [] [.ptr 0 0 0,.ptr 1 0 0]]),some (.row 1 (List.map vt v2)),none,none,none,none,none,none,some (.row 1 [vt ((ix a0 y3.toNat).Name)])] ?_
 obtain ⟨c4,h⟩:=ck h
 refine dx 22 (.app 1 16 15 21) _ (ok_app_own (l:=v2) (l2:=([(ix a0 y3.toNat).Name] : List Str)) (e:=vt) (u:=.own 10 0 1) rfl rfl rfl rfl rfl c4) rfl rfl ?_
 refine dko 1 .a [some (.row 1 [.fn (.func 84) [] []]),some (.row 1 [.own 11 0 ((v2 ++ ([(ix a0 y3.toNat).Name] : List Str)).length)]),some (.row 1 [.fn (.func 149) [] [.ptr 0 0 0,.ptr 1 0 0]]),none,none,none,none,none,none,none,some (.row 1 [vt ((ix a0 y3.toNat).Name)]),some (.row 1 (List.map vt (v2 ++ ([(ix a0 y3.toNat).Name] : List Str)))),none] ?_
 refine dfi (ob':=[some (.row 1 [.fn (.func 84) [] []]),some (.row 1 [.own 3 0 ((v2 ++ ([(ix a0 y3.toNat).Name] : List Str)).length)]),some (.row 1 [.fn (.func 149) [] [.ptr 0 0 0,.ptr 1 0 0]]),some (.row 1 (List.map vt (v2 ++ ([(ix a0 y3.toNat).Name] : List Str))))]) (.d4 (.d4 (.k3 .n))) [0,1,2,11] (.cons rfl (.cons rfl (.cons rfl (obRen_row vt_frz rfl .nil)))) ?_
 exact Vs.intro Sees.refl ⟨(v2 ++ ([(ix a0 y3.toNat).Name] : List Str)),rfl,h⟩
theorem restore_CheckTasks_ok (n : Nat) (a0 : List Task) (r : Int) (h : restore_CheckTasks n a0 = some r) : FnL Tryz.prog 20 [eS 6 eTask a0] [] (vi r) [] := by
 dsimp only [restore_CheckTasks] at h
 refine fo [2] Tryz.call20 Tryz.func20 rfl ?_
 refine sk .a ?_
 refine q1 ?_
 refine sj ?_
 refine rk 1 (.k (.i 5 (eS 6 eTask a0) .n)) ?_
 refine jo 6 (.len 0 5) (ok_len_m rfl) ?_
 refine jo 7 (.bin .gtr false 6 (ki 60)) (n_gtr (i:=a0.length) (j:=60) rfl rfl) ?_
 refine jf (.d2 (.k (.i 7 (vb (decide (60 < a0.length))) .n))) ?_
 refine tc h (fun c1 h=>?_) (fun c1 h=>?_)
 ·refine sk (.i 2 (vi 8) .n) ?_
  refine q3 ?_
  have h:=si h
  subst h
  exact DoneS.ret Sees.refl rfl rfl
 refine q2 ?_
 refine TriE.seqK h (fun (_ : Unit)=>St.mk [(0,eS 6 eTask a0)] []) ?_ ?_
 ·rintro ⟨⟩ h
  refine q1 ?_
  refine sj ?_
  refine rk 1 (.k (.i 20 (eS 6 eTask a0) .n)) ?_
  obtain ⟨y4,hy4,h⟩:=bs h
  refine jc 21 [20,(.c (.fn (.func 84) [] []))] (restore_list_order_ok n a0 y4 hy4) ?_
  refine jo 22 (.len 0 21) (ok_len_m rfl) ?_
  refine rk 1 (.k (.i 23 (eS 6 eTask a0) .n)) ?_
  refine jo 24 (.len 0 23) (ok_len_m rfl) ?_
  refine jo 25 (.bin .lss false 22 24) (n_lss (i:=y4.length) (j:=a0.length) rfl rfl) ?_
  refine jf (.k .n) ?_
  refine tc h (fun c5 h=>?_) (fun c5 h=>?_)
  ·refine sk (.i 2 (vi 21) .n) ?_
   refine q3 ?_
   have h:=si h
   subst h
   exact DoneS.ret Sees.refl rfl rfl
  refine q2 ?_
  refine sk (.i 2 (vi 0) .n) ?_
  refine q3 ?_
  have h:=si h
  subst h
  exact DoneS.ret Sees.refl rfl rfl
 intro k1 h
 refine sj ?_
 refine rk 1 (.k (.i 8 (eS 6 eTask a0) .n)) ?_
 refine jo 9 (.len 0 8) (ok_len_m rfl) ?_
 refine jk 1 (.d (.k (.i 9 (vi (a0.length : Int)) (.i 10 (vi 0) .n)))) ?_
 refine q4 ?_
 refine ts (.k2 (.i 10 (vi 0) .n)) ?_
 refine TriE.loopN h (fun (v2 : Nat)=>St.mk [(0,eS 6 eTask a0),(9,vi (a0.length : Int)),(10,vi v2)] []) rfl ?_
 clear h
 rintro back v2 h
 dsimp only [restore_CheckTasks_L1] at h
 refine sj ?_
 refine jo 11 (.bin .lss false 10 9) (n_lss (i:=v2) (j:=a0.length) rfl rfl) ?_
 refine jf (.d (.k3 (.i 11 (vb (decide (v2 < a0.length))) .n))) ?_
 refine q1 ?_
 refine tc h (fun c2 h=>?_) (fun c2 h=>?_)
 ·refine q2 ?_
  refine q7 ?_
  refine sk (.k3 (.i 3 (vi v2) .n)) ?_
  refine sj ?_
  refine rk 2 (.k3 (.i 13 (eS 6 eTask a0) (.i 14 (vi v2) .n))) ?_
  obtain ⟨y3,hy3,h⟩:=bs h
  refine jc 15 [13,14] (restore_list_checkTask_ok n a0 (v2 : Int) y3 hy3) ?_
  refine jk 1 (.d (.k3 (.i 4 (vi y3) .n))) ?_
  refine sk (.k4 (.i 17 (vb (y3 != (0 : Int))) .n)) ?_
  refine tc h (fun c3 h=>?_) (fun c3 h=>?_)
  ·refine sk (.i 2 (vi y3) .n) ?_
   refine q3 ?_
   have h:=si h
   subst h
   exact DoneS.ret Sees.refl rfl rfl
  refine q2 ?_
  refine q6 ?_
  obtain ⟨c4,h⟩:=ck h
  refine jo 19 (.bin .add false 10 (ki 1)) (r_addn (i:=v2) (j:=1) rfl rfl c4) ?_
  refine jk 1 (.d (.k2 (.i 10 (vi ((v2 + 1 : Nat) : Int)) .n))) ?_
  exact Vs.intro sy ⟨(v2 + 1),rfl,h⟩
 refine q5 ?_
 exact Vs.intro sy ⟨(),rfl,h⟩
theorem agraffebase_isLetter_ok (n : Nat) (a0 : Int) (r : Unit) (h : agraffebase_isLetter n a0 = some r) : FnL Tryz.prog 155 [vk .u8 a0] [] (vb (((decide ((97 : Int) ≤ a0)) && (decide (a0 ≤ (122 : Int)))) || ((decide ((65 : Int) ≤ a0)) && (decide (a0 ≤ (90 : Int)))))) [] := by
 dsimp only [agraffebase_isLetter] at h
 refine fo [2] Tryz.call155 Tryz.func155 rfl ?_
 refine sk .a ?_
 refine sj ?_
 refine rk 3 (.k (.i 5 (vb (decide ((97 : Int) ≤ a0))) .n)) ?_
 refine gj (vk .u8 a0) 6 (.mov 0) 5 true rfl ?_
 refine gk (vb (decide (a0 ≤ (122 : Int)))) 7 (.bin .leq false 6 (.c (.p (.int .u8 122)))) 5 true rfl (fun hg=>(.cons hg (.cons rfl .nil))) ?_
 refine pa 8 5 7 rfl rfl ?_
 refine rk 1 (.d3 (.k (.i 9 (vb ((decide ((97 : Int) ≤ a0)) && (decide (a0 ≤ (122 : Int))))) .n))) ?_
 refine gj (vk .u8 a0) 10 (.mov 0) 9 false rfl ?_
 refine gk (vb (decide ((65 : Int) ≤ a0))) 11 (.bin .geq false 10 (.c (.p (.int .u8 65)))) 9 false rfl (fun hg=>(.cons hg (.cons rfl .nil))) ?_
 refine gk (vb (decide ((65 : Int) ≤ a0))) 12 (.mov 11) 9 false rfl (fun hg=>(.cons hg .nil)) ?_
 refine gj (vk .u8 a0) 13 (.mov 0) 12 true rfl ?_
 refine gk (vb (decide (a0 ≤ (90 : Int)))) 14 (.bin .leq false 13 (.c (.p (.int .u8 90)))) 12 true rfl (fun hg=>(.cons hg (.cons rfl .nil))) ?_
 refine RegJ.op (Op1.andg (g:=!((decide ((97 : Int) ≤ a0)) && (decide (a0 ≤ (122 : Int))))) (cy (IG 15 (.pick 12 14 (.c (.p (.bool false)))) 9 false)) rfl rfl rfl (fun hg=>by first | exact hokA2 hg | exact hokA3 hg | exact hokA1 | exact hokA0 | (rw [hg]; simp) | simp_all)) ?_
 refine po 16 9 15 rfl rfl ?_
 refine jk 1 (.i 2 (vb (((decide ((97 : Int) ≤ a0)) && (decide (a0 ≤ (122 : Int)))) || ((decide ((65 : Int) ≤ a0)) && (decide (a0 ≤ (90 : Int)))))) .n) ?_
 refine q3 ?_
 have h:=si h
 subst h
 exact DoneS.ret Sees.refl rfl rfl
theorem agraffebase_isDigit_ok (n : Nat) (a0 : Int) (r : Unit) (h : agraffebase_isDigit n a0 = some r) : FnL Tryz.prog 156 [vk .u8 a0] [] (vb ((decide ((48 : Int) ≤ a0)) && (decide (a0 ≤ (57 : Int))))) [] := by
 dsimp only [agraffebase_isDigit] at h
 refine fo [2] Tryz.call156 Tryz.func156 rfl ?_
 refine sk .a ?_
 refine sj ?_
 refine rk 3 (.k (.i 5 (vb (decide ((48 : Int) ≤ a0))) .n)) ?_
 refine gj (vk .u8 a0) 6 (.mov 0) 5 true rfl ?_
 refine gk (vb (decide (a0 ≤ (57 : Int)))) 7 (.bin .leq false 6 (.c (.p (.int .u8 57)))) 5 true rfl (fun hg=>(.cons hg (.cons rfl .nil))) ?_
 refine pa 8 5 7 rfl rfl ?_
 refine jk 1 (.i 2 (vb ((decide ((48 : Int) ≤ a0)) && (decide (a0 ≤ (57 : Int))))) .n) ?_
 refine q3 ?_
 have h:=si h
 subst h
 exact DoneS.ret Sees.refl rfl rfl
set_option maxHeartbeats 1000000 in
theorem agraffebase_IsName_ok (n : Nat) (a0 : Str) (r : Bool) (h : q39k n a0 = some r) : FnL Tryz.prog 89 [vt a0] [] (vb r) [] := by
 dsimp only [q39k] at h
 refine fo [2] Tryz.call89 Tryz.func89 rfl ?_
 refine sk .a ?_
 refine q1 ?_
 refine sj ?_
 refine rk 1 (.k (.i 4 (vt a0) .n)) ?_
 refine jo 5 (.len 1 4) (ok_len_t rfl) ?_
 refine jo 6 (.bin .eql false 5 (ki 0)) (n_eql (i:=a0.length) (j:=0) rfl rfl) ?_
 refine rk 1 (.d2 (.k (.i 7 (vb (decide (a0.length = 0))) .n))) ?_
 refine gj (vt a0) 8 (.mov 0) 7 false rfl ?_
 refine gv 9 (.len 1 8) 7 false rfl (fun hg=>(ok_len_t rfl)) (fun hg=>(.cons hg .nil)) ?_
 refine gv 10 (.bin .gtr false 9 (ki 12)) 7 false rfl (fun hg=>(n_gtr (i:=a0.length) (j:=12) rfl rfl)) (fun hg=>(.cons hg (.cons rfl .nil))) ?_
 refine po 11 7 10 rfl rfl ?_
 refine rk 1 (.d4 (.k (.i 12 (vb ((decide (a0.length = 0)) || (decide (12 < a0.length)))) .n))) ?_
 refine gj (vt a0) 13 (.mov 0) 12 false rfl ?_
 obtain ⟨c1,h⟩:=ck h
 refine gv 14 (.sidx 13 (ki 0)) 12 false rfl (fun hg=>(ok_sidx_t (j:=0) rfl rfl rfl (gor c1 hg))) (fun hg=>(.cons hg (.cons rfl .nil))) ?_
 obtain ⟨y1,hy1,h⟩:=bs h
 refine gc 15 [14] 12 false rfl (fun hg=>agraffebase_isLetter_ok n (((List.getD a0 0 0).toNat : Nat) : Int) y1 (gcall_some hy1 hg)) (fun hg=>(.cons rfl (.cons hg .nil))) (fun hg=>by kernel_rfl) ?_
 refine gk (vb (!(((decide ((97 : Int) ≤ (((List.getD a0 0 0).toNat : Nat) : Int))) && (decide ((((List.getD a0 0 0).toNat : Nat) : Int) ≤ (122 : Int)))) || ((decide ((65 : Int) ≤ (((List.getD a0 0 0).toNat : Nat) : Int))) && (decide ((((List.getD a0 0 0).toNat : Nat) : Int) ≤ (90 : Int))))))) 16 (.un .not 15) 12 false rfl (fun hg=>(.cons hg .nil)) ?_
 refine po 17 12 16 rfl rfl ?_
 refine jf (.d4 (.d (.k (.i 17 (vb (((decide (a0.length = 0)) || (decide (12 < a0.length))) || (!(((decide ((97 : Int) ≤ (((List.getD a0 0 0).toNat : Nat) : Int))) && (decide ((((List.getD a0 0 0).toNat : Nat) : Int) ≤ (122 : Int)))) || ((decide ((65 : Int) ≤ (((List.getD a0 0 0).toNat : Nat) : Int))) && (decide ((((List.getD a0 0 0).toNat : Nat) : Int) ≤ (90 : Int)))))))) .n)))) ?_
 refine tc h (fun c2 h=>?_) (fun c2 h=>?_)
 ·refine sk (.i 2 (vb false) .n) ?_
  refine q3 ?_
  have h:=si h
  subst h
  exact DoneS.ret Sees.refl rfl rfl
 refine q2 ?_
 refine TriE.seqK h (fun (_ : Unit)=>St.mk [] []) ?_ ?_
 ·rintro ⟨⟩ h
  refine sk (.i 2 (vb true) .n) ?_
  refine q3 ?_
  have h:=si h
  subst h
  exact DoneS.ret Sees.refl rfl rfl
 intro k1 h
 refine sk (.k (.i 3 (vi 0) .n)) ?_
 refine q4 ?_
 refine ts (.k (.i 3 (vi 0) .n)) ?_
 refine TriE.loopN h (fun (v4 : Nat)=>St.mk [(0,vt a0),(3,vi v4)] []) rfl ?_
 clear h
 rintro back v4 h
 dsimp only [agraffebase_IsName_L1] at h
 refine q1 ?_
 refine sj ?_
 refine rk 2 (.k2 (.i 18 (vi v4) (.i 19 (vt a0) .n))) ?_
 refine jo 20 (.len 1 19) (ok_len_t rfl) ?_
 refine jo 21 (.bin .lss false 18 20) (n_lss (i:=v4) (j:=a0.length) rfl rfl) ?_
 refine jf (.d2 (.k2 (.i 21 (vb (decide (v4 < a0.length))) .n))) ?_
 refine tc h (fun c3 h=>?_) (fun c3 h=>?_)
 ·refine q2 ?_
  refine q7 ?_
  refine sj ?_
  refine rk 2 (.k2 (.i 24 (vt a0) (.i 25 (vi v4) .n))) ?_
  refine jo 26 (.sidx 24 25) (ok_sidx_t (j:=v4) rfl rfl rfl c3) ?_
  obtain ⟨y5,hy5,h⟩:=bs h
  refine jc 27 [26] (agraffebase_isLetter_ok n (((List.getD a0 v4 0).toNat : Nat) : Int) y5 hy5) ?_
  refine rk 2 (.d2 (.k2 (.i 29 (vb (!(((decide ((97 : Int) ≤ (((List.getD a0 v4 0).toNat : Nat) : Int))) && (decide ((((List.getD a0 v4 0).toNat : Nat) : Int) ≤ (122 : Int)))) || ((decide ((65 : Int) ≤ (((List.getD a0 v4 0).toNat : Nat) : Int))) && (decide ((((List.getD a0 v4 0).toNat : Nat) : Int) ≤ (90 : Int))))))) .n))) ?_
  refine gj (vt a0) 30 (.mov 0) 29 true rfl ?_
  refine gj (vi v4) 31 (.mov 3) 29 true rfl ?_
  refine gv 32 (.sidx 30 31) 29 true rfl (fun hg=>(ok_sidx_t (j:=v4) rfl rfl rfl c3)) (fun hg=>(.cons hg (.cons hg .nil))) ?_
  obtain ⟨y6,hy6,h⟩:=bs h
  refine gc 33 [32] 29 true rfl (fun hg=>agraffebase_isDigit_ok n (((List.getD a0 v4 0).toNat : Nat) : Int) y6 (gcall_some hy6 hg)) (fun hg=>(.cons rfl (.cons hg .nil))) (fun hg=>by kernel_rfl) ?_
  refine gk (vb (!((decide ((48 : Int) ≤ (((List.getD a0 v4 0).toNat : Nat) : Int))) && (decide ((((List.getD a0 v4 0).toNat : Nat) : Int) ≤ (57 : Int)))))) 34 (.un .not 33) 29 true rfl (fun hg=>(.cons hg .nil)) ?_
  refine pa 35 29 34 rfl rfl ?_
  refine rk 1 (.d4 (.d2 (.k2 (.i 30 (.cond (!(((decide ((97 : Int) ≤ (((List.getD a0 v4 0).toNat : Nat) : Int))) && (decide ((((List.getD a0 v4 0).toNat : Nat) : Int) ≤ (122 : Int)))) || ((decide ((65 : Int) ≤ (((List.getD a0 v4 0).toNat : Nat) : Int))) && (decide ((((List.getD a0 v4 0).toNat : Nat) : Int) ≤ (90 : Int)))))) (vt a0)) (.i 31 (.cond (!(((decide ((97 : Int) ≤ (((List.getD a0 v4 0).toNat : Nat) : Int))) && (decide ((((List.getD a0 v4 0).toNat : Nat) : Int) ≤ (122 : Int)))) || ((decide ((65 : Int) ≤ (((List.getD a0 v4 0).toNat : Nat) : Int))) && (decide ((((List.getD a0 v4 0).toNat : Nat) : Int) ≤ (90 : Int)))))) (vi v4)) (.i 32 (.cond (!(((decide ((97 : Int) ≤ (((List.getD a0 v4 0).toNat : Nat) : Int))) && (decide ((((List.getD a0 v4 0).toNat : Nat) : Int) ≤ (122 : Int)))) || ((decide ((65 : Int) ≤ (((List.getD a0 v4 0).toNat : Nat) : Int))) && (decide ((((List.getD a0 v4 0).toNat : Nat) : Int) ≤ (90 : Int)))))) (vk .u8 (((List.getD a0 v4 0).toNat : Nat) : Int))) (.i 33 (.cond (!(((decide ((97 : Int) ≤ (((List.getD a0 v4 0).toNat : Nat) : Int))) && (decide ((((List.getD a0 v4 0).toNat : Nat) : Int) ≤ (122 : Int)))) || ((decide ((65 : Int) ≤ (((List.getD a0 v4 0).toNat : Nat) : Int))) && (decide ((((List.getD a0 v4 0).toNat : Nat) : Int) ≤ (90 : Int)))))) (vb ((decide ((48 : Int) ≤ (((List.getD a0 v4 0).toNat : Nat) : Int))) && (decide ((((List.getD a0 v4 0).toNat : Nat) : Int) ≤ (57 : Int)))))) (.i 34 (.cond (!(((decide ((97 : Int) ≤ (((List.getD a0 v4 0).toNat : Nat) : Int))) && (decide ((((List.getD a0 v4 0).toNat : Nat) : Int) ≤ (122 : Int)))) || ((decide ((65 : Int) ≤ (((List.getD a0 v4 0).toNat : Nat) : Int))) && (decide ((((List.getD a0 v4 0).toNat : Nat) : Int) ≤ (90 : Int)))))) (vb (!((decide ((48 : Int) ≤ (((List.getD a0 v4 0).toNat : Nat) : Int))) && (decide ((((List.getD a0 v4 0).toNat : Nat) : Int) ≤ (57 : Int))))))) (.i 36 (vb ((!(((decide ((97 : Int) ≤ (((List.getD a0 v4 0).toNat : Nat) : Int))) && (decide ((((List.getD a0 v4 0).toNat : Nat) : Int) ≤ (122 : Int)))) || ((decide ((65 : Int) ≤ (((List.getD a0 v4 0).toNat : Nat) : Int))) && (decide ((((List.getD a0 v4 0).toNat : Nat) : Int) ≤ (90 : Int)))))) && (!((decide ((48 : Int) ≤ (((List.getD a0 v4 0).toNat : Nat) : Int))) && (decide ((((List.getD a0 v4 0).toNat : Nat) : Int) ≤ (57 : Int))))))) .n))))))))) ?_
  refine gj (vt a0) 37 (.mov 0) 36 true rfl ?_
  refine gj (vi v4) 38 (.mov 3) 36 true rfl ?_
  refine gv 39 (.sidx 37 38) 36 true rfl (fun hg=>(ok_sidx_t (j:=v4) rfl rfl rfl c3)) (fun hg=>(.cons hg (.cons hg .nil))) ?_
  refine gk (vb ((((List.getD a0 v4 0).toNat : Nat) : Int) != (45 : Int))) 40 (.bin .neq false 39 (.c (.p (.int .u8 45)))) 36 true rfl (fun hg=>(.cons hg (.cons rfl .nil))) ?_
  refine pa 41 36 40 rfl rfl ?_
  refine jf (.d4 (.d (.k2 (.i 41 (vb (((!(((decide ((97 : Int) ≤ (((List.getD a0 v4 0).toNat : Nat) : Int))) && (decide ((((List.getD a0 v4 0).toNat : Nat) : Int) ≤ (122 : Int)))) || ((decide ((65 : Int) ≤ (((List.getD a0 v4 0).toNat : Nat) : Int))) && (decide ((((List.getD a0 v4 0).toNat : Nat) : Int) ≤ (90 : Int)))))) && (!((decide ((48 : Int) ≤ (((List.getD a0 v4 0).toNat : Nat) : Int))) && (decide ((((List.getD a0 v4 0).toNat : Nat) : Int) ≤ (57 : Int)))))) && ((((List.getD a0 v4 0).toNat : Nat) : Int) != (45 : Int)))) .n)))) ?_
  refine tc h (fun c4 h=>?_) (fun c4 h=>?_)
  ·refine sk (.i 2 (vb false) .n) ?_
   refine q3 ?_
   have h:=si h
   subst h
   exact DoneS.ret Sees.refl rfl rfl
  refine q2 ?_
  refine q6 ?_
  refine rk 1 (.k (.i 22 (vi v4) .n)) ?_
  obtain ⟨c5,h⟩:=ck h
  refine jo 23 (.bin .add false 22 (ki 1)) (r_addn (i:=v4) (j:=1) rfl rfl c5) ?_
  refine jk 1 (.d (.k (.i 3 (vi ((v4 + 1 : Nat) : Int)) .n))) ?_
  exact Vs.intro sy ⟨(v4 + 1),rfl,h⟩
 refine q5 ?_
 exact Vs.intro sy ⟨(),rfl,h⟩
theorem agrafferef08_Find_ok (n : Nat) (a0 : List Task) (a1 : Str) (r : Int) (h : q52k n a0 a1 = some r) : FnL Tryz.prog 66 [eS 6 eTask a0,vt a1] [] (vi r) [] := by
 dsimp only [q52k] at h
 refine fo [4] Tryz.call66 Tryz.func66 rfl ?_
 refine sk .a ?_
 refine TriE.seqK h (fun (_ : Unit)=>St.mk [] []) ?_ ?_
 ·rintro ⟨⟩ h
  refine sk (.i 4 (vi (-1)) .n) ?_
  refine q3 ?_
  have h:=si h
  subst h
  exact DoneS.ret Sees.refl rfl rfl
 intro k1 h
 refine sk (.k2 (.i 5 (vi 0) .n)) ?_
 refine q4 ?_
 refine ts (.k2 (.i 5 (vi 0) .n)) ?_
 refine TriE.loopN h (fun (v1 : Nat)=>St.mk [(0,eS 6 eTask a0),(1,vt a1),(5,vi v1)] []) rfl ?_
 clear h
 rintro back v1 h
 dsimp only [agrafferef08_Find_L1] at h
 refine q1 ?_
 refine sj ?_
 refine rk 2 (.k3 (.i 6 (vi v1) (.i 7 (eS 6 eTask a0) .n))) ?_
 refine jo 8 (.len 0 7) (ok_len_m rfl) ?_
 refine jo 9 (.bin .lss false 6 8) (n_lss (i:=v1) (j:=a0.length) rfl rfl) ?_
 refine jf (.d2 (.k3 (.i 9 (vb (decide (v1 < a0.length))) .n))) ?_
 refine tc h (fun c1 h=>?_) (fun c1 h=>?_)
 ·refine q2 ?_
  refine q7 ?_
  refine sj ?_
  refine rk 2 (.k3 (.i 12 (eS 6 eTask a0) (.i 13 (vi v1) .n))) ?_
  refine jo 14 (.iaddr 6 12 13) (ok_iaddr_m (j:=v1) rfl rfl rfl c1) ?_
  refine rk 1 (.d (.k3 (.i 15 (.fptr 6 (List.map eTask a0) v1 0) .n))) ?_
  refine jo 16 (.load false 1 15) (ok_load_fm (v:=vt ((ix a0 v1).Name)) rfl c1 rfl) ?_
  refine jk 2 (.d (.k3 (.i 18 (vb (((ix a0 v1).Name) == a1)) .n))) ?_
  refine tc h (fun c2 h=>?_) (fun c2 h=>?_)
  ·refine sk (.i 4 (vi v1) .n) ?_
   refine q3 ?_
   have h:=si h
   subst h
   exact DoneS.ret Sees.refl rfl rfl
  refine q2 ?_
  refine q6 ?_
  refine rk 1 (.k2 (.i 10 (vi v1) .n)) ?_
  obtain ⟨c3,h⟩:=ck h
  refine jo 11 (.bin .add false 10 (ki 1)) (r_addn (i:=v1) (j:=1) rfl rfl c3) ?_
  refine jk 1 (.d (.k2 (.i 5 (vi ((v1 + 1 : Nat) : Int)) .n))) ?_
  exact Vs.intro sy ⟨(v1 + 1),rfl,h⟩
 refine q5 ?_
 exact Vs.intro sy ⟨(),rfl,h⟩
theorem agraffebase_Within_ok (n : Nat) (a0 : Int) (a1 : Int) (a2 : Int) (r : Unit) (h : q29k n a0 a1 a2 = some r) : FnL Tryz.prog 90 [vi a0,vi a1,vi a2] [] (vb ((decide (a1 ≤ a0)) && (decide (a0 ≤ a2)))) [] := by
 dsimp only [q29k] at h
 refine fo [6] Tryz.call90 Tryz.func90 rfl ?_
 refine sk .a ?_
 refine sj ?_
 refine rk 4 (.k (.d (.k (.i 10 (vb (decide (a1 ≤ a0))) .n)))) ?_
 refine gj (vi a0) 11 (.mov 0) 10 true rfl ?_
 refine gj (vi a2) 12 (.mov 2) 10 true rfl ?_
 refine gk (vb (decide (a0 ≤ a2))) 13 (.bin .leq false 11 12) 10 true rfl (fun hg=>(.cons hg (.cons hg .nil))) ?_
 refine pa 14 10 13 rfl rfl ?_
 refine jk 1 (.i 6 (vb ((decide (a1 ≤ a0)) && (decide (a0 ≤ a2)))) .n) ?_
 refine q3 ?_
 have h:=si h
 subst h
 exact DoneS.ret Sees.refl rfl rfl
theorem agraffebase_HasText_ok (n : Nat) (a0 : List Str) (a1 : Str) (r : Bool) (h : q58k n a0 a1 = some r) : FnL Tryz.prog 74 [eS 1 vt a0,vt a1] [] (vb r) [] := by
 dsimp only [q58k] at h
 refine fo [4] Tryz.call74 Tryz.func74 rfl ?_
 refine sk .a ?_
 refine TriE.seqK h (fun (_ : Unit)=>St.mk [] []) ?_ ?_
 ·rintro ⟨⟩ h
  refine sk (.i 4 (vb false) .n) ?_
  refine q3 ?_
  have h:=si h
  subst h
  exact DoneS.ret Sees.refl rfl rfl
 intro k1 h
 refine sk (.k2 (.i 5 (vi 0) .n)) ?_
 refine q4 ?_
 refine ts (.k2 (.i 5 (vi 0) .n)) ?_
 refine TriE.loopN h (fun (v1 : Nat)=>St.mk [(0,eS 1 vt a0),(1,vt a1),(5,vi v1)] []) rfl ?_
 clear h
 rintro back v1 h
 dsimp only [agraffebase_HasText_L1] at h
 refine q1 ?_
 refine sj ?_
 refine rk 2 (.k3 (.i 6 (vi v1) (.i 7 (eS 1 vt a0) .n))) ?_
 refine jo 8 (.len 0 7) (ok_len_m rfl) ?_
 refine jo 9 (.bin .lss false 6 8) (n_lss (i:=v1) (j:=a0.length) rfl rfl) ?_
 refine jf (.d2 (.k3 (.i 9 (vb (decide (v1 < a0.length))) .n))) ?_
 refine tc h (fun c1 h=>?_) (fun c1 h=>?_)
 ·refine q2 ?_
  refine q7 ?_
  refine sj ?_
  refine rk 2 (.k3 (.i 12 (eS 1 vt a0) (.i 13 (vi v1) .n))) ?_
  refine jo 14 (.iaddr 1 12 13) (ok_iaddr_m (j:=v1) rfl rfl rfl c1) ?_
  refine jo 15 (.load false 1 14) (ok_load_fm (v:=vt (ix a0 v1)) rfl c1 rfl) ?_
  refine jk 2 (.d2 (.k3 (.i 17 (vb ((ix a0 v1) == a1)) .n))) ?_
  refine tc h (fun c2 h=>?_) (fun c2 h=>?_)
  ·refine sk (.i 4 (vb true) .n) ?_
   refine q3 ?_
   have h:=si h
   subst h
   exact DoneS.ret Sees.refl rfl rfl
  refine q2 ?_
  refine q6 ?_
  refine rk 1 (.k2 (.i 10 (vi v1) .n)) ?_
  obtain ⟨c3,h⟩:=ck h
  refine jo 11 (.bin .add false 10 (ki 1)) (r_addn (i:=v1) (j:=1) rfl rfl c3) ?_
  refine jk 1 (.d (.k2 (.i 5 (vi ((v1 + 1 : Nat) : Int)) .n))) ?_
  exact Vs.intro sy ⟨(v1 + 1),rfl,h⟩
 refine q5 ?_
 exact Vs.intro sy ⟨(),rfl,h⟩
theorem agrafferef08_tasks_ok (n : Nat) (a0 : List Task) (a1 : List Str) (r : Int) (h : agrafferef08_tasks n a0 a1 = some r) : FnL Tryz.prog 94 [eS 6 eTask a0,eS 1 vt a1] [] (vi r) [] := by
 dsimp only [agrafferef08_tasks] at h
 refine fo [4] Tryz.call94 Tryz.func94 rfl ?_
 refine sk .a ?_
 refine TriE.seqK h (fun (_ : Unit)=>St.mk [] []) ?_ ?_
 ·rintro ⟨⟩ h
  refine sk (.i 4 (vi 0) .n) ?_
  refine q3 ?_
  have h:=si h
  subst h
  exact DoneS.ret Sees.refl rfl rfl
 intro k1 h
 refine sk (.k2 (.i 5 (vi 0) .n)) ?_
 refine q4 ?_
 refine ts (.k2 (.i 5 (vi 0) .n)) ?_
 refine TriE.loopN h (fun (v3 : Nat)=>St.mk [(0,eS 6 eTask a0),(1,eS 1 vt a1),(5,vi v3)] []) rfl ?_
 clear h
 rintro back v3 h
 dsimp only [agrafferef08_tasks_L1] at h
 refine q1 ?_
 refine sj ?_
 refine rk 2 (.k3 (.i 6 (vi v3) (.i 7 (eS 1 vt a1) .n))) ?_
 refine jo 8 (.len 0 7) (ok_len_m rfl) ?_
 refine jo 9 (.bin .lss false 6 8) (n_lss (i:=v3) (j:=a1.length) rfl rfl) ?_
 refine jf (.d2 (.k3 (.i 9 (vb (decide (v3 < a1.length))) .n))) ?_
 refine tc h (fun c1 h=>?_) (fun c1 h=>?_)
 ·refine q2 ?_
  refine q7 ?_
  refine q1 ?_
  refine sj ?_
  refine rk 3 (.k3 (.i 12 (eS 6 eTask a0) (.i 13 (eS 1 vt a1) (.i 14 (vi v3) .n)))) ?_
  refine jo 15 (.iaddr 1 13 14) (ok_iaddr_m (j:=v3) rfl rfl rfl c1) ?_
  refine jo 16 (.load false 1 15) (ok_load_fm (v:=vt (ix a1 v3)) rfl c1 rfl) ?_
  obtain ⟨y4,hy4,h⟩:=bs h
  refine jc 17 [12,16] (agrafferef08_Find_ok n a0 (ix a1 v3) y4 hy4) ?_
  refine jk 1 (.d3 (.k3 (.i 18 (vb (decide (y4 < (0 : Int)))) .n))) ?_
  refine tc h (fun c2 h=>?_) (fun c2 h=>?_)
  ·refine sk (.i 4 (vi 6) .n) ?_
   refine q3 ?_
   have h:=si h
   subst h
   exact DoneS.ret Sees.refl rfl rfl
  refine q2 ?_
  refine q1 ?_
  refine ts (.k3 .n) ?_
  refine TriE.draw (by kernel_rfl) ?_
  refine dk 2 (.i 20 (vi v3) (.i 19 (eS 1 vt a1) .a)) ?_
  obtain ⟨c3,h⟩:=ck h
  refine dp 21 (.slc 1 19 none (some 20) none) (ok_slc_hi (j:=v3) rfl rfl rfl c3) ?_
  refine dk 2 (.i 23 (vi v3) (.i 22 (eS 1 vt a1) .a)) ?_
  refine dp 24 (.iaddr 1 22 23) (ok_iaddr_m (j:=v3) rfl rfl rfl c1) ?_
  refine dp 25 (.load false 1 24) (ok_load_fm (v:=vt (ix a1 v3)) rfl c1 rfl) ?_
  obtain ⟨y5,hy5,h⟩:=bs h
  refine dc (vb y5) 0 26 [21,25] (agraffebase_HasText_ok n (List.take v3 a1) (ix a1 v3) y5 hy5) [] rfl ObsRen.nil ObsRen.nil rfl (.inr ⟨rfl,rfl⟩) ?_
  refine dfi (.d4 (.d4 (.k3 (.i 26 (vb y5) .n)))) [] ObRen.nil ?_
  refine tc h (fun c4 h=>?_) (fun c4 h=>?_)
  ·refine sk (.i 4 (vi 5) .n) ?_
   refine q3 ?_
   have h:=si h
   subst h
   exact DoneS.ret Sees.refl rfl rfl
  refine q2 ?_
  refine q6 ?_
  refine rk 1 (.k2 (.i 10 (vi v3) .n)) ?_
  obtain ⟨c5,h⟩:=ck h
  refine jo 11 (.bin .add false 10 (ki 1)) (r_addn (i:=v3) (j:=1) rfl rfl c5) ?_
  refine jk 1 (.d (.k2 (.i 5 (vi ((v3 + 1 : Nat) : Int)) .n))) ?_
  exact Vs.intro sy ⟨(v3 + 1),rfl,h⟩
 refine q5 ?_
 exact Vs.intro sy ⟨(),rfl,h⟩
theorem agrafferef08_FindPart_ok (n : Nat) (a0 : List PartCount) (a1 : Str) (r : Int) (h : agrafferef08_FindPart n a0 a1 = some r) : FnL Tryz.prog 139 [eS 2 ePartCount a0,vt a1] [] (vi r) [] := by
 dsimp only [agrafferef08_FindPart] at h
 refine fo [4] Tryz.call139 Tryz.func139 rfl ?_
 refine sk .a ?_
 refine TriE.seqK h (fun (_ : Unit)=>St.mk [] []) ?_ ?_
 ·rintro ⟨⟩ h
  refine sk (.i 4 (vi (-1)) .n) ?_
  refine q3 ?_
  have h:=si h
  subst h
  exact DoneS.ret Sees.refl rfl rfl
 intro k1 h
 refine sk (.k2 (.i 5 (vi 0) .n)) ?_
 refine q4 ?_
 refine ts (.k2 (.i 5 (vi 0) .n)) ?_
 refine TriE.loopN h (fun (v1 : Nat)=>St.mk [(0,eS 2 ePartCount a0),(1,vt a1),(5,vi v1)] []) rfl ?_
 clear h
 rintro back v1 h
 dsimp only [agrafferef08_FindPart_L1] at h
 refine q1 ?_
 refine sj ?_
 refine rk 2 (.k3 (.i 6 (vi v1) (.i 7 (eS 2 ePartCount a0) .n))) ?_
 refine jo 8 (.len 0 7) (ok_len_m rfl) ?_
 refine jo 9 (.bin .lss false 6 8) (n_lss (i:=v1) (j:=a0.length) rfl rfl) ?_
 refine jf (.d2 (.k3 (.i 9 (vb (decide (v1 < a0.length))) .n))) ?_
 refine tc h (fun c1 h=>?_) (fun c1 h=>?_)
 ·refine q2 ?_
  refine q7 ?_
  refine sj ?_
  refine rk 2 (.k3 (.i 12 (eS 2 ePartCount a0) (.i 13 (vi v1) .n))) ?_
  refine jo 14 (.iaddr 2 12 13) (ok_iaddr_m (j:=v1) rfl rfl rfl c1) ?_
  refine rk 1 (.d (.k3 (.i 15 (.fptr 2 (List.map ePartCount a0) v1 0) .n))) ?_
  refine jo 16 (.load false 1 15) (ok_load_fm (v:=vt ((ix a0 v1).Part)) rfl c1 rfl) ?_
  refine jk 2 (.d (.k3 (.i 18 (vb (((ix a0 v1).Part) == a1)) .n))) ?_
  refine tc h (fun c2 h=>?_) (fun c2 h=>?_)
  ·refine sk (.i 4 (vi v1) .n) ?_
   refine q3 ?_
   have h:=si h
   subst h
   exact DoneS.ret Sees.refl rfl rfl
  refine q2 ?_
  refine q6 ?_
  refine rk 1 (.k2 (.i 10 (vi v1) .n)) ?_
  obtain ⟨c3,h⟩:=ck h
  refine jo 11 (.bin .add false 10 (ki 1)) (r_addn (i:=v1) (j:=1) rfl rfl c3) ?_
  refine jk 1 (.d (.k2 (.i 5 (vi ((v1 + 1 : Nat) : Int)) .n))) ?_
  exact Vs.intro sy ⟨(v1 + 1),rfl,h⟩
 refine q5 ?_
 exact Vs.intro sy ⟨(),rfl,h⟩
theorem agrafferef08_counts_ok (n : Nat) (a0 : List PartCount) (a1 : Int) (r : Int) (h : agrafferef08_counts n a0 a1 = some r) : FnL Tryz.prog 102 [eS 2 ePartCount a0,vi a1] [] (vi r) [] := by
 dsimp only [agrafferef08_counts] at h
 refine fo [4] Tryz.call102 Tryz.func102 rfl ?_
 refine sk .a ?_
 refine TriE.seqK h (fun (_ : Unit)=>St.mk [] []) ?_ ?_
 ·rintro ⟨⟩ h
  refine sk (.i 4 (vi 0) .n) ?_
  refine q3 ?_
  have h:=si h
  subst h
  exact DoneS.ret Sees.refl rfl rfl
 intro k1 h
 refine sk (.k2 (.i 5 (vi 0) .n)) ?_
 refine q4 ?_
 refine ts (.k2 (.i 5 (vi 0) .n)) ?_
 refine TriE.loopN h (fun (v4 : Nat)=>St.mk [(0,eS 2 ePartCount a0),(1,vi a1),(5,vi v4)] []) rfl ?_
 clear h
 rintro back v4 h
 dsimp only [agrafferef08_counts_L1] at h
 refine q1 ?_
 refine sj ?_
 refine rk 2 (.k3 (.i 6 (vi v4) (.i 7 (eS 2 ePartCount a0) .n))) ?_
 refine jo 8 (.len 0 7) (ok_len_m rfl) ?_
 refine jo 9 (.bin .lss false 6 8) (n_lss (i:=v4) (j:=a0.length) rfl rfl) ?_
 refine jf (.d2 (.k3 (.i 9 (vb (decide (v4 < a0.length))) .n))) ?_
 refine tc h (fun c1 h=>?_) (fun c1 h=>?_)
 ·refine q2 ?_
  refine q7 ?_
  refine q1 ?_
  refine sj ?_
  refine rk 2 (.k3 (.i 12 (eS 2 ePartCount a0) (.i 13 (vi v4) .n))) ?_
  refine jo 14 (.iaddr 2 12 13) (ok_iaddr_m (j:=v4) rfl rfl rfl c1) ?_
  refine rk 1 (.d (.k3 (.i 15 (.fptr 2 (List.map ePartCount a0) v4 0) .n))) ?_
  refine jo 16 (.load false 1 15) (ok_load_fm (v:=vt ((ix a0 v4).Part)) rfl c1 rfl) ?_
  obtain ⟨y5,hy5,h⟩:=bs h
  refine jc 17 [16] (agraffebase_IsName_ok n ((ix a0 v4).Part) y5 hy5) ?_
  refine jk 1 (.d2 (.k3 (.i 18 (vb (!y5)) .n))) ?_
  refine tc h (fun c2 h=>?_) (fun c2 h=>?_)
  ·refine sk (.i 4 (vi 4) .n) ?_
   refine q3 ?_
   have h:=si h
   subst h
   exact DoneS.ret Sees.refl rfl rfl
  refine q2 ?_
  refine q1 ?_
  refine q1 ?_
  refine ts (.k3 .n) ?_
  refine TriE.draw (by kernel_rfl) ?_
  refine dk 2 (.i 20 (vi v4) (.i 19 (eS 2 ePartCount a0) .a)) ?_
  obtain ⟨c3,h⟩:=ck h
  refine dp 21 (.slc 2 19 none (some 20) none) (ok_slc_hi (j:=v4) rfl rfl rfl c3) ?_
  refine dk 2 (.i 23 (vi v4) (.i 22 (eS 2 ePartCount a0) .a)) ?_
  refine dp 24 (.iaddr 2 22 23) (ok_iaddr_m (j:=v4) rfl rfl rfl c1) ?_
  refine dk 1 (.i 25 (.fptr 2 (List.map ePartCount a0) v4 0) .a) ?_
  refine dp 26 (.load false 1 25) (ok_load_fm (v:=vt ((ix a0 v4).Part)) rfl c1 rfl) ?_
  obtain ⟨y6,hy6,h⟩:=bs h
  refine dc (vi y6) 0 27 [21,26] (agrafferef08_FindPart_ok n (List.take v4 a0) ((ix a0 v4).Part) y6 hy6) [] rfl ObsRen.nil ObsRen.nil rfl (.inr ⟨rfl,rfl⟩) ?_
  refine dk 1 (.i 28 (vb (decide ((0 : Int) ≤ y6))) .a) ?_
  refine dfi (.d4 (.d4 (.d2 (.k3 (.i 28 (vb (decide ((0 : Int) ≤ y6))) .n))))) [] ObRen.nil ?_
  refine tc h (fun c4 h=>?_) (fun c4 h=>?_)
  ·refine sk (.i 4 (vi 5) .n) ?_
   refine q3 ?_
   have h:=si h
   subst h
   exact DoneS.ret Sees.refl rfl rfl
  refine q2 ?_
  refine sj ?_
  refine rk 2 (.k3 (.i 29 (eS 2 ePartCount a0) (.i 30 (vi v4) .n))) ?_
  refine jo 31 (.iaddr 2 29 30) (ok_iaddr_m (j:=v4) rfl rfl rfl c1) ?_
  refine rk 1 (.d (.k3 (.i 32 (.fptr 2 (List.map ePartCount a0) v4 1) .n))) ?_
  refine jo 33 (.load false 1 32) (ok_load_fm (v:=vi ((ix a0 v4).Count)) rfl c1 rfl) ?_
  refine rk 1 (.d (.k3 (.i 33 (vi ((ix a0 v4).Count)) (.i 34 (vi a1) .n)))) ?_
  obtain ⟨y7,hy7,h⟩:=bs h
  refine jc 35 [33,(ki 1),34] (agraffebase_Within_ok n ((ix a0 v4).Count) 1 a1 y7 hy7) ?_
  refine jk 1 (.d (.k3 (.i 36 (vb (!((decide (1 ≤ ((ix a0 v4).Count))) && (decide (((ix a0 v4).Count) ≤ a1))))) .n))) ?_
  refine tc h (fun c5 h=>?_) (fun c5 h=>?_)
  ·refine sk (.i 4 (vi 2) .n) ?_
   refine q3 ?_
   have h:=si h
   subst h
   exact DoneS.ret Sees.refl rfl rfl
  refine q2 ?_
  refine q6 ?_
  refine rk 1 (.k2 (.i 10 (vi v4) .n)) ?_
  obtain ⟨c6,h⟩:=ck h
  refine jo 11 (.bin .add false 10 (ki 1)) (r_addn (i:=v4) (j:=1) rfl rfl c6) ?_
  refine jk 1 (.d (.k2 (.i 5 (vi ((v4 + 1 : Nat) : Int)) .n))) ?_
  exact Vs.intro sy ⟨(v4 + 1),rfl,h⟩
 refine q5 ?_
 exact Vs.intro sy ⟨(),rfl,h⟩
set_option maxHeartbeats 1000000 in
theorem agrafferef08_task_ok (n : Nat) (a0 : List Task) (a1 : Int) (r : Int) (h : agrafferef08_task n a0 a1 = some r) : FnL Tryz.prog 85 [eS 6 eTask a0,vi a1] [] (vi r) [] := by
 dsimp only [agrafferef08_task] at h
 refine fo [4] Tryz.call85 Tryz.func85 rfl ?_
 refine sk .a ?_
 refine sj ?_
 refine rk 2 (.k2 (.i 11 (eS 6 eTask a0) (.i 12 (vi a1) .n))) ?_
 obtain ⟨c1,h⟩:=ck h
 refine jo 13 (.iaddr 6 11 12) (ok_iaddr_m (j:=a1.toNat) rfl rfl (inB_to c1) (inB_lt c1)) ?_
 obtain ⟨c2,h⟩:=ck h
 refine jo 14 (.load true 6 13) (ok_load_fm (v:=.agg [vt ((ix a0 a1.toNat).Name),vi ((ix a0 a1.toNat).Cents),vi ((ix a0 a1.toNat).Hours),eS 1 vt ((ix a0 a1.toNat).Needs),eS 1 (eS 1 vt) ((ix a0 a1.toNat).OneOf),eS 2 ePartCount ((ix a0 a1.toNat).Parts)]) rfl c2 rfl) ?_
 refine jko 2 (.d2 (.k2 (.i 5 (.ptr 0 0 0) .n))) [some (.row 6 [.agg [vt ((ix a0 a1.toNat).Name),vi ((ix a0 a1.toNat).Cents),vi ((ix a0 a1.toNat).Hours),eS 1 vt ((ix a0 a1.toNat).Needs),eS 1 (eS 1 vt) ((ix a0 a1.toNat).OneOf),eS 2 ePartCount ((ix a0 a1.toNat).Parts)]])] ?_
 refine q1 ?_
 refine sj ?_
 refine rk 2 (.k3 (.i 16 (vt ((ix a0 a1.toNat).Name)) .n)) ?_
 obtain ⟨y1,hy1,h⟩:=bs h
 refine jc 17 [16] (agraffebase_IsName_ok n ((ix a0 a1.toNat).Name) y1 hy1) ?_
 refine jk 1 (.d (.k3 (.i 18 (vb (!y1)) .n))) ?_
 refine tc h (fun c3 h=>?_) (fun c3 h=>?_)
 ·refine sk (.i 4 (vi 4) .n) ?_
  refine q3 ?_
  have h:=si h
  subst h
  exact DoneS.ret (S' := ⟨[(4,vi 4)],[]⟩) (sc [] (by decide) (by kernel_rfl) ObRen.nil rfl rfl) rfl rfl
 refine q2 ?_
 refine q1 ?_
 refine q1 ?_
 refine ts (.k3 .n) ?_
 refine TriE.draw (by kernel_rfl) ?_
 refine dk 2 (.i 20 (vi a1) (.i 19 (eS 6 eTask a0) .a)) ?_
 obtain ⟨c4,h⟩:=ck h
 refine dp 21 (.slc 6 19 none (some 20) none) (ok_slc_hi (j:=a1.toNat) rfl rfl (inC_to c4) (inC_le c4)) ?_
 refine dk 2 (.i 23 (vt ((ix a0 a1.toNat).Name)) (.i 22 (.ptr 0 0 0) .a)) ?_
 obtain ⟨y2,hy2,h⟩:=bs h
 refine dc (vi y2) 0 24 [21,23] (agrafferef08_Find_ok n (List.take a1.toNat a0) ((ix a0 a1.toNat).Name) y2 hy2) [] rfl ObsRen.nil ObsRen.nil rfl (.inr ⟨rfl,rfl⟩) ?_
 refine dk 1 (.i 25 (vb (decide ((0 : Int) ≤ y2))) .a) ?_
 refine dfi (ob':=[some (.row 6 [.agg [vt ((ix a0 a1.toNat).Name),vi ((ix a0 a1.toNat).Cents),vi ((ix a0 a1.toNat).Hours),eS 1 vt ((ix a0 a1.toNat).Needs),eS 1 (eS 1 vt) ((ix a0 a1.toNat).OneOf),eS 2 ePartCount ((ix a0 a1.toNat).Parts)]])]) (.d4 (.d3 (.k (.d (.k (.i 25 (vb (decide ((0 : Int) ≤ y2))) .n)))))) [0] (.cons rfl .nil) ?_
 refine tc h (fun c5 h=>?_) (fun c5 h=>?_)
 ·refine sk (.i 4 (vi 5) .n) ?_
  refine q3 ?_
  have h:=si h
  subst h
  exact DoneS.ret (S' := ⟨[(4,vi 5)],[]⟩) (sc [] (by decide) (by kernel_rfl) ObRen.nil rfl rfl) rfl rfl
 refine q2 ?_
 refine q1 ?_
 refine sj ?_
 refine rk 2 (.k2 (.i 27 (vi ((ix a0 a1.toNat).Cents)) .n)) ?_
 obtain ⟨y3,hy3,h⟩:=bs h
 refine jc 28 [27,(ki 0),(ki 1000000000)] (agraffebase_Within_ok n ((ix a0 a1.toNat).Cents) 0 1000000000 y3 hy3) ?_
 refine rk 2 (.d (.k2 (.i 30 (vb (!((decide (0 ≤ ((ix a0 a1.toNat).Cents))) && (decide (((ix a0 a1.toNat).Cents) ≤ 1000000000))))) .n))) ?_
 refine gj (.ptr 0 0 2) 31 (.faddr 2 5) 30 false rfl ?_
 refine gk (vi ((ix a0 a1.toNat).Hours)) 32 (.load false 1 31) 30 false rfl (fun hg=>(.cons hg .nil)) ?_
 obtain ⟨y4,hy4,h⟩:=bs h
 refine gc 33 [32,(ki 0),(ki 10000)] 30 false rfl (fun hg=>agraffebase_Within_ok n ((ix a0 a1.toNat).Hours) 0 10000 y4 (gcall_some hy4 hg)) (fun hg=>(.cons rfl (.cons hg (.cons rfl (.cons rfl .nil))))) (fun hg=>by kernel_rfl) ?_
 refine gk (vb (!((decide (0 ≤ ((ix a0 a1.toNat).Hours))) && (decide (((ix a0 a1.toNat).Hours) ≤ 10000))))) 34 (.un .not 33) 30 false rfl (fun hg=>(.cons hg .nil)) ?_
 refine po 35 30 34 rfl rfl ?_
 refine jf (.d4 (.d (.k2 (.i 35 (vb ((!((decide (0 ≤ ((ix a0 a1.toNat).Cents))) && (decide (((ix a0 a1.toNat).Cents) ≤ 1000000000)))) || (!((decide (0 ≤ ((ix a0 a1.toNat).Hours))) && (decide (((ix a0 a1.toNat).Hours) ≤ 10000)))))) .n)))) ?_
 refine tc h (fun c6 h=>?_) (fun c6 h=>?_)
 ·refine sk (.i 4 (vi 2) .n) ?_
  refine q3 ?_
  have h:=si h
  subst h
  exact DoneS.ret (S' := ⟨[(4,vi 2)],[]⟩) (sc [] (by decide) (by kernel_rfl) ObRen.nil rfl rfl) rfl rfl
 refine q2 ?_
 refine sj ?_
 refine rk 2 (.k2 (.i 37 (eS 1 vt ((ix a0 a1.toNat).Needs)) .n)) ?_
 refine jo 38 (.len 0 37) (ok_len_m rfl) ?_
 refine jo 39 (.bin .gtr false 38 (ki 10)) (n_gtr (i:=((ix a0 a1.toNat).Needs).length) (j:=10) rfl rfl) ?_
 refine rk 1 (.d2 (.k2 (.i 40 (vb (decide (10 < (((ix a0 a1.toNat).Needs).length)))) .n))) ?_
 refine gj (.ptr 0 0 4) 41 (.faddr 4 5) 40 false rfl ?_
 refine gk (eS 1 (eS 1 vt) ((ix a0 a1.toNat).OneOf)) 42 (.load false 1 41) 40 false rfl (fun hg=>(.cons hg .nil)) ?_
 refine gv 43 (.len 0 42) 40 false rfl (fun hg=>(ok_len_m rfl)) (fun hg=>(.cons hg .nil)) ?_
 refine gv 44 (.bin .gtr false 43 (ki 6)) 40 false rfl (fun hg=>(n_gtr (i:=((ix a0 a1.toNat).OneOf).length) (j:=6) rfl rfl)) (fun hg=>(.cons hg (.cons rfl .nil))) ?_
 refine po 45 40 44 rfl rfl ?_
 refine rk 1 (.d4 (.d (.k2 (.i 46 (vb ((decide (10 < (((ix a0 a1.toNat).Needs).length))) || (decide (6 < (((ix a0 a1.toNat).OneOf).length))))) .n)))) ?_
 refine gj (.ptr 0 0 5) 47 (.faddr 5 5) 46 false rfl ?_
 refine gk (eS 2 ePartCount ((ix a0 a1.toNat).Parts)) 48 (.load false 1 47) 46 false rfl (fun hg=>(.cons hg .nil)) ?_
 refine gv 49 (.len 0 48) 46 false rfl (fun hg=>(ok_len_m rfl)) (fun hg=>(.cons hg .nil)) ?_
 refine gv 50 (.bin .gtr false 49 (ki 10)) 46 false rfl (fun hg=>(n_gtr (i:=((ix a0 a1.toNat).Parts).length) (j:=10) rfl rfl)) (fun hg=>(.cons hg (.cons rfl .nil))) ?_
 refine po 51 46 50 rfl rfl ?_
 refine jk 1 (.d4 (.d (.k2 (.i 6 (vb (((decide (10 < (((ix a0 a1.toNat).Needs).length))) || (decide (6 < (((ix a0 a1.toNat).OneOf).length)))) || (decide (10 < (((ix a0 a1.toNat).Parts).length))))) .n)))) ?_
 refine TriE.seqK h (fun (v7 : Bool)=>St.mk [(0,eS 6 eTask a0),(5,.ptr 0 0 0),(6,vb v7)] [some (.row 6 [.agg [vt ((ix a0 a1.toNat).Name),vi ((ix a0 a1.toNat).Cents),vi ((ix a0 a1.toNat).Hours),eS 1 vt ((ix a0 a1.toNat).Needs),eS 1 (eS 1 vt) ((ix a0 a1.toNat).OneOf),eS 2 ePartCount ((ix a0 a1.toNat).Parts)]])]) ?_ ?_
 ·rintro v7 h
  refine q1 ?_
  refine sk (.k2 (.i 69 (vb v7) .n)) ?_
  refine tc h (fun c11 h=>?_) (fun c11 h=>?_)
  ·refine sk (.i 4 (vi 8) .n) ?_
   refine q3 ?_
   have h:=si h
   subst h
   exact DoneS.ret (S' := ⟨[(4,vi 8)],[]⟩) (sc [] (by decide) (by kernel_rfl) ObRen.nil rfl rfl) rfl rfl
  refine q2 ?_
  refine q1 ?_
  refine sj ?_
  refine rk 3 (.k2 (.i 70 (eS 6 eTask a0) (.i 72 (eS 1 vt ((ix a0 a1.toNat).Needs)) .n))) ?_
  obtain ⟨y8,hy8,h⟩:=bs h
  refine jc 73 [70,72] (agrafferef08_tasks_ok n a0 ((ix a0 a1.toNat).Needs) y8 hy8) ?_
  refine jk 1 (.d (.k2 (.i 8 (vi y8) .n))) ?_
  refine sk (.k3 (.i 75 (vb (y8 != (0 : Int))) .n)) ?_
  refine tc h (fun c12 h=>?_) (fun c12 h=>?_)
  ·refine sk (.i 4 (vi y8) .n) ?_
   refine q3 ?_
   have h:=si h
   subst h
   exact DoneS.ret (S' := ⟨[(4,vi y8)],[]⟩) (sc [] (by decide) (by kernel_rfl) ObRen.nil rfl rfl) rfl rfl
  refine q2 ?_
  refine TriE.seqK h (fun (_ : Unit)=>St.mk [(5,.ptr 0 0 0)] [some (.row 6 [.agg [vt ((ix a0 a1.toNat).Name),vi ((ix a0 a1.toNat).Cents),vi ((ix a0 a1.toNat).Hours),eS 1 vt ((ix a0 a1.toNat).Needs),eS 1 (eS 1 vt) ((ix a0 a1.toNat).OneOf),eS 2 ePartCount ((ix a0 a1.toNat).Parts)]])]) ?_ ?_
  ·rintro ⟨⟩ h
   refine sj ?_
   refine rk 2 (.i 102 (eS 2 ePartCount ((ix a0 a1.toNat).Parts)) .n) ?_
   obtain ⟨y12,hy12,h⟩:=bs h
   refine jc 103 [102,(ki 1000)] (agrafferef08_counts_ok n ((ix a0 a1.toNat).Parts) 1000 y12 hy12) ?_
   refine jk 1 (.i 4 (vi y12) .n) ?_
   refine q3 ?_
   have h:=si h
   subst h
   exact DoneS.ret (S' := ⟨[(4,vi y12)],[]⟩) (sc [] (by decide) (by kernel_rfl) ObRen.nil rfl rfl) rfl rfl
  intro k2 h
  refine sk (.k2 (.i 9 (vi 0) .n)) ?_
  refine q4 ?_
  refine ts (.k2 (.i 9 (vi 0) .n)) ?_
  refine TriE.loopN h (fun (v10 : Nat)=>St.mk [(0,eS 6 eTask a0),(5,.ptr 0 0 0),(9,vi v10)] [some (.row 6 [.agg [vt ((ix a0 a1.toNat).Name),vi ((ix a0 a1.toNat).Cents),vi ((ix a0 a1.toNat).Hours),eS 1 vt ((ix a0 a1.toNat).Needs),eS 1 (eS 1 vt) ((ix a0 a1.toNat).OneOf),eS 2 ePartCount ((ix a0 a1.toNat).Parts)]])]) rfl ?_
  clear h
  rintro back v10 h
  dsimp only [agrafferef08_task_L2] at h
  refine q1 ?_
  refine sj ?_
  refine rk 3 (.k3 (.i 77 (vi v10) (.i 79 (eS 1 (eS 1 vt) ((ix a0 a1.toNat).OneOf)) .n))) ?_
  refine jo 80 (.len 0 79) (ok_len_m rfl) ?_
  refine jo 81 (.bin .lss false 77 80) (n_lss (i:=v10) (j:=((ix a0 a1.toNat).OneOf).length) rfl rfl) ?_
  refine jf (.d2 (.k3 (.i 81 (vb (decide (v10 < (((ix a0 a1.toNat).OneOf).length)))) .n))) ?_
  refine tc h (fun c13 h=>?_) (fun c13 h=>?_)
  ·refine q2 ?_
   refine q7 ?_
   refine q1 ?_
   refine sj ?_
   refine rk 3 (.k3 (.i 85 (eS 1 (eS 1 vt) ((ix a0 a1.toNat).OneOf)) (.i 86 (vi v10) .n))) ?_
   obtain ⟨c14,h⟩:=ck h
   refine jo 87 (.iaddr 1 85 86) (ok_iaddr_m (j:=v10) rfl rfl rfl c14) ?_
   refine jo 88 (.load false 1 87) (ok_load_fm (v:=eS 1 vt (ix ((ix a0 a1.toNat).OneOf) v10)) rfl c14 rfl) ?_
   refine jo 89 (.len 0 88) (ok_len_m rfl) ?_
   refine jo 90 (.bin .eql false 89 (ki 0)) (n_eql (i:=(ix ((ix a0 a1.toNat).OneOf) v10).length) (j:=0) rfl rfl) ?_
   refine jf (.d4 (.k3 (.i 90 (vb (decide (((ix ((ix a0 a1.toNat).OneOf) v10).length) = 0))) .n))) ?_
   refine tc h (fun c15 h=>?_) (fun c15 h=>?_)
   ·refine sk (.i 4 (vi 10) .n) ?_
    refine q3 ?_
    have h:=si h
    subst h
    exact DoneS.ret (S' := ⟨[(4,vi 10)],[]⟩) (sc [] (by decide) (by kernel_rfl) ObRen.nil rfl rfl) rfl rfl
   refine q2 ?_
   refine sj ?_
   refine rk 4 (.k3 (.i 91 (eS 6 eTask a0) (.i 93 (eS 1 (eS 1 vt) ((ix a0 a1.toNat).OneOf)) (.i 94 (vi v10) .n)))) ?_
   refine jo 95 (.iaddr 1 93 94) (ok_iaddr_m (j:=v10) rfl rfl rfl c14) ?_
   refine jo 96 (.load false 1 95) (ok_load_fm (v:=eS 1 vt (ix ((ix a0 a1.toNat).OneOf) v10)) rfl c14 rfl) ?_
   obtain ⟨y11,hy11,h⟩:=bs h
   refine jc 97 [91,96] (agrafferef08_tasks_ok n a0 (ix ((ix a0 a1.toNat).OneOf) v10) y11 hy11) ?_
   refine jk 1 (.d3 (.k3 (.i 10 (vi y11) .n))) ?_
   refine sk (.k4 (.i 99 (vb (y11 != (0 : Int))) .n)) ?_
   refine tc h (fun c16 h=>?_) (fun c16 h=>?_)
   ·refine sk (.i 4 (vi y11) .n) ?_
    refine q3 ?_
    have h:=si h
    subst h
    exact DoneS.ret (S' := ⟨[(4,vi y11)],[]⟩) (sc [] (by decide) (by kernel_rfl) ObRen.nil rfl rfl) rfl rfl
   refine q2 ?_
   refine q6 ?_
   refine rk 1 (.k2 (.i 82 (vi v10) .n)) ?_
   obtain ⟨c17,h⟩:=ck h
   refine jo 83 (.bin .add false 82 (ki 1)) (r_addn (i:=v10) (j:=1) rfl rfl c17) ?_
   refine jk 1 (.d (.k2 (.i 9 (vi ((v10 + 1 : Nat) : Int)) .n))) ?_
   exact Vs.intro sy ⟨(v10 + 1),rfl,h⟩
  refine q5 ?_
  exact Vs.intro sy ⟨(),rfl,h⟩
 intro k1 h
 refine sk (.k3 (.i 7 (vi 0) .n)) ?_
 refine q4 ?_
 refine ts (.k3 (.i 7 (vi 0) .n)) ?_
 refine TriE.loopN h (fun (t : Bool × Nat)=>match t with | (v5,v6)=>St.mk [(0,eS 6 eTask a0),(5,.ptr 0 0 0),(6,vb v5),(7,vi v6)] [some (.row 6 [.agg [vt ((ix a0 a1.toNat).Name),vi ((ix a0 a1.toNat).Cents),vi ((ix a0 a1.toNat).Hours),eS 1 vt ((ix a0 a1.toNat).Needs),eS 1 (eS 1 vt) ((ix a0 a1.toNat).OneOf),eS 2 ePartCount ((ix a0 a1.toNat).Parts)]])]) rfl ?_
 clear h
 rintro back ⟨v5,v6⟩ h
 dsimp only [agrafferef08_task_L1] at h
 refine q1 ?_
 refine sj ?_
 refine rk 3 (.k4 (.i 52 (vi v6) (.i 54 (eS 1 (eS 1 vt) ((ix a0 a1.toNat).OneOf)) .n))) ?_
 refine jo 55 (.len 0 54) (ok_len_m rfl) ?_
 refine jo 56 (.bin .lss false 52 55) (n_lss (i:=v6) (j:=((ix a0 a1.toNat).OneOf).length) rfl rfl) ?_
 refine jf (.d2 (.k4 (.i 56 (vb (decide (v6 < (((ix a0 a1.toNat).OneOf).length)))) .n))) ?_
 refine tc h (fun c7 h=>?_) (fun c7 h=>?_)
 ·refine q2 ?_
  refine q7 ?_
  refine q6 ?_
  refine rk 2 (.k2 (.d (.k (.i 60 (vb v5) .n)))) ?_
  refine gj (.ptr 0 0 4) 61 (.faddr 4 5) 60 false rfl ?_
  refine gk (eS 1 (eS 1 vt) ((ix a0 a1.toNat).OneOf)) 62 (.load false 1 61) 60 false rfl (fun hg=>(.cons hg .nil)) ?_
  refine gj (vi v6) 63 (.mov 7) 60 false rfl ?_
  obtain ⟨c8,h⟩:=ck h
  refine gv 64 (.iaddr 1 62 63) 60 false rfl (fun hg=>(ok_iaddr_m (j:=v6) rfl rfl rfl (gor c8 hg))) (fun hg=>(.cons hg (.cons hg .nil))) ?_
  obtain ⟨c9,h⟩:=ck h
  refine gv 65 (.load false 1 64) 60 false rfl (fun hg=>(ok_load_fm (v:=eS 1 vt (ix ((ix a0 a1.toNat).OneOf) v6)) rfl (gor c9 hg) rfl)) (fun hg=>(.cons hg .nil)) ?_
  refine gv 66 (.len 0 65) 60 false rfl (fun hg=>(ok_len_m rfl)) (fun hg=>(.cons hg .nil)) ?_
  refine gv 67 (.bin .gtr false 66 (ki 6)) 60 false rfl (fun hg=>(n_gtr (i:=(ix ((ix a0 a1.toNat).OneOf) v6).length) (j:=6) rfl rfl)) (fun hg=>(.cons hg (.cons rfl .nil))) ?_
  refine po 68 60 67 rfl rfl ?_
  refine jk 1 (.d4 (.d4 (.k3 (.i 6 (vb (v5 || (decide (6 < ((ix ((ix a0 a1.toNat).OneOf) v6).length))))) .n)))) ?_
  refine q6 ?_
  refine rk 1 (.k2 (.d (.k (.i 57 (vi v6) .n)))) ?_
  obtain ⟨c10,h⟩:=ck h
  refine jo 58 (.bin .add false 57 (ki 1)) (r_addn (i:=v6) (j:=1) rfl rfl c10) ?_
  refine jk 1 (.d (.k3 (.i 7 (vi ((v6 + 1 : Nat) : Int)) .n))) ?_
  exact Vs.intro sy ⟨(v5 || (decide (6 < ((ix ((ix a0 a1.toNat).OneOf) v6).length))),v6 + 1),rfl,h⟩
 refine q5 ?_
 exact Vs.intro sy ⟨v5,rfl,h⟩
theorem agrafferef08_Leads_ok (n : Nat) (a0 : Task) (r : (List Str)) (h : agrafferef08_Leads n a0 = some r) : FnL Tryz.prog 73 [.agg [vt a0.Name,vi a0.Cents,vi a0.Hours,eS 1 vt a0.Needs,eS 1 (eS 1 vt) a0.OneOf,eS 2 ePartCount a0.Parts]] [] (eS 1 vt r) [] := by
 dsimp only [agrafferef08_Leads] at h
 refine fo [2] Tryz.call73 Tryz.func73 rfl ?_
 refine sko (.i 1 (.ptr 0 0 0) .n) [some (.row 6 [.agg [vt a0.Name,vi a0.Cents,vi a0.Hours,eS 1 vt a0.Needs,eS 1 (eS 1 vt) a0.OneOf,eS 2 ePartCount a0.Parts]])] ?_
 refine sj ?_
 refine rk 2 (.k (.i 6 (eS 1 vt a0.Needs) .n)) ?_
 obtain ⟨y1,hy1,h⟩:=bs h
 refine jco (.own 1 0 a0.Needs.length) 7 [6] (agraffebase_CopyTexts_2_ok n a0.Needs y1 hy1) [] rfl ObsRen.nil (.same (row_ren vt_frz _ _ _) .nil) rfl ?_
 refine jk 1 (.d (.k (.i 3 (.own 1 0 a0.Needs.length) .n))) ?_
 refine TriE.seqK h (fun (v4 : (List Str))=>St.mk [(3,.own 0 0 v4.length)] [some (.row 1 (List.map vt v4))]) ?_ ?_
 ·rintro v4 h
  refine sk (.i 2 (.own 0 0 v4.length) .n) ?_
  refine q3 ?_
  have h:=si h
  subst h
  exact DoneS.ret (S' := ⟨[(2,eS 1 vt v4)],[]⟩) (Sees.trans (Sees.freeze 0 (fr' := [(2,eS 1 vt v4)]) (ob' := [none]) rfl (frz_row vt_frzE _) (.cons (frz_full rfl) .nil) rfl) (sc [] (by decide) (by kernel_rfl) ObRen.nil rfl rfl)) rfl rfl
 intro k1 h
 refine sk (.k2 (.i 4 (vi 0) .n)) ?_
 refine q4 ?_
 refine ts (.k2 (.i 4 (vi 0) .n)) ?_
 refine TriE.loopN h (fun (t : Nat × (List Str))=>match t with | (v2,v3)=>St.mk [(1,.ptr 0 0 0),(3,.own 1 0 v3.length),(4,vi v2)] [some (.row 6 [.agg [vt a0.Name,vi a0.Cents,vi a0.Hours,eS 1 vt a0.Needs,eS 1 (eS 1 vt) a0.OneOf,eS 2 ePartCount a0.Parts]]),some (.row 1 (List.map vt v3))]) rfl ?_
 clear h
 rintro back ⟨v2,v3⟩ h
 dsimp only [agrafferef08_Leads_L1] at h
 refine q1 ?_
 refine sj ?_
 refine rk 3 (.k3 (.i 8 (vi v2) (.i 10 (eS 1 (eS 1 vt) a0.OneOf) .n))) ?_
 refine jo 11 (.len 0 10) (ok_len_m rfl) ?_
 refine jo 12 (.bin .lss false 8 11) (n_lss (i:=v2) (j:=a0.OneOf.length) rfl rfl) ?_
 refine jf (.d2 (.k3 (.i 12 (vb (decide (v2 < a0.OneOf.length))) .n))) ?_
 refine tc h (fun c1 h=>?_) (fun c1 h=>?_)
 ·refine q2 ?_
  refine q7 ?_
  refine q6 ?_
  refine rk 4 (.k (.d (.k (.i 15 (.own 1 0 v3.length) (.i 17 (eS 1 (eS 1 vt) a0.OneOf) (.i 18 (vi v2) .n)))))) ?_
  refine jo 19 (.iaddr 1 17 18) (ok_iaddr_m (j:=v2) rfl rfl rfl c1) ?_
  refine jo 20 (.load false 1 19) (ok_load_fm (v:=eS 1 vt (ix a0.OneOf v2)) rfl c1 rfl) ?_
  obtain ⟨c2,h⟩:=ck h
  refine jx 21 (.app 1 16 15 20) _ (ok_app_own (l:=v3) (l2:=(ix a0.OneOf v2)) (e:=vt) (u:=eS 1 vt (ix a0.OneOf v2)) rfl rfl rfl rfl els_sl c2) rfl rfl ?_
  refine jk 1 (.d3 (.k2 (.i 3 (.own 2 0 ((v3 ++ (ix a0.OneOf v2)).length)) .n))) ?_
  refine q6 ?_
  refine rk 1 (.k (.d (.k (.i 13 (vi v2) .n)))) ?_
  obtain ⟨c3,h⟩:=ck h
  refine jo 14 (.bin .add false 13 (ki 1)) (r_addn (i:=v2) (j:=1) rfl rfl c3) ?_
  refine jk 1 (.d (.k2 (.i 4 (vi ((v2 + 1 : Nat) : Int)) .n))) ?_
  exact Vs.intro (sc [0,2] (by decide) (by kernel_rfl) (.cons rfl (obRen_row vt_frz rfl .nil)) rfl rfl) ⟨(v2 + 1,(v3 ++ (ix a0.OneOf v2))),rfl,h⟩
 refine q5 ?_
 exact Vs.intro (sc [1] (by decide) (by kernel_rfl) (obRen_row vt_frz rfl .nil) rfl rfl) ⟨v3,rfl,h⟩
theorem agraffebase_HasText_2_ok (n : Nat) (a0 : List Str) (a1 : Str) (r : Bool) (h : agraffebase_HasText_2 n a0 a1 = some r) : FnL Tryz.prog 74 [.own 0 0 a0.length,vt a1] [some (.row 1 (List.map vt a0))] (vb r) [some (.row 1 (List.map vt a0))] := by
 dsimp only [agraffebase_HasText_2] at h
 refine fob [4] Tryz.call74 Tryz.func74 rfl (.cons rfl .nil) ?_
 refine sk .a ?_
 refine TriE.seqK h (fun (_ : Unit)=>St.mk [] [some (.row 1 (List.map vt a0))]) ?_ ?_
 ·rintro ⟨⟩ h
  refine sk (.i 4 (vb false) .n) ?_
  refine q3 ?_
  have h:=si h
  subst h
  exact DoneS.ret Sees.refl rfl rfl
 intro k1 h
 refine sk (.k2 (.i 5 (vi 0) .n)) ?_
 refine q4 ?_
 refine ts (.k2 (.i 5 (vi 0) .n)) ?_
 refine TriE.loopN h (fun (v1 : Nat)=>St.mk [(0,.own 0 0 a0.length),(1,vt a1),(5,vi v1)] [some (.row 1 (List.map vt a0))]) rfl ?_
 clear h
 rintro back v1 h
 dsimp only [agraffebase_HasText_2_L1] at h
 refine q1 ?_
 refine sj ?_
 refine rk 3 (.k3 (.i 6 (vi v1) (.i 8 (vi (a0.length : Int)) .n))) ?_
 refine jo 9 (.bin .lss false 6 8) (n_lss (i:=v1) (j:=a0.length) rfl rfl) ?_
 refine jf (.d (.k3 (.i 9 (vb (decide (v1 < a0.length))) .n))) ?_
 refine tc h (fun c1 h=>?_) (fun c1 h=>?_)
 ·refine q2 ?_
  refine q7 ?_
  refine sj ?_
  refine rk 2 (.k3 (.i 12 (.own 0 0 a0.length) (.i 13 (vi v1) .n))) ?_
  refine jo 14 (.iaddr 1 12 13) (ok_iaddr_o0 (j:=v1) rfl rfl rfl rfl c1) ?_
  refine jo 15 (.load false 1 14) (ok_load_pm (l:=a0) (e:=vt) (v:=vt (ix a0 v1)) rfl rfl c1 rfl) ?_
  refine jk 2 (.d2 (.k3 (.i 17 (vb ((ix a0 v1) == a1)) .n))) ?_
  refine tc h (fun c2 h=>?_) (fun c2 h=>?_)
  ·refine sk (.i 4 (vb true) .n) ?_
   refine q3 ?_
   have h:=si h
   subst h
   exact DoneS.ret Sees.refl rfl rfl
  refine q2 ?_
  refine q6 ?_
  refine rk 1 (.k2 (.i 10 (vi v1) .n)) ?_
  obtain ⟨c3,h⟩:=ck h
  refine jo 11 (.bin .add false 10 (ki 1)) (r_addn (i:=v1) (j:=1) rfl rfl c3) ?_
  refine jk 1 (.d (.k2 (.i 5 (vi ((v1 + 1 : Nat) : Int)) .n))) ?_
  exact Vs.intro sy ⟨(v1 + 1),rfl,h⟩
 refine q5 ?_
 exact Vs.intro sy ⟨(),rfl,h⟩
set_option maxHeartbeats 1000000 in
theorem agrafferef08_Order_ok (n : Nat) (a0 : List Task) (a1 : List Str) (r : (List Str)) (h : agrafferef08_Order n a0 a1 = some r) : FnL Tryz.prog 71 [eS 6 eTask a0,eS 1 vt a1] [] (eS 1 vt r) [] := by
 dsimp only [agrafferef08_Order] at h
 refine fo [4] Tryz.call71 Tryz.func71 rfl ?_
 refine sk .a ?_
 refine sk (.k2 (.i 5 .emp .n)) ?_
 refine q4 ?_
 refine TriE.sees (S':=⟨[(0,eS 6 eTask a0),(1,eS 1 vt a1),(5,.own 0 0 ([] : List Str).length)],[some (.row 1 (List.map vt ([] : List Str)))]⟩) (Sees.trans (Sees.co (fr':=[(0,eS 6 eTask a0),(1,eS 1 vt a1),(5,.own 0 0 0)]) (ob':=[]) (.cons .same (.cons .same (.cons .own .nil))) ObCo.nil 1) sy) ?_
 refine TriE.loopN h (fun (v26 : (List Str))=>St.mk [(0,eS 6 eTask a0),(1,eS 1 vt a1),(5,.own 0 0 v26.length)] [some (.row 1 (List.map vt v26))]) rfl ?_
 clear h
 rintro back v26 h
 dsimp only [agrafferef08_Order_L3] at h
 refine q4 ?_
 refine sk (.k3 (.i 6 (vi (-1)) .n)) ?_
 refine TriE.seqK h (fun (v51 : Int)=>St.mk [(0,eS 6 eTask a0),(1,eS 1 vt a1),(5,.own 0 0 v26.length),(6,vi v51)] [some (.row 1 (List.map vt v26))]) ?_ ?_
 ·rintro v51 h
  refine q1 ?_
  refine sk (.k4 (.i 70 (vb (decide (v51 < (0 : Int)))) .n)) ?_
  refine tc h (fun c8 h=>?_) (fun c8 h=>?_)
  ·refine sk (.i 4 (.own 0 0 v26.length) .n) ?_
   refine q3 ?_
   have h:=si h
   subst h
   exact DoneS.ret (S' := ⟨[(4,eS 1 vt v26)],[]⟩) (Sees.trans (Sees.freeze 0 (fr' := [(4,eS 1 vt v26)]) (ob' := [none]) rfl (frz_row vt_frzE _) (.cons (frz_full rfl) .nil) rfl) (sc [] (by decide) (by kernel_rfl) ObRen.nil rfl rfl)) rfl rfl
  refine q2 ?_
  refine q6 ?_
  refine rk 3 (.k2 (.i 72 (.own 0 0 v26.length) (.i 73 (eS 6 eTask a0) (.i 74 (vi v51) .n)))) ?_
  obtain ⟨c9,h⟩:=ck h
  refine jo 75 (.iaddr 6 73 74) (ok_iaddr_m (j:=v51.toNat) rfl rfl (inB_to c9) (inB_lt c9)) ?_
  refine rk 1 (.d (.k3 (.i 76 (.fptr 6 (List.map eTask a0) v51.toNat 0) .n))) ?_
  obtain ⟨c10,h⟩:=ck h
  refine jo 77 (.load false 1 76) (ok_load_fm (v:=vt ((ix a0 v51.toNat).Name)) rfl c10 rfl) ?_
  refine rko 1 (.d (.k3 (.i 78 (.own 1 0 1) .n))) [some (.row 1 (List.map vt v26)),some (.row 1 [vt ((ix a0 v51.toNat).Name)])] ?_
  obtain ⟨c11,h⟩:=ck h
  refine jx 79 (.app 1 16 72 78) _ (ok_app_own (l:=v26) (l2:=([(ix a0 v51.toNat).Name] : List Str)) (e:=vt) (u:=.own 1 0 1) rfl rfl rfl rfl rfl c11) rfl rfl ?_
  refine jk 1 (.d (.k2 (.i 5 (.own 2 0 ((v26 ++ ([(ix a0 v51.toNat).Name] : List Str)).length)) .n))) ?_
  exact Vs.intro (sc [2] (by decide) (by kernel_rfl) (obRen_row vt_frz rfl .nil) rfl rfl) ⟨(v26 ++ ([(ix a0 v51.toNat).Name] : List Str)),rfl,h⟩
 intro k3 h
 refine sk (.k4 (.i 7 (vi 0) .n)) ?_
 refine q4 ?_
 refine ts (.k4 (.i 7 (vi 0) .n)) ?_
 refine TriE.loopN h (fun (t : Int × Nat)=>match t with | (v38,v39)=>St.mk [(0,eS 6 eTask a0),(1,eS 1 vt a1),(5,.own 0 0 v26.length),(6,vi v38),(7,vi v39)] [some (.row 1 (List.map vt v26))]) rfl ?_
 clear h
 rintro back ⟨v38,v39⟩ h
 dsimp only [agrafferef08_Order_L2] at h
 refine q1 ?_
 refine sj ?_
 refine rk 2 (.k4 (.k (.i 11 (vi v39) (.i 12 (eS 6 eTask a0) .n)))) ?_
 refine jo 13 (.len 0 12) (ok_len_m rfl) ?_
 refine jo 14 (.bin .lss false 11 13) (n_lss (i:=v39) (j:=a0.length) rfl rfl) ?_
 refine rk 1 (.d2 (.k4 (.k (.i 15 (vb (decide (v39 < a0.length))) .n)))) ?_
 refine gj (vi v38) 16 (.mov 6) 15 true rfl ?_
 refine gk (vb (decide (v38 < (0 : Int)))) 17 (.bin .lss false 16 (ki 0)) 15 true rfl (fun hg=>(.cons hg (.cons rfl .nil))) ?_
 refine pa 18 15 17 rfl rfl ?_
 refine jf (.d3 (.k4 (.k (.i 18 (vb ((decide (v39 < a0.length)) && (decide (v38 < (0 : Int))))) .n)))) ?_
 refine tc h (fun c1 h=>?_) (fun c1 h=>?_)
 ·refine q2 ?_
  refine TriE.seqK h (fun (v50 : Int)=>St.mk [(0,eS 6 eTask a0),(1,eS 1 vt a1),(5,.own 0 0 v26.length),(6,vi v50),(7,vi v39)] [some (.row 1 (List.map vt v26))]) ?_ ?_
  ·rintro v50 h
   refine q6 ?_
   refine rk 1 (.k4 (.i 19 (vi v39) .n)) ?_
   obtain ⟨c7,h⟩:=ck h
   refine jo 20 (.bin .add false 19 (ki 1)) (r_addn (i:=v39) (j:=1) rfl rfl c7) ?_
   refine jk 1 (.d (.k4 (.i 7 (vi ((v39 + 1 : Nat) : Int)) .n))) ?_
   exact Vs.intro sy ⟨(v50,v39 + 1),rfl,h⟩
  intro k2 h
  refine q4 ?_
  refine q1 ?_
  refine sj ?_
  refine rk 3 (.k4 (.k (.i 21 (eS 1 vt a1) (.i 22 (eS 6 eTask a0) (.i 23 (vi v39) .n))))) ?_
  obtain ⟨c2,h⟩:=ck h
  refine jo 24 (.iaddr 6 22 23) (ok_iaddr_m (j:=v39) rfl rfl rfl c2) ?_
  refine rk 1 (.d (.k4 (.k2 (.i 25 (.fptr 6 (List.map eTask a0) v39 0) .n)))) ?_
  refine jo 26 (.load false 1 25) (ok_load_fm (v:=vt ((ix a0 v39).Name)) rfl c2 rfl) ?_
  obtain ⟨y40,hy40,h⟩:=bs h
  refine jc 27 [21,26] (agraffebase_HasText_ok n a1 ((ix a0 v39).Name) y40 hy40) ?_
  refine rk 2 (.d2 (.k4 (.k (.i 29 (vb (!y40)) .n)))) ?_
  refine gj (.own 0 0 v26.length) 30 (.mov 5) 29 false rfl ?_
  refine gj (eS 6 eTask a0) 31 (.mov 0) 29 false rfl ?_
  refine gj (vi v39) 32 (.mov 7) 29 false rfl ?_
  refine gv 33 (.iaddr 6 31 32) 29 false rfl (fun hg=>(ok_iaddr_m (j:=v39) rfl rfl rfl c2)) (fun hg=>(.cons hg (.cons hg .nil))) ?_
  refine gk (.fptr 6 (List.map eTask a0) v39 0) 34 (.faddr 0 33) 29 false rfl (fun hg=>(.cons hg .nil)) ?_
  refine gv 35 (.load false 1 34) 29 false rfl (fun hg=>(ok_load_fm (v:=vt ((ix a0 v39).Name)) rfl c2 rfl)) (fun hg=>(.cons hg .nil)) ?_
  obtain ⟨y41,hy41,h⟩:=bs h
  refine RegJ.op (Op1.callg (g:=!(!y40)) (y':=vb y41) (obx:=[some (.row 1 (List.map vt v26))]) _ _ (cy (IG 36 (.call 74 [30,35]) 29 false)) rfl (fun hg=>agraffebase_HasText_2_ok n v26 ((ix a0 v39).Name) y41 (gcall_some hy41 hg)) [0] (fun hg=>by kernel_rfl) (fun hg=>(.cons rfl (.cons hg (.cons hg .nil)))) (by kernel_rfl) (by kernel_rfl) (.same (row_ren vt_frz _ _ _) .nil) (by kernel_rfl) (by kernel_rfl)) ?_
  refine po 37 29 36 rfl rfl ?_
  refine jf (.d4 (.d4 (.k4 (.k (.i 37 (vb ((!y40) || y41)) .n))))) ?_
  refine tc h (fun c3 h=>?_) (fun c3 h=>?_)
  ·refine q5 ?_
   exact Vs.intro sy ⟨v38,rfl,h⟩
  refine q2 ?_
  refine sk (.k4 (.k (.i 8 (vb true) .n))) ?_
  refine sj ?_
  refine rk 2 (.k4 (.k2 (.i 38 (eS 6 eTask a0) (.i 39 (vi v39) .n)))) ?_
  refine jo 40 (.iaddr 6 38 39) (ok_iaddr_m (j:=v39) rfl rfl rfl c2) ?_
  refine jo 41 (.load true 6 40) (ok_load_fm (v:=.agg [vt ((ix a0 v39).Name),vi ((ix a0 v39).Cents),vi ((ix a0 v39).Hours),eS 1 vt ((ix a0 v39).Needs),eS 1 (eS 1 vt) ((ix a0 v39).OneOf),eS 2 ePartCount ((ix a0 v39).Parts)]) rfl c2 rfl) ?_
  obtain ⟨y42,hy42,h⟩:=bs h
  refine jc 42 [41] (agrafferef08_Leads_ok n (ix a0 v39) y42 hy42) ?_
  refine jk 1 (.d3 (.k4 (.k2 (.i 9 (eS 1 vt y42) .n)))) ?_
  refine TriE.seqK h (fun (v49 : Bool)=>St.mk [(0,eS 6 eTask a0),(1,eS 1 vt a1),(5,.own 0 0 v26.length),(6,vi v38),(7,vi v39),(8,vb v49)] [some (.row 1 (List.map vt v26))]) ?_ ?_
  ·rintro v49 h
   refine sk (.k4 (.k (.i 67 (vb v49) .n))) ?_
   refine tc h (fun c6 h=>?_) (fun c6 h=>?_)
   ·refine tk (.k3 (.d (.k (.i 6 (vi v39) .n)))) ?_
    exact Vs.intro sy ⟨(v39 : Int),rfl,h⟩
   refine q2 ?_
   exact Vs.intro sy ⟨v38,rfl,h⟩
  intro k1 h
  refine sk (.k4 (.k3 (.i 10 (vi 0) .n))) ?_
  refine q4 ?_
  refine ts (.k4 (.k3 (.i 10 (vi 0) .n))) ?_
  refine TriE.loopN h (fun (t : Bool × Nat)=>match t with | (v45,v46)=>St.mk [(0,eS 6 eTask a0),(1,eS 1 vt a1),(5,.own 0 0 v26.length),(6,vi v38),(7,vi v39),(8,vb v45),(9,eS 1 vt y42),(10,vi v46)] [some (.row 1 (List.map vt v26))]) rfl ?_
  clear h
  rintro back ⟨v45,v46⟩ h
  dsimp only [agrafferef08_Order_L1] at h
  refine q1 ?_
  refine sj ?_
  refine rk 2 (.k4 (.k4 (.i 43 (vi v46) (.i 44 (eS 1 vt y42) .n)))) ?_
  refine jo 45 (.len 0 44) (ok_len_m rfl) ?_
  refine jo 46 (.bin .lss false 43 45) (n_lss (i:=v46) (j:=y42.length) rfl rfl) ?_
  refine jf (.d2 (.k4 (.k4 (.i 46 (vb (decide (v46 < y42.length))) .n)))) ?_
  refine tc h (fun c4 h=>?_) (fun c4 h=>?_)
  ·refine q2 ?_
   refine q7 ?_
   refine q6 ?_
   refine rk 2 (.k4 (.k (.d (.k2 (.i 50 (vb v45) .n))))) ?_
   refine gj (eS 1 vt a1) 51 (.mov 1) 50 true rfl ?_
   refine gj (eS 1 vt y42) 52 (.mov 9) 50 true rfl ?_
   refine gj (vi v46) 53 (.mov 10) 50 true rfl ?_
   refine gv 54 (.iaddr 1 52 53) 50 true rfl (fun hg=>(ok_iaddr_m (j:=v46) rfl rfl rfl c4)) (fun hg=>(.cons hg (.cons hg .nil))) ?_
   refine gv 55 (.load false 1 54) 50 true rfl (fun hg=>(ok_load_fm (v:=vt (ix y42 v46)) rfl c4 rfl)) (fun hg=>(.cons hg .nil)) ?_
   obtain ⟨y47,hy47,h⟩:=bs h
   refine gc 56 [51,55] 50 true rfl (fun hg=>agraffebase_HasText_ok n a1 (ix y42 v46) y47 (gcall_some hy47 hg)) (fun hg=>(.cons rfl (.cons hg (.cons hg .nil)))) (fun hg=>by kernel_rfl) ?_
   refine gk (vb (!y47)) 57 (.un .not 56) 50 true rfl (fun hg=>(.cons hg .nil)) ?_
   refine gk (vb (!y47)) 58 (.mov 57) 50 true rfl (fun hg=>(.cons hg .nil)) ?_
   refine gj (.own 0 0 v26.length) 59 (.mov 5) 58 false rfl ?_
   refine gj (eS 1 vt y42) 60 (.mov 9) 58 false rfl ?_
   refine gj (vi v46) 61 (.mov 10) 58 false rfl ?_
   refine gv 62 (.iaddr 1 60 61) 58 false rfl (fun hg=>(ok_iaddr_m (j:=v46) rfl rfl rfl c4)) (fun hg=>(.cons hg (.cons hg .nil))) ?_
   refine gv 63 (.load false 1 62) 58 false rfl (fun hg=>(ok_load_fm (v:=vt (ix y42 v46)) rfl c4 rfl)) (fun hg=>(.cons hg .nil)) ?_
   obtain ⟨y48,hy48,h⟩:=bs h
   refine RegJ.op (Op1.callg (g:=v45 && !(!y47)) (y':=vb y48) (obx:=[some (.row 1 (List.map vt v26))]) _ _ (cy (IG 64 (.call 74 [59,63]) 58 false)) rfl (fun hg=>agraffebase_HasText_2_ok n v26 (ix y42 v46) y48 (gcall_some hy48 hg)) [0] (fun hg=>by kernel_rfl) (fun hg=>(.cons rfl (.cons hg (.cons hg .nil)))) (by kernel_rfl) (by kernel_rfl) (.same (row_ren vt_frz _ _ _) .nil) (by kernel_rfl) (by kernel_rfl)) ?_
   refine RegJ.op (Op1.org (g:=v45) (cy (IG 65 (.pick 58 (.c (.p (.bool true))) 64) 50 true)) rfl rfl rfl (fun hg=>by first | exact hokO2 hg | exact hokO3 hg | exact hokO1 | exact hokO0 | (rw [hg]; simp) | simp_all)) ?_
   refine pa 66 50 65 rfl rfl ?_
   refine jk 1 (.d4 (.d4 (.d4 (.d4 (.k4 (.k3 (.i 8 (vb (v45 && ((!y47) || y48))) .n))))))) ?_
   refine q6 ?_
   refine rk 1 (.k4 (.k2 (.d (.k (.i 47 (vi v46) .n))))) ?_
   obtain ⟨c5,h⟩:=ck h
   refine jo 48 (.bin .add false 47 (ki 1)) (r_addn (i:=v46) (j:=1) rfl rfl c5) ?_
   refine jk 1 (.d (.k4 (.k3 (.i 10 (vi ((v46 + 1 : Nat) : Int)) .n)))) ?_
   exact Vs.intro sy ⟨(v45 && ((!y47) || y48),v46 + 1),rfl,h⟩
  refine q5 ?_
  exact Vs.intro sy ⟨v45,rfl,h⟩
 refine q5 ?_
 exact Vs.intro sy ⟨v38,rfl,h⟩
set_option maxHeartbeats 1000000 in
theorem agrafferef08_CheckTasks_ok (n : Nat) (a0 : List Task) (r : Int) (h : agrafferef08_CheckTasks n a0 = some r) : FnL Tryz.prog 22 [eS 6 eTask a0] [] (vi r) [] := by
 dsimp only [agrafferef08_CheckTasks] at h
 refine fo [2] Tryz.call22 Tryz.func22 rfl ?_
 refine sk .a ?_
 refine q1 ?_
 refine sj ?_
 refine rk 1 (.k (.i 7 (eS 6 eTask a0) .n)) ?_
 refine jo 8 (.len 0 7) (ok_len_m rfl) ?_
 refine jo 9 (.bin .gtr false 8 (ki 60)) (n_gtr (i:=a0.length) (j:=60) rfl rfl) ?_
 refine jf (.d2 (.k (.i 9 (vb (decide (60 < a0.length))) .n))) ?_
 refine tc h (fun c1 h=>?_) (fun c1 h=>?_)
 ·refine sk (.i 2 (vi 8) .n) ?_
  refine q3 ?_
  have h:=si h
  subst h
  exact DoneS.ret Sees.refl rfl rfl
 refine q2 ?_
 refine TriE.seqK h (fun (_ : Unit)=>St.mk [(0,eS 6 eTask a0)] []) ?_ ?_
 ·rintro ⟨⟩ h
  refine sk (.k (.i 5 .emp .n)) ?_
  refine TriE.seqK h (fun (v6 : (List Str))=>St.mk [(0,eS 6 eTask a0),(5,.own 0 0 v6.length)] [some (.row 1 (List.map vt v6))]) ?_ ?_
  ·rintro v6 h
   refine q1 ?_
   refine sj ?_
   refine rk 2 (.k (.i 36 (eS 6 eTask a0) (.i 37 (.own 0 0 v6.length) .n))) ?_
   refine RegJ.sees (Sees.freeze 0 (fr':=[(0,eS 6 eTask a0),(36,eS 6 eTask a0),(37,eS 1 vt v6)]) (ob':=[none]) rfl (frz_row vt_frzE _) (.cons (.refl _) (.cons (.refl _) (.cons (frz_full rfl) .nil))) rfl) ?_
   obtain ⟨y7,hy7,h⟩:=bs h
   refine jc 38 [36,37] (agrafferef08_Order_ok n a0 v6 y7 hy7) ?_
   refine jo 39 (.len 0 38) (ok_len_m rfl) ?_
   refine rk 1 (.k (.i 40 (eS 6 eTask a0) .n)) ?_
   refine jo 41 (.len 0 40) (ok_len_m rfl) ?_
   refine jo 42 (.bin .lss false 39 41) (n_lss (i:=y7.length) (j:=a0.length) rfl rfl) ?_
   refine jf (.k .n) ?_
   refine tc h (fun c8 h=>?_) (fun c8 h=>?_)
   ·refine sk (.i 2 (vi 21) .n) ?_
    refine q3 ?_
    have h:=si h
    subst h
    exact DoneS.ret (S' := ⟨[(2,vi 21)],[]⟩) (sc [] (by decide) (by kernel_rfl) ObRen.nil rfl rfl) rfl rfl
   refine q2 ?_
   refine sk (.i 2 (vi 0) .n) ?_
   refine q3 ?_
   have h:=si h
   subst h
   exact DoneS.ret (S' := ⟨[(2,vi 0)],[]⟩) (sc [] (by decide) (by kernel_rfl) ObRen.nil rfl rfl) rfl rfl
  intro k2 h
  refine sk (.k2 (.i 6 (vi 0) .n)) ?_
  refine q4 ?_
  refine TriE.sees (S':=⟨[(0,eS 6 eTask a0),(5,.own 0 0 ([] : List Str).length),(6,vi 0)],[some (.row 1 (List.map vt ([] : List Str)))]⟩) (Sees.trans (Sees.co (fr':=[(0,eS 6 eTask a0),(5,.own 0 0 0),(6,vi 0)]) (ob':=[]) (.cons .same (.cons .own (.cons .same .nil))) ObCo.nil 1) sy) ?_
  refine TriE.loopN h (fun (t : (List Str) × Nat)=>match t with | (v4,v5)=>St.mk [(0,eS 6 eTask a0),(5,.own 0 0 v4.length),(6,vi v5)] [some (.row 1 (List.map vt v4))]) rfl ?_
  clear h
  rintro back ⟨v4,v5⟩ h
  dsimp only [q50k] at h
  refine q1 ?_
  refine sj ?_
  refine rk 2 (.k3 (.i 22 (vi v5) (.i 23 (eS 6 eTask a0) .n))) ?_
  refine jo 24 (.len 0 23) (ok_len_m rfl) ?_
  refine jo 25 (.bin .lss false 22 24) (n_lss (i:=v5) (j:=a0.length) rfl rfl) ?_
  refine jf (.d2 (.k3 (.i 25 (vb (decide (v5 < a0.length))) .n))) ?_
  refine tc h (fun c5 h=>?_) (fun c5 h=>?_)
  ·refine q2 ?_
   refine q7 ?_
   refine q6 ?_
   refine rk 3 (.k (.d (.k (.i 28 (.own 0 0 v4.length) (.i 29 (eS 6 eTask a0) (.i 30 (vi v5) .n)))))) ?_
   refine jo 31 (.iaddr 6 29 30) (ok_iaddr_m (j:=v5) rfl rfl rfl c5) ?_
   refine rk 1 (.d (.k3 (.i 32 (.fptr 6 (List.map eTask a0) v5 0) .n))) ?_
   refine jo 33 (.load false 1 32) (ok_load_fm (v:=vt ((ix a0 v5).Name)) rfl c5 rfl) ?_
   refine rko 1 (.d (.k3 (.i 34 (.own 1 0 1) .n))) [some (.row 1 (List.map vt v4)),some (.row 1 [vt ((ix a0 v5).Name)])] ?_
   obtain ⟨c6,h⟩:=ck h
   refine jx 35 (.app 1 16 28 34) _ (ok_app_own (l:=v4) (l2:=([(ix a0 v5).Name] : List Str)) (e:=vt) (u:=.own 1 0 1) rfl rfl rfl rfl rfl c6) rfl rfl ?_
   refine jk 1 (.d (.k2 (.i 5 (.own 2 0 ((v4 ++ ([(ix a0 v5).Name] : List Str)).length)) .n))) ?_
   refine q6 ?_
   refine rk 1 (.k (.d (.k (.i 26 (vi v5) .n)))) ?_
   obtain ⟨c7,h⟩:=ck h
   refine jo 27 (.bin .add false 26 (ki 1)) (r_addn (i:=v5) (j:=1) rfl rfl c7) ?_
   refine jk 1 (.d (.k2 (.i 6 (vi ((v5 + 1 : Nat) : Int)) .n))) ?_
   exact Vs.intro (sc [2] (by decide) (by kernel_rfl) (obRen_row vt_frz rfl .nil) rfl rfl) ⟨((v4 ++ ([(ix a0 v5).Name] : List Str)),v5 + 1),rfl,h⟩
  refine q5 ?_
  exact Vs.intro sy ⟨v4,rfl,h⟩
 intro k1 h
 refine sk (.k (.i 3 (vi 0) .n)) ?_
 refine q4 ?_
 refine ts (.k (.i 3 (vi 0) .n)) ?_
 refine TriE.loopN h (fun (v2 : Nat)=>St.mk [(0,eS 6 eTask a0),(3,vi v2)] []) rfl ?_
 clear h
 rintro back v2 h
 dsimp only [q21k] at h
 refine q1 ?_
 refine sj ?_
 refine rk 2 (.k2 (.i 10 (vi v2) (.i 11 (eS 6 eTask a0) .n))) ?_
 refine jo 12 (.len 0 11) (ok_len_m rfl) ?_
 refine jo 13 (.bin .lss false 10 12) (n_lss (i:=v2) (j:=a0.length) rfl rfl) ?_
 refine jf (.d2 (.k2 (.i 13 (vb (decide (v2 < a0.length))) .n))) ?_
 refine tc h (fun c2 h=>?_) (fun c2 h=>?_)
 ·refine q2 ?_
  refine q7 ?_
  refine sj ?_
  refine rk 2 (.k2 (.i 16 (eS 6 eTask a0) (.i 17 (vi v2) .n))) ?_
  obtain ⟨y3,hy3,h⟩:=bs h
  refine jc 18 [16,17] (agrafferef08_task_ok n a0 (v2 : Int) y3 hy3) ?_
  refine jk 1 (.d (.k2 (.i 4 (vi y3) .n))) ?_
  refine sk (.k3 (.i 20 (vb (y3 != (0 : Int))) .n)) ?_
  refine tc h (fun c3 h=>?_) (fun c3 h=>?_)
  ·refine sk (.i 2 (vi y3) .n) ?_
   refine q3 ?_
   have h:=si h
   subst h
   exact DoneS.ret Sees.refl rfl rfl
  refine q2 ?_
  refine q6 ?_
  refine rk 1 (.k (.i 14 (vi v2) .n)) ?_
  obtain ⟨c4,h⟩:=ck h
  refine jo 15 (.bin .add false 14 (ki 1)) (r_addn (i:=v2) (j:=1) rfl rfl c4) ?_
  refine jk 1 (.d (.k (.i 3 (vi ((v2 + 1 : Nat) : Int)) .n))) ?_
  exact Vs.intro sy ⟨(v2 + 1),rfl,h⟩
 refine q5 ?_
 exact Vs.intro sy ⟨(),rfl,h⟩
theorem restore_stocked_f1_ok (n : Nat) (a0 : Stocked) (a1 : Str) (r : Unit) (h : restore_stocked_f1 n a0 a1 = some r) : FnL Tryz.prog 154 [.agg [vt a0.Part,vi a0.Cents,vi a0.Count],.ptr 0 0 0] [some (.row 1 [vt a1])] (vb (a0.Part == a1)) [some (.row 1 [vt a1])] := by
 dsimp only [restore_stocked_f1] at h
 refine fob [3] Tryz.call154 Tryz.func154 rfl (.cons rfl .nil) ?_
 refine sko (.d (.k (.i 2 (.ptr 1 0 0) .n))) [some (.row 1 [vt a1]),some (.row 3 [.agg [vt a0.Part,vi a0.Cents,vi a0.Count]])] ?_
 refine sk (.i 3 (vb (a0.Part == a1)) .n) ?_
 refine q3 ?_
 have h:=si h
 subst h
 exact DoneS.ret (S' := ⟨[(3,vb (a0.Part == a1))],[some (.row 1 [vt a1])]⟩) (sc [0] (by decide) (by kernel_rfl) (.cons rfl .nil) rfl rfl) rfl rfl
theorem slices_IndexFunc_Stocked_ok (n : Nat) (a0 : List Stocked) (a1 : Str) (r : Int) (h : slices_IndexFunc_Stocked n a0 a1 = some r) : FnL Tryz.prog 153 [eS 3 eStocked a0,.fn (.func 154) [] [.ptr 0 0 0]] [some (.row 1 [vt a1])] (vi r) [some (.row 1 [vt a1])] := by
 dsimp only [slices_IndexFunc_Stocked] at h
 refine fob [4] Tryz.call153 Tryz.func153 rfl (.cons rfl .nil) ?_
 refine sk .a ?_
 refine TriE.seqK h (fun (_ : Unit)=>St.mk [] [some (.row 1 [vt a1])]) ?_ ?_
 ·rintro ⟨⟩ h
  refine sk (.i 4 (vi (-1)) .n) ?_
  refine q3 ?_
  have h:=si h
  subst h
  exact DoneS.ret Sees.refl rfl rfl
 intro k1 h
 refine sj ?_
 refine rk 1 (.k2 (.i 6 (eS 3 eStocked a0) .n)) ?_
 refine jo 7 (.len 0 6) (ok_len_m rfl) ?_
 refine jk 1 (.d (.k2 (.i 7 (vi (a0.length : Int)) (.i 8 (vi 0) .n)))) ?_
 refine q4 ?_
 refine ts (.k3 (.i 8 (vi 0) .n)) ?_
 refine TriE.loopN h (fun (v2 : Nat)=>St.mk [(0,eS 3 eStocked a0),(1,.fn (.func 154) [] [.ptr 0 0 0]),(7,vi (a0.length : Int)),(8,vi v2)] [some (.row 1 [vt a1])]) rfl ?_
 clear h
 rintro back v2 h
 dsimp only [slices_IndexFunc_Stocked_L1] at h
 refine sj ?_
 refine jo 9 (.bin .lss false 8 7) (n_lss (i:=v2) (j:=a0.length) rfl rfl) ?_
 refine jf (.d (.k4 (.i 9 (vb (decide (v2 < a0.length))) .n))) ?_
 refine q1 ?_
 refine tc h (fun c1 h=>?_) (fun c1 h=>?_)
 ·refine q2 ?_
  refine q7 ?_
  refine sk (.k4 (.i 5 (vi v2) .n)) ?_
  refine sj ?_
  refine rk 3 (.k4 (.k (.i 11 (.fn (.func 154) [] [.ptr 0 0 0]) (.i 12 (eS 3 eStocked a0) (.i 13 (vi v2) .n))))) ?_
  refine jo 14 (.iaddr 3 12 13) (ok_iaddr_m (j:=v2) rfl rfl rfl c1) ?_
  refine jo 15 (.load true 3 14) (ok_load_fm (v:=.agg [vt ((ix a0 v2).Part),vi ((ix a0 v2).Cents),vi ((ix a0 v2).Count)]) rfl c1 rfl) ?_
  obtain ⟨y3,hy3,h⟩:=bs h
  refine jy (vb ((ix a0 v2).Part == a1)) 16 11 [15] rfl (restore_stocked_f1_ok n (ix a0 v2) a1 y3 hy3) [0] rfl (.cons rfl .nil) (.cons rfl .nil) rfl ?_
  refine jf (.d3 (.k4 (.k (.i 16 (vb ((ix a0 v2).Part == a1)) .n)))) ?_
  refine tc h (fun c2 h=>?_) (fun c2 h=>?_)
  ·refine sk (.i 4 (vi v2) .n) ?_
   refine q3 ?_
   have h:=si h
   subst h
   exact DoneS.ret Sees.refl rfl rfl
  refine q2 ?_
  refine q6 ?_
  obtain ⟨c3,h⟩:=ck h
  refine jo 18 (.bin .add false 8 (ki 1)) (r_addn (i:=v2) (j:=1) rfl rfl c3) ?_
  refine jk 1 (.d (.k3 (.i 8 (vi ((v2 + 1 : Nat) : Int)) .n))) ?_
  exact Vs.intro sy ⟨(v2 + 1),rfl,h⟩
 refine q5 ?_
 exact Vs.intro sy ⟨(),rfl,h⟩
theorem restore_stocked_ok (n : Nat) (a0 : List Stocked) (a1 : Str) (r : Int) (h : restore_stocked n a0 a1 = some r) : FnL Tryz.prog 87 [eS 3 eStocked a0,vt a1] [] (vi r) [] := by
 dsimp only [restore_stocked] at h
 refine fo [4] Tryz.call87 Tryz.func87 rfl ?_
 refine sko (.k (.i 3 (.ptr 0 0 0) .n)) [some (.row 1 [vt a1])] ?_
 refine sj ?_
 refine rk 2 (.i 5 (eS 3 eStocked a0) (.i 6 (.fn (.func 154) [] [.ptr 0 0 0]) .n)) ?_
 obtain ⟨y1,hy1,h⟩:=bs h
 refine jco (vi y1) 7 [5,6] (slices_IndexFunc_Stocked_ok n a0 a1 y1 hy1) [0] rfl (.cons rfl .nil) (.cons rfl .nil) rfl ?_
 refine jk 1 (.i 4 (vi y1) .n) ?_
 refine q3 ?_
 have h:=si h
 subst h
 exact DoneS.ret (S' := ⟨[(4,vi y1)],[]⟩) (sc [] (by decide) (by kernel_rfl) ObRen.nil rfl rfl) rfl rfl
set_option maxHeartbeats 1000000 in
theorem restore_CheckStock_ok (n : Nat) (a0 : List Stocked) (r : Int) (h : restore_CheckStock n a0 = some r) : FnL Tryz.prog 23 [eS 3 eStocked a0] [] (vi r) [] := by
 dsimp only [restore_CheckStock] at h
 refine fo [2] Tryz.call23 Tryz.func23 rfl ?_
 refine sk .a ?_
 refine q1 ?_
 refine sj ?_
 refine rk 1 (.k (.i 5 (eS 3 eStocked a0) .n)) ?_
 refine jo 6 (.len 0 5) (ok_len_m rfl) ?_
 refine jo 7 (.bin .gtr false 6 (ki 60)) (n_gtr (i:=a0.length) (j:=60) rfl rfl) ?_
 refine jf (.d2 (.k (.i 7 (vb (decide (60 < a0.length))) .n))) ?_
 refine tc h (fun c1 h=>?_) (fun c1 h=>?_)
 ·refine sk (.i 2 (vi 8) .n) ?_
  refine q3 ?_
  have h:=si h
  subst h
  exact DoneS.ret Sees.refl rfl rfl
 refine q2 ?_
 refine TriE.seqK h (fun (_ : Unit)=>St.mk [] []) ?_ ?_
 ·rintro ⟨⟩ h
  refine sk (.i 2 (vi 0) .n) ?_
  refine q3 ?_
  have h:=si h
  subst h
  exact DoneS.ret Sees.refl rfl rfl
 intro k1 h
 refine sj ?_
 refine rk 1 (.k (.i 8 (eS 3 eStocked a0) .n)) ?_
 refine jo 9 (.len 0 8) (ok_len_m rfl) ?_
 refine jk 1 (.d (.k2 (.i 9 (vi (a0.length : Int)) (.i 10 (vi 0) .n)))) ?_
 refine q4 ?_
 refine ts (.k3 (.i 10 (vi 0) .n)) ?_
 refine TriE.loopN h (fun (v5 : Nat)=>St.mk [(0,eS 3 eStocked a0),(8,eS 3 eStocked a0),(9,vi (a0.length : Int)),(10,vi v5)] []) rfl ?_
 clear h
 rintro back v5 h
 dsimp only [restore_CheckStock_L1] at h
 refine sj ?_
 refine jo 11 (.bin .lss false 10 9) (n_lss (i:=v5) (j:=a0.length) rfl rfl) ?_
 refine jf (.d (.k4 (.i 11 (vb (decide (v5 < a0.length))) .n))) ?_
 refine q1 ?_
 refine tc h (fun c2 h=>?_) (fun c2 h=>?_)
 ·refine q2 ?_
  refine q7 ?_
  refine sj ?_
  refine rk 1 (.k4 (.i 12 (vi v5) .n)) ?_
  refine jo 13 (.iaddr 3 8 10) (ok_iaddr_m (j:=v5) rfl rfl rfl c2) ?_
  refine jo 14 (.load true 3 13) (ok_load_fm (v:=.agg [vt ((ix a0 v5).Part),vi ((ix a0 v5).Cents),vi ((ix a0 v5).Count)]) rfl c2 rfl) ?_
  refine jko 3 (.d2 (.k4 (.i 4 (.ptr 0 0 0) (.i 3 (vi v5) .n)))) [some (.row 3 [.agg [vt ((ix a0 v5).Part),vi ((ix a0 v5).Cents),vi ((ix a0 v5).Count)]])] ?_
  refine q4 ?_
  refine sj ?_
  refine rk 2 (.k4 (.k2 (.i 17 (vt ((ix a0 v5).Part)) .n))) ?_
  obtain ⟨y6,hy6,h⟩:=bs h
  refine jc 18 [17] (restore_isName_ok n ((ix a0 v5).Part) y6 hy6) ?_
  refine jk 2 (.d (.k4 (.k2 (.i 15 (vb (!y6)) .n)))) ?_
  refine tc h (fun c3 h=>?_) (fun c3 h=>?_)
  ·refine sk (.i 2 (vi 4) .n) ?_
   refine q3 ?_
   have h:=si h
   subst h
   exact DoneS.ret (S' := ⟨[(2,vi 4)],[]⟩) (sc [] (by decide) (by kernel_rfl) ObRen.nil rfl rfl) rfl rfl
  refine q1 ?_
  refine ts (.k4 (.k2 .n)) ?_
  refine TriE.draw (by kernel_rfl) ?_
  refine dk 2 (.i 22 (vi v5) (.i 21 (eS 3 eStocked a0) .a)) ?_
  obtain ⟨c4,h⟩:=ck h
  refine dp 23 (.slc 3 21 none (some 22) none) (ok_slc_hi (j:=v5) rfl rfl rfl c4) ?_
  refine dk 2 (.i 25 (vt ((ix a0 v5).Part)) (.i 24 (.ptr 0 0 0) .a)) ?_
  obtain ⟨y7,hy7,h⟩:=bs h
  refine dc (vi y7) 0 26 [23,25] (restore_stocked_ok n (List.take v5 a0) ((ix a0 v5).Part) y7 hy7) [] rfl ObsRen.nil ObsRen.nil rfl (.inr ⟨rfl,rfl⟩) ?_
  refine dk 2 (.i 20 (vb (decide ((0 : Int) ≤ y7))) (.i 27 (vb (decide ((0 : Int) ≤ y7))) .a)) ?_
  refine dfi (ob':=[some (.row 3 [.agg [vt ((ix a0 v5).Part),vi ((ix a0 v5).Cents),vi ((ix a0 v5).Count)]])]) (.d4 (.d4 (.k4 (.k (.i 20 (vb (decide ((0 : Int) ≤ y7))) .n))))) [0] (.cons rfl .nil) ?_
  refine tc h (fun c5 h=>?_) (fun c5 h=>?_)
  ·refine sk (.i 2 (vi 5) .n) ?_
   refine q3 ?_
   have h:=si h
   subst h
   exact DoneS.ret (S' := ⟨[(2,vi 5)],[]⟩) (sc [] (by decide) (by kernel_rfl) ObRen.nil rfl rfl) rfl rfl
  refine sj ?_
  refine rk 2 (.k4 (.k (.i 30 (vi ((ix a0 v5).Cents)) .n))) ?_
  obtain ⟨y8,hy8,h⟩:=bs h
  refine jc 31 [30,(ki 0),(ki 1000000000)] (restore_within_ok n ((ix a0 v5).Cents) 0 1000000000 y8 hy8) ?_
  refine rk 2 (.d (.k4 (.k (.i 33 (vb (!((decide (0 ≤ ((ix a0 v5).Cents))) && (decide (((ix a0 v5).Cents) ≤ 1000000000))))) .n)))) ?_
  refine gj (.ptr 0 0 2) 34 (.faddr 2 4) 33 false rfl ?_
  refine gk (vi ((ix a0 v5).Count)) 35 (.load false 1 34) 33 false rfl (fun hg=>(.cons hg .nil)) ?_
  obtain ⟨y9,hy9,h⟩:=bs h
  refine gc 36 [35,(ki 0),(ki 10000)] 33 false rfl (fun hg=>restore_within_ok n ((ix a0 v5).Count) 0 10000 y9 (gcall_some hy9 hg)) (fun hg=>(.cons rfl (.cons hg (.cons rfl (.cons rfl .nil))))) (fun hg=>by kernel_rfl) ?_
  refine gk (vb (!((decide (0 ≤ ((ix a0 v5).Count))) && (decide (((ix a0 v5).Count) ≤ 10000))))) 37 (.un .not 36) 33 false rfl (fun hg=>(.cons hg .nil)) ?_
  refine po 38 33 37 rfl rfl ?_
  refine jk 1 (.d4 (.d (.k4 (.i 28 (vb ((!((decide (0 ≤ ((ix a0 v5).Cents))) && (decide (((ix a0 v5).Cents) ≤ 1000000000)))) || (!((decide (0 ≤ ((ix a0 v5).Count))) && (decide (((ix a0 v5).Count) ≤ 10000)))))) .n)))) ?_
  refine tc h (fun c6 h=>?_) (fun c6 h=>?_)
  ·refine sk (.i 2 (vi 2) .n) ?_
   refine q3 ?_
   have h:=si h
   subst h
   exact DoneS.ret (S' := ⟨[(2,vi 2)],[]⟩) (sc [] (by decide) (by kernel_rfl) ObRen.nil rfl rfl) rfl rfl
  refine q2 ?_
  refine q6 ?_
  obtain ⟨c7,h⟩:=ck h
  refine jo 39 (.bin .add false 10 (ki 1)) (r_addn (i:=v5) (j:=1) rfl rfl c7) ?_
  refine jk 1 (.d (.k3 (.i 10 (vi ((v5 + 1 : Nat) : Int)) .n))) ?_
  exact Vs.intro (sc [] (by decide) (by kernel_rfl) ObRen.nil rfl rfl) ⟨(v5 + 1),rfl,h⟩
 refine q5 ?_
 exact Vs.intro sy ⟨(),rfl,h⟩
theorem agrafferef08_FindStock_ok (n : Nat) (a0 : List Stocked) (a1 : Str) (r : Int) (h : q45k n a0 a1 = some r) : FnL Tryz.prog 67 [eS 3 eStocked a0,vt a1] [] (vi r) [] := by
 dsimp only [q45k] at h
 refine fo [4] Tryz.call67 Tryz.func67 rfl ?_
 refine sk .a ?_
 refine TriE.seqK h (fun (_ : Unit)=>St.mk [] []) ?_ ?_
 ·rintro ⟨⟩ h
  refine sk (.i 4 (vi (-1)) .n) ?_
  refine q3 ?_
  have h:=si h
  subst h
  exact DoneS.ret Sees.refl rfl rfl
 intro k1 h
 refine sk (.k2 (.i 5 (vi 0) .n)) ?_
 refine q4 ?_
 refine ts (.k2 (.i 5 (vi 0) .n)) ?_
 refine TriE.loopN h (fun (v1 : Nat)=>St.mk [(0,eS 3 eStocked a0),(1,vt a1),(5,vi v1)] []) rfl ?_
 clear h
 rintro back v1 h
 dsimp only [agrafferef08_FindStock_L1] at h
 refine q1 ?_
 refine sj ?_
 refine rk 2 (.k3 (.i 6 (vi v1) (.i 7 (eS 3 eStocked a0) .n))) ?_
 refine jo 8 (.len 0 7) (ok_len_m rfl) ?_
 refine jo 9 (.bin .lss false 6 8) (n_lss (i:=v1) (j:=a0.length) rfl rfl) ?_
 refine jf (.d2 (.k3 (.i 9 (vb (decide (v1 < a0.length))) .n))) ?_
 refine tc h (fun c1 h=>?_) (fun c1 h=>?_)
 ·refine q2 ?_
  refine q7 ?_
  refine sj ?_
  refine rk 2 (.k3 (.i 12 (eS 3 eStocked a0) (.i 13 (vi v1) .n))) ?_
  refine jo 14 (.iaddr 3 12 13) (ok_iaddr_m (j:=v1) rfl rfl rfl c1) ?_
  refine rk 1 (.d (.k3 (.i 15 (.fptr 3 (List.map eStocked a0) v1 0) .n))) ?_
  refine jo 16 (.load false 1 15) (ok_load_fm (v:=vt ((ix a0 v1).Part)) rfl c1 rfl) ?_
  refine jk 2 (.d (.k3 (.i 18 (vb (((ix a0 v1).Part) == a1)) .n))) ?_
  refine tc h (fun c2 h=>?_) (fun c2 h=>?_)
  ·refine sk (.i 4 (vi v1) .n) ?_
   refine q3 ?_
   have h:=si h
   subst h
   exact DoneS.ret Sees.refl rfl rfl
  refine q2 ?_
  refine q6 ?_
  refine rk 1 (.k2 (.i 10 (vi v1) .n)) ?_
  obtain ⟨c3,h⟩:=ck h
  refine jo 11 (.bin .add false 10 (ki 1)) (r_addn (i:=v1) (j:=1) rfl rfl c3) ?_
  refine jk 1 (.d (.k2 (.i 5 (vi ((v1 + 1 : Nat) : Int)) .n))) ?_
  exact Vs.intro sy ⟨(v1 + 1),rfl,h⟩
 refine q5 ?_
 exact Vs.intro sy ⟨(),rfl,h⟩
set_option maxHeartbeats 1000000 in
theorem agrafferef08_CheckStock_ok (n : Nat) (a0 : List Stocked) (r : Int) (h : agrafferef08_CheckStock n a0 = some r) : FnL Tryz.prog 25 [eS 3 eStocked a0] [] (vi r) [] := by
 dsimp only [agrafferef08_CheckStock] at h
 refine fo [2] Tryz.call25 Tryz.func25 rfl ?_
 refine sk .a ?_
 refine q1 ?_
 refine sj ?_
 refine rk 1 (.k (.i 4 (eS 3 eStocked a0) .n)) ?_
 refine jo 5 (.len 0 4) (ok_len_m rfl) ?_
 refine jo 6 (.bin .gtr false 5 (ki 60)) (n_gtr (i:=a0.length) (j:=60) rfl rfl) ?_
 refine jf (.d2 (.k (.i 6 (vb (decide (60 < a0.length))) .n))) ?_
 refine tc h (fun c1 h=>?_) (fun c1 h=>?_)
 ·refine sk (.i 2 (vi 8) .n) ?_
  refine q3 ?_
  have h:=si h
  subst h
  exact DoneS.ret Sees.refl rfl rfl
 refine q2 ?_
 refine TriE.seqK h (fun (_ : Unit)=>St.mk [] []) ?_ ?_
 ·rintro ⟨⟩ h
  refine sk (.i 2 (vi 0) .n) ?_
  refine q3 ?_
  have h:=si h
  subst h
  exact DoneS.ret Sees.refl rfl rfl
 intro k1 h
 refine sk (.k (.i 3 (vi 0) .n)) ?_
 refine q4 ?_
 refine ts (.k (.i 3 (vi 0) .n)) ?_
 refine TriE.loopN h (fun (v5 : Nat)=>St.mk [(0,eS 3 eStocked a0),(3,vi v5)] []) rfl ?_
 clear h
 rintro back v5 h
 dsimp only [agrafferef08_CheckStock_L1] at h
 refine q1 ?_
 refine sj ?_
 refine rk 2 (.k2 (.i 7 (vi v5) (.i 8 (eS 3 eStocked a0) .n))) ?_
 refine jo 9 (.len 0 8) (ok_len_m rfl) ?_
 refine jo 10 (.bin .lss false 7 9) (n_lss (i:=v5) (j:=a0.length) rfl rfl) ?_
 refine jf (.d2 (.k2 (.i 10 (vb (decide (v5 < a0.length))) .n))) ?_
 refine tc h (fun c2 h=>?_) (fun c2 h=>?_)
 ·refine q2 ?_
  refine q7 ?_
  refine q1 ?_
  refine sj ?_
  refine rk 2 (.k2 (.i 13 (eS 3 eStocked a0) (.i 14 (vi v5) .n))) ?_
  refine jo 15 (.iaddr 3 13 14) (ok_iaddr_m (j:=v5) rfl rfl rfl c2) ?_
  refine rk 1 (.d (.k2 (.i 16 (.fptr 3 (List.map eStocked a0) v5 0) .n))) ?_
  refine jo 17 (.load false 1 16) (ok_load_fm (v:=vt ((ix a0 v5).Part)) rfl c2 rfl) ?_
  obtain ⟨y6,hy6,h⟩:=bs h
  refine jc 18 [17] (agraffebase_IsName_ok n ((ix a0 v5).Part) y6 hy6) ?_
  refine jk 1 (.d2 (.k2 (.i 19 (vb (!y6)) .n))) ?_
  refine tc h (fun c3 h=>?_) (fun c3 h=>?_)
  ·refine sk (.i 2 (vi 4) .n) ?_
   refine q3 ?_
   have h:=si h
   subst h
   exact DoneS.ret Sees.refl rfl rfl
  refine q2 ?_
  refine q1 ?_
  refine q1 ?_
  refine ts (.k2 .n) ?_
  refine TriE.draw (by kernel_rfl) ?_
  refine dk 2 (.i 21 (vi v5) (.i 20 (eS 3 eStocked a0) .a)) ?_
  obtain ⟨c4,h⟩:=ck h
  refine dp 22 (.slc 3 20 none (some 21) none) (ok_slc_hi (j:=v5) rfl rfl rfl c4) ?_
  refine dk 2 (.i 24 (vi v5) (.i 23 (eS 3 eStocked a0) .a)) ?_
  refine dp 25 (.iaddr 3 23 24) (ok_iaddr_m (j:=v5) rfl rfl rfl c2) ?_
  refine dk 1 (.i 26 (.fptr 3 (List.map eStocked a0) v5 0) .a) ?_
  refine dp 27 (.load false 1 26) (ok_load_fm (v:=vt ((ix a0 v5).Part)) rfl c2 rfl) ?_
  obtain ⟨y7,hy7,h⟩:=bs h
  refine dc (vi y7) 0 28 [22,27] (agrafferef08_FindStock_ok n (List.take v5 a0) ((ix a0 v5).Part) y7 hy7) [] rfl ObsRen.nil ObsRen.nil rfl (.inr ⟨rfl,rfl⟩) ?_
  refine dk 1 (.i 29 (vb (decide ((0 : Int) ≤ y7))) .a) ?_
  refine dfi (.d4 (.d4 (.d2 (.k2 (.i 29 (vb (decide ((0 : Int) ≤ y7))) .n))))) [] ObRen.nil ?_
  refine tc h (fun c5 h=>?_) (fun c5 h=>?_)
  ·refine sk (.i 2 (vi 5) .n) ?_
   refine q3 ?_
   have h:=si h
   subst h
   exact DoneS.ret Sees.refl rfl rfl
  refine q2 ?_
  refine sj ?_
  refine rk 2 (.k2 (.i 30 (eS 3 eStocked a0) (.i 31 (vi v5) .n))) ?_
  refine jo 32 (.iaddr 3 30 31) (ok_iaddr_m (j:=v5) rfl rfl rfl c2) ?_
  refine rk 1 (.d (.k2 (.i 33 (.fptr 3 (List.map eStocked a0) v5 1) .n))) ?_
  refine jo 34 (.load false 1 33) (ok_load_fm (v:=vi ((ix a0 v5).Cents)) rfl c2 rfl) ?_
  obtain ⟨y8,hy8,h⟩:=bs h
  refine jc 35 [34,(ki 0),(ki 1000000000)] (agraffebase_Within_ok n ((ix a0 v5).Cents) 0 1000000000 y8 hy8) ?_
  refine rk 2 (.d2 (.k2 (.i 37 (vb (!((decide (0 ≤ ((ix a0 v5).Cents))) && (decide (((ix a0 v5).Cents) ≤ 1000000000))))) .n))) ?_
  refine gj (eS 3 eStocked a0) 38 (.mov 0) 37 false rfl ?_
  refine gj (vi v5) 39 (.mov 3) 37 false rfl ?_
  refine gv 40 (.iaddr 3 38 39) 37 false rfl (fun hg=>(ok_iaddr_m (j:=v5) rfl rfl rfl c2)) (fun hg=>(.cons hg (.cons hg .nil))) ?_
  refine gk (.fptr 3 (List.map eStocked a0) v5 2) 41 (.faddr 2 40) 37 false rfl (fun hg=>(.cons hg .nil)) ?_
  refine gv 42 (.load false 1 41) 37 false rfl (fun hg=>(ok_load_fm (v:=vi ((ix a0 v5).Count)) rfl c2 rfl)) (fun hg=>(.cons hg .nil)) ?_
  obtain ⟨y9,hy9,h⟩:=bs h
  refine gc 43 [42,(ki 0),(ki 10000)] 37 false rfl (fun hg=>agraffebase_Within_ok n ((ix a0 v5).Count) 0 10000 y9 (gcall_some hy9 hg)) (fun hg=>(.cons rfl (.cons hg (.cons rfl (.cons rfl .nil))))) (fun hg=>by kernel_rfl) ?_
  refine gk (vb (!((decide (0 ≤ ((ix a0 v5).Count))) && (decide (((ix a0 v5).Count) ≤ 10000))))) 44 (.un .not 43) 37 false rfl (fun hg=>(.cons hg .nil)) ?_
  refine po 45 37 44 rfl rfl ?_
  refine jf (.d4 (.d4 (.k2 (.i 45 (vb ((!((decide (0 ≤ ((ix a0 v5).Cents))) && (decide (((ix a0 v5).Cents) ≤ 1000000000)))) || (!((decide (0 ≤ ((ix a0 v5).Count))) && (decide (((ix a0 v5).Count) ≤ 10000)))))) .n)))) ?_
  refine tc h (fun c6 h=>?_) (fun c6 h=>?_)
  ·refine sk (.i 2 (vi 2) .n) ?_
   refine q3 ?_
   have h:=si h
   subst h
   exact DoneS.ret Sees.refl rfl rfl
  refine q2 ?_
  refine q6 ?_
  refine rk 1 (.k (.i 11 (vi v5) .n)) ?_
  obtain ⟨c7,h⟩:=ck h
  refine jo 12 (.bin .add false 11 (ki 1)) (r_addn (i:=v5) (j:=1) rfl rfl c7) ?_
  refine jk 1 (.d (.k (.i 3 (vi ((v5 + 1 : Nat) : Int)) .n))) ?_
  exact Vs.intro sy ⟨(v5 + 1),rfl,h⟩
 refine q5 ?_
 exact Vs.intro sy ⟨(),rfl,h⟩
theorem restore_list_checkSet_ok (n : Nat) (a0 : List Task) (a1 : List Str) (r : Int) (h : restore_list_checkSet n a0 a1 = some r) : FnL Tryz.prog 123 [eS 6 eTask a0,eS 1 vt a1] [] (vi r) [] := by
 dsimp only [restore_list_checkSet] at h
 refine fo [4] Tryz.call123 Tryz.func123 rfl ?_
 refine sk .a ?_
 refine TriE.seqK h (fun (_ : Unit)=>St.mk [(1,eS 1 vt a1)] []) ?_ ?_
 ·rintro ⟨⟩ h
  refine TriE.seqK h (fun (_ : Unit)=>St.mk [] []) ?_ ?_
  ·rintro ⟨⟩ h
   refine sk (.i 4 (vi 0) .n) ?_
   refine q3 ?_
   have h:=si h
   subst h
   exact DoneS.ret Sees.refl rfl rfl
  intro k2 h
  refine sk (.k (.i 7 (vi 1) .n)) ?_
  refine q4 ?_
  refine ts (.k (.i 7 (vi 1) .n)) ?_
  refine TriE.loopN h (fun (v4 : Nat)=>St.mk [(1,eS 1 vt a1),(7,vi v4)] []) rfl ?_
  clear h
  rintro back v4 h
  dsimp only [restore_list_checkSet_L2] at h
  refine q1 ?_
  refine sj ?_
  refine rk 2 (.k2 (.i 19 (vi v4) (.i 20 (eS 1 vt a1) .n))) ?_
  refine jo 21 (.len 0 20) (ok_len_m rfl) ?_
  refine jo 22 (.bin .lss false 19 21) (n_lss (i:=v4) (j:=a1.length) rfl rfl) ?_
  refine jf (.d2 (.k2 (.i 22 (vb (decide (v4 < a1.length))) .n))) ?_
  refine tc h (fun c4 h=>?_) (fun c4 h=>?_)
  ·refine q2 ?_
   refine q7 ?_
   refine q1 ?_
   refine ts (.k2 .n) ?_
   refine TriE.draw (by kernel_rfl) ?_
   refine dk 2 (.i 26 (vi v4) (.i 25 (eS 1 vt a1) .a)) ?_
   refine dp 27 (.iaddr 1 25 26) (ok_iaddr_m (j:=v4) rfl rfl rfl c4) ?_
   refine dp 28 (.load false 1 27) (ok_load_fm (v:=vt (ix a1 v4)) rfl c4 rfl) ?_
   refine dk 2 (.i 30 (vi v4) (.i 29 (eS 1 vt a1) .a)) ?_
   obtain ⟨c5,h⟩:=ck h
   refine dp 31 (.bin .sub false 30 (ki 1)) (r_sub rfl rfl c5) ?_
   obtain ⟨c6,h⟩:=ck h
   refine dp 32 (.iaddr 1 29 31) (ok_iaddr_m (j:=((v4 : Int) - 1).toNat) rfl rfl (inB_to c6) (inB_lt c6)) ?_
   obtain ⟨c7,h⟩:=ck h
   refine dp 33 (.load false 1 32) (ok_load_fm (v:=vt (ix a1 (((v4 : Int) - 1).toNat))) rfl c7 rfl) ?_
   refine dk 1 (.i 34 (vb (bLt (ix a1 v4) (ix a1 (((v4 : Int) - 1).toNat)) || ((ix a1 v4) == (ix a1 (((v4 : Int) - 1).toNat))))) .a) ?_
   refine dfi (.d4 (.d4 (.d2 (.k2 (.i 34 (vb (bLt (ix a1 v4) (ix a1 (((v4 : Int) - 1).toNat)) || ((ix a1 v4) == (ix a1 (((v4 : Int) - 1).toNat))))) .n))))) [] ObRen.nil ?_
   refine tc h (fun c8 h=>?_) (fun c8 h=>?_)
   ·refine sk (.i 4 (vi 9) .n) ?_
    refine q3 ?_
    have h:=si h
    subst h
    exact DoneS.ret Sees.refl rfl rfl
   refine q2 ?_
   refine q6 ?_
   refine rk 1 (.k (.i 23 (vi v4) .n)) ?_
   obtain ⟨c9,h⟩:=ck h
   refine jo 24 (.bin .add false 23 (ki 1)) (r_addn (i:=v4) (j:=1) rfl rfl c9) ?_
   refine jk 1 (.d (.k (.i 7 (vi ((v4 + 1 : Nat) : Int)) .n))) ?_
   exact Vs.intro sy ⟨(v4 + 1),rfl,h⟩
  refine q5 ?_
  exact Vs.intro sy ⟨(),rfl,h⟩
 intro k1 h
 refine sj ?_
 refine rk 1 (.k2 (.i 8 (eS 1 vt a1) .n)) ?_
 refine jo 9 (.len 0 8) (ok_len_m rfl) ?_
 refine jk 1 (.d (.k3 (.i 9 (vi (a1.length : Int)) (.i 10 (vi 0) .n)))) ?_
 refine q4 ?_
 refine ts (.k4 (.i 10 (vi 0) .n)) ?_
 refine TriE.loopN h (fun (v2 : Nat)=>St.mk [(0,eS 6 eTask a0),(1,eS 1 vt a1),(8,eS 1 vt a1),(9,vi (a1.length : Int)),(10,vi v2)] []) rfl ?_
 clear h
 rintro back v2 h
 dsimp only [restore_list_checkSet_L1] at h
 refine sj ?_
 refine jo 11 (.bin .lss false 10 9) (n_lss (i:=v2) (j:=a1.length) rfl rfl) ?_
 refine jf (.d (.k4 (.k (.i 11 (vb (decide (v2 < a1.length))) .n)))) ?_
 refine q1 ?_
 refine tc h (fun c1 h=>?_) (fun c1 h=>?_)
 ·refine q2 ?_
  refine q7 ?_
  refine sj ?_
  refine jo 12 (.iaddr 1 8 10) (ok_iaddr_m (j:=v2) rfl rfl rfl c1) ?_
  refine jo 13 (.load false 1 12) (ok_load_fm (v:=vt (ix a1 v2)) rfl c1 rfl) ?_
  refine jk 1 (.d2 (.k4 (.k (.i 6 (vt (ix a1 v2)) .n)))) ?_
  refine sj ?_
  refine rk 2 (.k4 (.k (.i 14 (eS 6 eTask a0) (.i 15 (vt (ix a1 v2)) .n)))) ?_
  obtain ⟨y3,hy3,h⟩:=bs h
  refine jc 16 [14,15] (restore_list_find_ok n a0 (ix a1 v2) y3 hy3) ?_
  refine jk 1 (.d (.k4 (.k (.i 17 (vb (decide (y3 < (0 : Int)))) .n)))) ?_
  refine tc h (fun c2 h=>?_) (fun c2 h=>?_)
  ·refine sk (.i 4 (vi 6) .n) ?_
   refine q3 ?_
   have h:=si h
   subst h
   exact DoneS.ret Sees.refl rfl rfl
  refine q2 ?_
  refine q6 ?_
  obtain ⟨c3,h⟩:=ck h
  refine jo 18 (.bin .add false 10 (ki 1)) (r_addn (i:=v2) (j:=1) rfl rfl c3) ?_
  refine jk 1 (.d (.k4 (.i 10 (vi ((v2 + 1 : Nat) : Int)) .n))) ?_
  exact Vs.intro sy ⟨(v2 + 1),rfl,h⟩
 refine q5 ?_
 exact Vs.intro sy ⟨(),rfl,h⟩
theorem restore_checkSets_ok (n : Nat) (a0 : List Task) (a1 : List (List Str)) (r : Int) (h : restore_checkSets n a0 a1 = some r) : FnL Tryz.prog 105 [eS 6 eTask a0,eS 1 (eS 1 vt) a1] [] (vi r) [] := by
 dsimp only [restore_checkSets] at h
 refine fo [4] Tryz.call105 Tryz.func105 rfl ?_
 refine sk .a ?_
 refine q1 ?_
 refine sj ?_
 refine rk 1 (.k2 (.i 9 (eS 6 eTask a0) .n)) ?_
 obtain ⟨y1,hy1,h⟩:=bs h
 refine jc 10 [9] (restore_CheckTasks_ok n a0 y1 hy1) ?_
 refine jk 1 (.d (.k2 (.i 5 (vi y1) .n))) ?_
 refine sk (.k3 (.i 12 (vb (y1 != (0 : Int))) .n)) ?_
 refine tc h (fun c1 h=>?_) (fun c1 h=>?_)
 ·refine sk (.i 4 (vi y1) .n) ?_
  refine q3 ?_
  have h:=si h
  subst h
  exact DoneS.ret Sees.refl rfl rfl
 refine q2 ?_
 refine TriE.seqK h (fun (_ : Unit)=>St.mk [] []) ?_ ?_
 ·rintro ⟨⟩ h
  refine sk (.i 4 (vi 0) .n) ?_
  refine q3 ?_
  have h:=si h
  subst h
  exact DoneS.ret Sees.refl rfl rfl
 intro k1 h
 refine sj ?_
 refine rk 1 (.k (.i 14 (eS 1 (eS 1 vt) a1) .n)) ?_
 refine jo 15 (.len 0 14) (ok_len_m rfl) ?_
 refine jk 1 (.d (.k2 (.i 15 (vi (a1.length : Int)) (.i 16 (vi 0) .n)))) ?_
 refine q4 ?_
 refine ts (.k3 (.i 16 (vi 0) .n)) ?_
 refine TriE.loopN h (fun (v3 : Nat)=>St.mk [(0,eS 6 eTask a0),(14,eS 1 (eS 1 vt) a1),(15,vi (a1.length : Int)),(16,vi v3)] []) rfl ?_
 clear h
 rintro back v3 h
 dsimp only [restore_checkSets_L1] at h
 refine sj ?_
 refine jo 17 (.bin .lss false 16 15) (n_lss (i:=v3) (j:=a1.length) rfl rfl) ?_
 refine jf (.d (.k4 (.i 17 (vb (decide (v3 < a1.length))) .n))) ?_
 refine q1 ?_
 refine tc h (fun c2 h=>?_) (fun c2 h=>?_)
 ·refine q2 ?_
  refine q7 ?_
  refine sj ?_
  refine jo 18 (.iaddr 1 14 16) (ok_iaddr_m (j:=v3) rfl rfl rfl c2) ?_
  refine jo 19 (.load false 1 18) (ok_load_fm (v:=eS 1 vt (ix a1 v3)) rfl c2 rfl) ?_
  refine jk 1 (.d2 (.k4 (.i 7 (eS 1 vt (ix a1 v3)) .n))) ?_
  refine sj ?_
  refine rk 2 (.k4 (.i 20 (eS 6 eTask a0) (.i 21 (eS 1 vt (ix a1 v3)) .n))) ?_
  obtain ⟨y4,hy4,h⟩:=bs h
  refine jc 22 [20,21] (restore_list_checkSet_ok n a0 (ix a1 v3) y4 hy4) ?_
  refine jk 1 (.d (.k4 (.i 8 (vi y4) .n))) ?_
  refine sk (.k4 (.k (.i 24 (vb (y4 != (0 : Int))) .n))) ?_
  refine tc h (fun c3 h=>?_) (fun c3 h=>?_)
  ·refine sk (.i 4 (vi y4) .n) ?_
   refine q3 ?_
   have h:=si h
   subst h
   exact DoneS.ret Sees.refl rfl rfl
  refine q2 ?_
  refine q6 ?_
  obtain ⟨c4,h⟩:=ck h
  refine jo 26 (.bin .add false 16 (ki 1)) (r_addn (i:=v3) (j:=1) rfl rfl c4) ?_
  refine jk 1 (.d (.k3 (.i 16 (vi ((v3 + 1 : Nat) : Int)) .n))) ?_
  exact Vs.intro sy ⟨(v3 + 1),rfl,h⟩
 refine q5 ?_
 exact Vs.intro sy ⟨(),rfl,h⟩
theorem agrafferef08_CheckSet_ok (n : Nat) (a0 : List Task) (a1 : List Str) (r : Int) (h : agrafferef08_CheckSet n a0 a1 = some r) : FnL Tryz.prog 46 [eS 6 eTask a0,eS 1 vt a1] [] (vi r) [] := by
 dsimp only [agrafferef08_CheckSet] at h
 refine fo [4] Tryz.call46 Tryz.func46 rfl ?_
 refine sk .a ?_
 refine TriE.seqK h (fun (_ : Unit)=>St.mk [(1,eS 1 vt a1)] []) ?_ ?_
 ·rintro ⟨⟩ h
  refine TriE.seqK h (fun (_ : Unit)=>St.mk [] []) ?_ ?_
  ·rintro ⟨⟩ h
   refine sk (.i 4 (vi 0) .n) ?_
   refine q3 ?_
   have h:=si h
   subst h
   exact DoneS.ret Sees.refl rfl rfl
  intro k2 h
  refine sk (.k (.i 6 (vi 1) .n)) ?_
  refine q4 ?_
  refine ts (.k (.i 6 (vi 1) .n)) ?_
  refine TriE.loopN h (fun (v4 : Nat)=>St.mk [(1,eS 1 vt a1),(6,vi v4)] []) rfl ?_
  clear h
  rintro back v4 h
  dsimp only [agrafferef08_CheckSet_L2] at h
  refine q1 ?_
  refine sj ?_
  refine rk 2 (.k2 (.i 20 (vi v4) (.i 21 (eS 1 vt a1) .n))) ?_
  refine jo 22 (.len 0 21) (ok_len_m rfl) ?_
  refine jo 23 (.bin .lss false 20 22) (n_lss (i:=v4) (j:=a1.length) rfl rfl) ?_
  refine jf (.d2 (.k2 (.i 23 (vb (decide (v4 < a1.length))) .n))) ?_
  refine tc h (fun c4 h=>?_) (fun c4 h=>?_)
  ·refine q2 ?_
   refine q7 ?_
   refine q1 ?_
   refine ts (.k2 .n) ?_
   refine TriE.draw (by kernel_rfl) ?_
   refine dk 2 (.i 27 (vi v4) (.i 26 (eS 1 vt a1) .a)) ?_
   obtain ⟨c5,h⟩:=ck h
   refine dp 28 (.bin .sub false 27 (ki 1)) (r_sub rfl rfl c5) ?_
   obtain ⟨c6,h⟩:=ck h
   refine dp 29 (.iaddr 1 26 28) (ok_iaddr_m (j:=((v4 : Int) - 1).toNat) rfl rfl (inB_to c6) (inB_lt c6)) ?_
   obtain ⟨c7,h⟩:=ck h
   refine dp 30 (.load false 1 29) (ok_load_fm (v:=vt (ix a1 (((v4 : Int) - 1).toNat))) rfl c7 rfl) ?_
   refine dk 2 (.i 32 (vi v4) (.i 31 (eS 1 vt a1) .a)) ?_
   refine dp 33 (.iaddr 1 31 32) (ok_iaddr_m (j:=v4) rfl rfl rfl c4) ?_
   refine dp 34 (.load false 1 33) (ok_load_fm (v:=vt (ix a1 v4)) rfl c4 rfl) ?_
   refine dk 1 (.i 35 (vb (!bLt (ix a1 (((v4 : Int) - 1).toNat)) (ix a1 v4))) .a) ?_
   refine dfi (.d4 (.d4 (.d2 (.k2 (.i 35 (vb (!bLt (ix a1 (((v4 : Int) - 1).toNat)) (ix a1 v4))) .n))))) [] ObRen.nil ?_
   refine tc h (fun c8 h=>?_) (fun c8 h=>?_)
   ·refine sk (.i 4 (vi 9) .n) ?_
    refine q3 ?_
    have h:=si h
    subst h
    exact DoneS.ret Sees.refl rfl rfl
   refine q2 ?_
   refine q6 ?_
   refine rk 1 (.k (.i 24 (vi v4) .n)) ?_
   obtain ⟨c9,h⟩:=ck h
   refine jo 25 (.bin .add false 24 (ki 1)) (r_addn (i:=v4) (j:=1) rfl rfl c9) ?_
   refine jk 1 (.d (.k (.i 6 (vi ((v4 + 1 : Nat) : Int)) .n))) ?_
   exact Vs.intro sy ⟨(v4 + 1),rfl,h⟩
  refine q5 ?_
  exact Vs.intro sy ⟨(),rfl,h⟩
 intro k1 h
 refine sk (.k2 (.i 5 (vi 0) .n)) ?_
 refine q4 ?_
 refine ts (.k2 (.i 5 (vi 0) .n)) ?_
 refine TriE.loopN h (fun (v2 : Nat)=>St.mk [(0,eS 6 eTask a0),(1,eS 1 vt a1),(5,vi v2)] []) rfl ?_
 clear h
 rintro back v2 h
 dsimp only [agrafferef08_CheckSet_L1] at h
 refine q1 ?_
 refine sj ?_
 refine rk 2 (.k3 (.i 7 (vi v2) (.i 8 (eS 1 vt a1) .n))) ?_
 refine jo 9 (.len 0 8) (ok_len_m rfl) ?_
 refine jo 10 (.bin .lss false 7 9) (n_lss (i:=v2) (j:=a1.length) rfl rfl) ?_
 refine jf (.d2 (.k3 (.i 10 (vb (decide (v2 < a1.length))) .n))) ?_
 refine tc h (fun c1 h=>?_) (fun c1 h=>?_)
 ·refine q2 ?_
  refine q7 ?_
  refine sj ?_
  refine rk 3 (.k3 (.i 13 (eS 6 eTask a0) (.i 14 (eS 1 vt a1) (.i 15 (vi v2) .n)))) ?_
  refine jo 16 (.iaddr 1 14 15) (ok_iaddr_m (j:=v2) rfl rfl rfl c1) ?_
  refine jo 17 (.load false 1 16) (ok_load_fm (v:=vt (ix a1 v2)) rfl c1 rfl) ?_
  obtain ⟨y3,hy3,h⟩:=bs h
  refine jc 18 [13,17] (agrafferef08_Find_ok n a0 (ix a1 v2) y3 hy3) ?_
  refine jk 1 (.d3 (.k3 (.i 19 (vb (decide (y3 < (0 : Int)))) .n))) ?_
  refine tc h (fun c2 h=>?_) (fun c2 h=>?_)
  ·refine sk (.i 4 (vi 6) .n) ?_
   refine q3 ?_
   have h:=si h
   subst h
   exact DoneS.ret Sees.refl rfl rfl
  refine q2 ?_
  refine q6 ?_
  refine rk 1 (.k2 (.i 11 (vi v2) .n)) ?_
  obtain ⟨c3,h⟩:=ck h
  refine jo 12 (.bin .add false 11 (ki 1)) (r_addn (i:=v2) (j:=1) rfl rfl c3) ?_
  refine jk 1 (.d (.k2 (.i 5 (vi ((v2 + 1 : Nat) : Int)) .n))) ?_
  exact Vs.intro sy ⟨(v2 + 1),rfl,h⟩
 refine q5 ?_
 exact Vs.intro sy ⟨(),rfl,h⟩
set_option maxHeartbeats 1000000 in
theorem math_bits_Len64_ok (n : Nat) (a0 : Int) (r : Int) (h : math_bits_Len64 n a0 = some r) : FnL Tryz.prog 196 [vk .u64 a0] [] (vi r) [] := by
 dsimp only [math_bits_Len64] at h
 refine fo [2] Tryz.call196 Tryz.func196 rfl ?_
 refine sk (.k (.i 2 (vi 0) .n)) ?_
 refine TriE.seqK h (fun (t : Int × Int)=>match t with | (v1,v2)=>St.mk [(0,vk .u64 v1),(2,vi v2)] []) ?_ ?_
 ·rintro ⟨v1,v2⟩ h
  refine TriE.seqK h (fun (t : Int × Int)=>match t with | (v3,v4)=>St.mk [(0,vk .u64 v3),(2,vi v4)] []) ?_ ?_
  ·rintro ⟨v3,v4⟩ h
   refine TriE.seqK h (fun (t : Int × Int)=>match t with | (v5,v6)=>St.mk [(0,vk .u64 v5),(2,vi v6)] []) ?_ ?_
   ·rintro ⟨v5,v6⟩ h
    refine sj ?_
    refine rk 3 (.i 19 (vi v6) (.i 21 (vk .u8 (IntKind.u8.wrap v5)) .n)) ?_
    obtain ⟨c6,h⟩:=ck h
    refine jo 22 (.sidx (.c (.p (.string ⟨#[0,1,2,2,3,3,3,3,4,4,4,4,4,4,4,4,5,5,5,5,5,5,5,5,5,5,5,5,5,5,5,5,6,6,6,6,6,6,6,6,6,6,6,6,6,6,6,6,6,6,6,6,6,6,6,6,6,6,6,6,6,6,6,6,7,7,7,7,7,7,7,7,7,7,7,7,7,7,7,7,7,7,7,7,7,7,7,7,7,7,7,7,7,7,7,7,7,7,7,7,7,7,7,7,7,7,7,7,7,7,7,7,7,7,7,7,7,7,7,7,7,7,7,7,7,7,7,7,8,8,8,8,8,8,8,8,8,8,8,8,8,8,8,8,8,8,8,8,8,8,8,8,8,8,8,8,8,8,8,8,8,8,8,8,8,8,8,8,8,8,8,8,8,8,8,8,8,8,8,8,8,8,8,8,8,8,8,8,8,8,8,8,8,8,8,8,8,8,8,8,8,8,8,8,8,8,8,8,8,8,8,8,8,8,8,8,8,8,8,8,8,8,8,8,8,8,8,8,8,8,8,8,8,8,8,8,8,8,8,8,8,8,8,8,8,8,8,8,8,8,8,8,8,8,8,8]⟩))) 21) (ok_sidx_t (j:=(IntKind.u8.wrap v5).toNat) rfl rfl (inB_to c6) (inB_lt c6)) ?_
    refine jo 23 (.conv .i64 22) (ok_convb (c:=(List.getD ([0,1,2,2,3,3,3,3,4,4,4,4,4,4,4,4,5,5,5,5,5,5,5,5,5,5,5,5,5,5,5,5,6,6,6,6,6,6,6,6,6,6,6,6,6,6,6,6,6,6,6,6,6,6,6,6,6,6,6,6,6,6,6,6,7,7,7,7,7,7,7,7,7,7,7,7,7,7,7,7,7,7,7,7,7,7,7,7,7,7,7,7,7,7,7,7,7,7,7,7,7,7,7,7,7,7,7,7,7,7,7,7,7,7,7,7,7,7,7,7,7,7,7,7,7,7,7,7,8,8,8,8,8,8,8,8,8,8,8,8,8,8,8,8,8,8,8,8,8,8,8,8,8,8,8,8,8,8,8,8,8,8,8,8,8,8,8,8,8,8,8,8,8,8,8,8,8,8,8,8,8,8,8,8,8,8,8,8,8,8,8,8,8,8,8,8,8,8,8,8,8,8,8,8,8,8,8,8,8,8,8,8,8,8,8,8,8,8,8,8,8,8,8,8,8,8,8,8,8,8,8,8,8,8,8,8,8,8,8,8,8,8,8,8,8,8,8,8,8,8,8,8,8,8,8,8] : Str) ((IntKind.u8.wrap v5).toNat) 0)) rfl) ?_
    obtain ⟨c7,h⟩:=ck h
    refine jo 24 (.bin .add false 19 23) (r_add rfl rfl c7) ?_
    refine jk 1 (.i 2 (vi (v6 + (((List.getD ([0,1,2,2,3,3,3,3,4,4,4,4,4,4,4,4,5,5,5,5,5,5,5,5,5,5,5,5,5,5,5,5,6,6,6,6,6,6,6,6,6,6,6,6,6,6,6,6,6,6,6,6,6,6,6,6,6,6,6,6,6,6,6,6,7,7,7,7,7,7,7,7,7,7,7,7,7,7,7,7,7,7,7,7,7,7,7,7,7,7,7,7,7,7,7,7,7,7,7,7,7,7,7,7,7,7,7,7,7,7,7,7,7,7,7,7,7,7,7,7,7,7,7,7,7,7,7,7,8,8,8,8,8,8,8,8,8,8,8,8,8,8,8,8,8,8,8,8,8,8,8,8,8,8,8,8,8,8,8,8,8,8,8,8,8,8,8,8,8,8,8,8,8,8,8,8,8,8,8,8,8,8,8,8,8,8,8,8,8,8,8,8,8,8,8,8,8,8,8,8,8,8,8,8,8,8,8,8,8,8,8,8,8,8,8,8,8,8,8,8,8,8,8,8,8,8,8,8,8,8,8,8,8,8,8,8,8,8,8,8,8,8,8,8,8,8,8,8,8,8,8,8,8,8,8,8] : Str) ((IntKind.u8.wrap v5).toNat) 0).toNat : Nat) : Int))) .n) ?_
    refine q3 ?_
    have h:=si h
    subst h
    exact DoneS.ret Sees.refl rfl rfl
   intro k3 h
   refine sk (.k2 (.i 14 (vb (decide ((256 : Int) ≤ v3))) .n)) ?_
   refine tc h (fun c4 h=>?_) (fun c4 h=>?_)
   ·refine sk (.d (.k (.i 0 (vk .u64 (Int.fdiv v3 (2 ^ (min 8 64)))) .n))) ?_
    refine q6 ?_
    refine rk 1 (.d (.k (.i 17 (vi v4) .n))) ?_
    obtain ⟨c5,h⟩:=ck h
    refine jo 18 (.bin .add false 17 (ki 8)) (r_add rfl rfl c5) ?_
    refine jk 1 (.d (.k (.i 2 (vi (v4 + 8)) .n))) ?_
    exact Vs.intro Sees.refl ⟨(Int.fdiv v3 (2 ^ (min 8 64)),v4 + 8),rfl,h⟩
   refine q2 ?_
   exact Vs.intro sy ⟨(v3,v4),rfl,h⟩
  intro k2 h
  refine sk (.k2 (.i 8 (vb (decide ((65536 : Int) ≤ v1))) .n)) ?_
  refine tc h (fun c2 h=>?_) (fun c2 h=>?_)
  ·refine sk (.d (.k (.i 0 (vk .u64 (Int.fdiv v1 (2 ^ (min 16 64)))) .n))) ?_
   refine q6 ?_
   refine rk 1 (.d (.k (.i 11 (vi v2) .n))) ?_
   obtain ⟨c3,h⟩:=ck h
   refine jo 12 (.bin .add false 11 (ki 16)) (r_add rfl rfl c3) ?_
   refine jk 1 (.d (.k (.i 2 (vi (v2 + 16)) .n))) ?_
   exact Vs.intro Sees.refl ⟨(Int.fdiv v1 (2 ^ (min 16 64)),v2 + 16),rfl,h⟩
  refine q2 ?_
  exact Vs.intro sy ⟨(v1,v2),rfl,h⟩
 intro k1 h
 refine sk (.k2 (.i 4 (vb (decide ((4294967296 : Int) ≤ a0))) .n)) ?_
 refine tc h (fun c1 h=>?_) (fun c1 h=>?_)
 ·refine sk (.i 0 (vk .u64 (Int.fdiv a0 (2 ^ (min 32 64)))) .n) ?_
  refine tk (.k (.i 2 (vi 32) .n)) ?_
  exact Vs.intro Sees.refl ⟨(Int.fdiv a0 (2 ^ (min 32 64)),32),rfl,h⟩
 refine q2 ?_
 exact Vs.intro sy ⟨(a0,0),rfl,h⟩
theorem math_bits_Len_ok (n : Nat) (a0 : Int) (r : Int) (h : math_bits_Len n a0 = some r) : FnL Tryz.prog 159 [vk .u64 a0] [] (vi r) [] := by
 dsimp only [math_bits_Len] at h
 refine fo [2] Tryz.call159 Tryz.func159 rfl ?_
 refine sk .a ?_
 refine q1 ?_
 refine TriE.cond (b:=false) rfl (fun c1=>?_) (fun c1=>?_)
 ·cases c1
 refine q2 ?_
 refine sj ?_
 refine rk 1 (.i 6 (vk .u64 a0) .n) ?_
 obtain ⟨y1,hy1,h⟩:=bs h
 refine jc 7 [6] (math_bits_Len64_ok n a0 y1 hy1) ?_
 refine jk 1 (.i 2 (vi y1) .n) ?_
 refine q3 ?_
 have h:=si h
 subst h
 exact DoneS.ret Sees.refl rfl rfl
theorem cmp_isNaN_string_ok (n : Nat) (a0 : Str) (r : Unit) (h : cmp_isNaN_string n a0 = some r) : FnL Tryz.prog 179 [vt a0] [] (vb (!(a0 == a0))) [] := by
 dsimp only [cmp_isNaN_string] at h
 refine fo [2] Tryz.call179 Tryz.func179 rfl ?_
 refine sk .a ?_
 refine sk (.i 2 (vb (!(a0 == a0))) .n) ?_
 refine q3 ?_
 have h:=si h
 subst h
 exact DoneS.ret Sees.refl rfl rfl
theorem cmp_Compare_string_ok (n : Nat) (a0 : Str) (a1 : Str) (r : Int) (h : cmp_Compare_string n a0 a1 = some r) : FnL Tryz.prog 137 [vt a0,vt a1] [] (vi r) [] := by
 dsimp only [cmp_Compare_string] at h
 refine fo [4] Tryz.call137 Tryz.func137 rfl ?_
 refine sk .a ?_
 refine sj ?_
 refine rk 1 (.k2 (.i 7 (vt a0) .n)) ?_
 obtain ⟨y1,hy1,h⟩:=bs h
 refine jc 8 [7] (cmp_isNaN_string_ok n a0 y1 hy1) ?_
 refine jk 1 (.d (.k2 (.i 5 (vb (!(a0 == a0))) .n))) ?_
 refine sj ?_
 refine rk 1 (.k3 (.i 9 (vt a1) .n)) ?_
 obtain ⟨y2,hy2,h⟩:=bs h
 refine jc 10 [9] (cmp_isNaN_string_ok n a1 y2 hy2) ?_
 refine jk 1 (.d (.k3 (.i 6 (vb (!(a1 == a1))) .n))) ?_
 refine q1 ?_
 refine sk (.k2 (.d (.k (.i 11 (vb (!(a0 == a0))) .n)))) ?_
 refine tc h (fun c1 h=>?_) (fun c1 h=>?_)
 ·refine q1 ?_
  refine sk (.i 12 (vb (!(a1 == a1))) .n) ?_
  refine tc h (fun c2 h=>?_) (fun c2 h=>?_)
  ·refine sk (.i 4 (vi 0) .n) ?_
   refine q3 ?_
   have h:=si h
   subst h
   exact DoneS.ret Sees.refl rfl rfl
  refine q2 ?_
  refine sk (.i 4 (vi (-1)) .n) ?_
  refine q3 ?_
  have h:=si h
  subst h
  exact DoneS.ret Sees.refl rfl rfl
 refine q2 ?_
 refine q1 ?_
 refine sk (.k2 (.i 13 (vb (!(a1 == a1))) .n)) ?_
 refine tc h (fun c3 h=>?_) (fun c3 h=>?_)
 ·refine sk (.i 4 (vi 1) .n) ?_
  refine q3 ?_
  have h:=si h
  subst h
  exact DoneS.ret Sees.refl rfl rfl
 refine q2 ?_
 refine q1 ?_
 refine sk (.k2 (.i 16 (vb (bLt a0 a1)) .n)) ?_
 refine tc h (fun c4 h=>?_) (fun c4 h=>?_)
 ·refine sk (.i 4 (vi (-1)) .n) ?_
  refine q3 ?_
  have h:=si h
  subst h
  exact DoneS.ret Sees.refl rfl rfl
 refine q2 ?_
 refine q1 ?_
 refine sk (.i 19 (vb (!(bLt a0 a1 || (a0 == a1)))) .n) ?_
 refine tc h (fun c5 h=>?_) (fun c5 h=>?_)
 ·refine sk (.i 4 (vi 1) .n) ?_
  refine q3 ?_
  have h:=si h
  subst h
  exact DoneS.ret Sees.refl rfl rfl
 refine q2 ?_
 refine sk (.i 4 (vi 0) .n) ?_
 refine q3 ?_
 have h:=si h
 subst h
 exact DoneS.ret Sees.refl rfl rfl
theorem q6k (n : Nat) (a0 : PartCount) (a1 : PartCount) (r : Int) (h : q4k n a0 a1 = some r) : FnL Tryz.prog 136 [.agg [vt a0.Part,vi a0.Count],.agg [vt a1.Part,vi a1.Count]] [] (vi r) [] := by
 dsimp only [q4k] at h
 refine fo [4] Tryz.call136 Tryz.func136 rfl ?_
 refine sko (.i 2 (.ptr 0 0 0) (.i 3 (.ptr 1 0 0) .n)) [some (.row 2 [.agg [vt a0.Part,vi a0.Count]]),some (.row 2 [.agg [vt a1.Part,vi a1.Count]])] ?_
 refine sj ?_
 refine rk 4 (.i 6 (vt a0.Part) (.i 8 (vt a1.Part) .n)) ?_
 obtain ⟨y1,hy1,h⟩:=bs h
 refine jc 9 [6,8] (cmp_Compare_string_ok n a0.Part a1.Part y1 hy1) ?_
 refine jk 1 (.i 4 (vi y1) .n) ?_
 refine q3 ?_
 have h:=si h
 subst h
 exact DoneS.ret (S' := ⟨[(4,vi y1)],[]⟩) (sc [] (by decide) (by kernel_rfl) ObRen.nil rfl rfl) rfl rfl
set_option maxHeartbeats 1000000 in
theorem slices_insertionSortCmpFunc_PartCount_ok (n : Nat) (a0 : List PartCount) (a1 : Int) (a2 : Int) (r : (List PartCount)) (h : q13k n a0 a1 a2 = some r) : FnL Tryz.prog 204 [.own 0 0 a0.length,vi a1,vi a2,.fn (.func 136) [] []] [some (.row 2 (List.map ePartCount a0))] (.tup []) [some (.row 2 (List.map ePartCount r))] := by
 dsimp only [q13k] at h
 refine fob [] Tryz.call204 Tryz.func204 rfl (.cons rfl .nil) ?_
 refine sj ?_
 refine rk 1 (.k4 (.i 10 (vi a1) .n)) ?_
 obtain ⟨c1,h⟩:=ck h
 refine jo 11 (.bin .add false 10 (ki 1)) (r_add rfl rfl c1) ?_
 refine jk 1 (.d (.k4 (.i 8 (vi (a1 + 1)) .n))) ?_
 refine q4 ?_
 refine TriE.loopN h (fun (t : Int × (List PartCount))=>match t with | (v6,v7)=>St.mk [(0,.own 0 0 v7.length),(1,vi a1),(2,vi a2),(3,.fn (.func 136) [] []),(8,vi v6)] [some (.row 2 (List.map ePartCount v7))]) rfl ?_
 clear h
 rintro back ⟨v6,v7⟩ h
 dsimp only [q7k] at h
 refine q1 ?_
 refine sk (.k4 (.k (.i 14 (vb (decide (v6 < a2))) .n))) ?_
 refine tc h (fun c2 h=>?_) (fun c2 h=>?_)
 ·refine q2 ?_
  refine TriE.seqK h (fun (v12 : (List PartCount))=>St.mk [(0,.own 0 0 v12.length),(1,vi a1),(2,vi a2),(3,.fn (.func 136) [] []),(8,vi v6)] [some (.row 2 (List.map ePartCount v12))]) ?_ ?_
  ·rintro v12 h
   refine q6 ?_
   refine rk 1 (.k4 (.i 15 (vi v6) .n)) ?_
   obtain ⟨c15,h⟩:=ck h
   refine jo 16 (.bin .add false 15 (ki 1)) (r_add rfl rfl c15) ?_
   refine jk 1 (.d (.k4 (.i 8 (vi (v6 + 1)) .n))) ?_
   exact Vs.intro Sees.refl ⟨(v6 + 1,v12),rfl,h⟩
  intro k1 h
  refine q4 ?_
  refine sk (.k4 (.k (.i 9 (vi v6) .n))) ?_
  refine q4 ?_
  refine TriE.loopN h (fun (t : Int × (List PartCount))=>match t with | (v9,v10)=>St.mk [(0,.own 0 0 v10.length),(1,vi a1),(2,vi a2),(3,.fn (.func 136) [] []),(8,vi v6),(9,vi v9)] [some (.row 2 (List.map ePartCount v10))]) rfl ?_
  clear h
  rintro back ⟨v9,v10⟩ h
  dsimp only [q17k] at h
  refine q1 ?_
  refine q1 ?_
  refine ts .a ?_
  refine TriE.draw (by kernel_rfl) ?_
  refine dk 4 (.i 21 (vb (decide (a1 < v9))) (.i 20 (vb (decide (a1 < v9))) (.i 19 (vi a1) (.i 18 (vi v9) .a)))) ?_
  refine gd (decide (a1 < v9)) (.fn (.func 136) [] []) 22 (.mov 3) 21 true rfl (fun hg=>(.cons rfl .nil)) ?_
  refine gd (decide (a1 < v9)) (.own 0 0 v10.length) 23 (.mov 0) 21 true rfl (fun hg=>(.cons rfl .nil)) ?_
  refine gd (decide (a1 < v9)) (vi v9) 24 (.mov 9) 21 true rfl (fun hg=>(.cons rfl .nil)) ?_
  obtain ⟨c3,h⟩:=ck h
  refine gu (decide (a1 < v9)) 25 (.iaddr 2 23 24) 21 true rfl (fun hg=>(ok_iaddr_o0 (j:=v9.toNat) rfl rfl rfl (inB_to (gor c3 hg)) (inB_lt (gor c3 hg)))) (fun hg=>(.cons hg (.cons hg .nil))) ?_
  obtain ⟨c4,h⟩:=ck h
  refine gu (decide (a1 < v9)) 26 (.load true 2 25) 21 true rfl (fun hg=>(ok_load_pm (l:=v10) (e:=ePartCount) (v:=.agg [vt ((ix v10 v9.toNat).Part),vi ((ix v10 v9.toNat).Count)]) rfl rfl (gor c4 hg) rfl)) (fun hg=>(.cons hg .nil)) ?_
  refine gd (decide (a1 < v9)) (.own 0 0 v10.length) 27 (.mov 0) 21 true rfl (fun hg=>(.cons rfl .nil)) ?_
  refine gd (decide (a1 < v9)) (vi v9) 28 (.mov 9) 21 true rfl (fun hg=>(.cons rfl .nil)) ?_
  obtain ⟨c5,h⟩:=ck h
  refine gu (decide (a1 < v9)) 29 (.bin .sub false 28 (ki 1)) 21 true rfl (fun hg=>(r_sub rfl rfl (gor c5 hg))) (fun hg=>(.cons hg (.cons rfl .nil))) ?_
  obtain ⟨c6,h⟩:=ck h
  refine gu (decide (a1 < v9)) 30 (.iaddr 2 27 29) 21 true rfl (fun hg=>(ok_iaddr_o0 (j:=(v9 - 1).toNat) rfl rfl rfl (inB_to (gor c6 hg)) (inB_lt (gor c6 hg)))) (fun hg=>(.cons hg (.cons hg .nil))) ?_
  obtain ⟨c7,h⟩:=ck h
  refine gu (decide (a1 < v9)) 31 (.load true 2 30) 21 true rfl (fun hg=>(ok_load_pm (l:=v10) (e:=ePartCount) (v:=.agg [vt ((ix v10 ((v9 - 1).toNat)).Part),vi ((ix v10 ((v9 - 1).toNat)).Count)]) rfl rfl (gor c7 hg) rfl)) (fun hg=>(.cons hg .nil)) ?_
  obtain ⟨y11,hy11,h⟩:=bs h
  refine RegD.op (OpD.dyng (g:=decide (a1 < v9)) (y':=vi y11) (obx:=[]) _ _ _ (cy (IG 32 (.dyn 22 [26,31]) 21 true)) rfl rfl (fun hg=>q6k n (ix v10 v9.toNat) (ix v10 ((v9 - 1).toNat)) y11 (gcall_some hy11 hg)) [] (fun hg=>by kernel_rfl) (fun hg=>(.cons hg (.cons hg (.cons hg .nil)))) (by kernel_rfl) (by kernel_rfl) ObsRen.nil (by kernel_rfl) (by kernel_rfl) rfl) ?_
  refine gd (decide (a1 < v9)) (vb (decide (y11 < (0 : Int)))) 33 (.bin .lss false 32 (ki 0)) 21 true rfl (fun hg=>(.cons hg (.cons rfl .nil))) ?_
  refine RegD.op (OpD.and (cy (I0 34 (.pick 21 33 (.c (.p (.bool false)))))) rfl rfl (by first | exact hokA1 | exact hokA0 | simp)) ?_
  refine dfi (.d4 (.d4 (.d4 (.d4 (.d (.k4 (.k2 (.i 34 (vb ((decide (a1 < v9)) && (decide (y11 < (0 : Int))))) .n)))))))) [0] (obRen_row ePartCount_frz rfl .nil) ?_
  refine tc h (fun c8 h=>?_) (fun c8 h=>?_)
  ·refine q2 ?_
   refine q7 ?_
   refine ts (.k4 (.k2 .n)) ?_
   refine TriE.draw (by kernel_rfl) ?_
   refine dk 4 (.i 40 (vi v9) (.i 39 (.own 0 0 v10.length) (.i 38 (vi v9) (.i 37 (.own 0 0 v10.length) .a)))) ?_
   obtain ⟨c9,h⟩:=ck h
   refine dp 41 (.bin .sub false 40 (ki 1)) (r_sub rfl rfl c9) ?_
   refine dk 2 (.i 43 (vi v9) (.i 42 (.own 0 0 v10.length) .a)) ?_
   refine dp 44 (.bin .sub false 43 (ki 1)) (r_sub rfl rfl c9) ?_
   obtain ⟨c10,h⟩:=ck h
   refine dp 45 (.iaddr 2 42 44) (ok_iaddr_o0 (j:=(v9 - 1).toNat) rfl rfl rfl (inB_to c10) (inB_lt c10)) ?_
   obtain ⟨c11,h⟩:=ck h
   refine dp 46 (.load true 2 45) (ok_load_pm (l:=v10) (e:=ePartCount) (v:=.agg [vt ((ix v10 ((v9 - 1).toNat)).Part),vi ((ix v10 ((v9 - 1).toNat)).Count)]) rfl rfl c11 rfl) ?_
   refine dk 2 (.i 48 (vi v9) (.i 47 (.own 0 0 v10.length) .a)) ?_
   obtain ⟨c12,h⟩:=ck h
   refine dp 49 (.iaddr 2 47 48) (ok_iaddr_o0 (j:=v9.toNat) rfl rfl rfl (inB_to c12) (inB_lt c12)) ?_
   obtain ⟨c13,h⟩:=ck h
   refine dp 50 (.load true 2 49) (ok_load_pm (l:=v10) (e:=ePartCount) (v:=.agg [vt ((ix v10 v9.toNat).Part),vi ((ix v10 v9.toNat).Count)]) rfl rfl c13 rfl) ?_
   refine dp 51 (.iaddr 2 37 38) (ok_iaddr_o0 (j:=v9.toNat) rfl rfl rfl (inB_to c12) (inB_lt c12)) ?_
   refine dm (.store 2 51 46) _ (ok_store_m (l:=v10) (e:=ePartCount) (x':=(ix v10 ((v9 - 1).toNat))) (u:=.agg [vt ((ix v10 ((v9 - 1).toNat)).Part),vi ((ix v10 ((v9 - 1).toNat)).Count)]) rfl rfl rfl c13 rfl rfl) rfl rfl ?_
   refine dp 52 (.iaddr 2 39 41) (ok_iaddr_o0 (j:=(v9 - 1).toNat) rfl rfl rfl (inB_to c10) (inB_lt c10)) ?_
   obtain ⟨c14,h⟩:=ck h
   refine dm (.store 2 52 50) _ (ok_store_m (l:=(List.set v10 v9.toNat (ix v10 ((v9 - 1).toNat)))) (e:=ePartCount) (x':=(ix v10 v9.toNat)) (u:=.agg [vt ((ix v10 v9.toNat).Part),vi ((ix v10 v9.toNat).Count)]) rfl rfl rfl c14 rfl rfl) rfl rfl ?_
   refine dfi (.d4 (.d4 (.d4 (.d4 .a)))) [0] (obRen_row ePartCount_frz rfl .nil) ?_
   refine q6 ?_
   refine rk 1 (.k4 (.k (.i 35 (vi v9) .n))) ?_
   refine jo 36 (.bin .sub false 35 (ki 1)) (r_sub rfl rfl c9) ?_
   refine jk 1 (.d (.k4 (.k (.i 9 (vi (v9 - 1)) .n)))) ?_
   exact Vs.intro (Sees.less (.cons (by simp only [List.length_set]; rfl) (.cons rfl (.cons rfl (.cons rfl (.cons rfl (.cons rfl .nil))))))) ⟨(v9 - 1,(List.set (List.set v10 v9.toNat (ix v10 ((v9 - 1).toNat))) ((v9 - 1).toNat) (ix v10 v9.toNat))),rfl,h⟩
  refine q5 ?_
  exact Vs.intro sy ⟨v10,rfl,h⟩
 refine q5 ?_
 have h:=si h
 subst h
 exact dn .n rfl rfl
set_option maxHeartbeats 4000000 in
theorem slices_siftDownCmpFunc_PartCount_ok (n : Nat) (a0 : List PartCount) (a1 : Int) (a2 : Int) (a3 : Int) (r : (List PartCount)) (h : q8k n a0 a1 a2 a3 = some r) : FnL Tryz.prog 221 [.own 0 0 a0.length,vi a1,vi a2,vi a3,.fn (.func 136) [] []] [some (.row 2 (List.map ePartCount a0))] (.tup []) [some (.row 2 (List.map ePartCount r))] := by
 dsimp only [q8k] at h
 refine fob [] Tryz.call221 Tryz.func221 rfl (.cons rfl .nil) ?_
 refine sk (.k (.d (.k3 (.i 10 (vi a1) .n)))) ?_
 refine q4 ?_
 refine TriE.loopN h (fun (t : Int × (List PartCount))=>match t with | (v4,v5)=>St.mk [(0,.own 0 0 v5.length),(2,vi a2),(3,vi a3),(4,.fn (.func 136) [] []),(10,vi v4)] [some (.row 2 (List.map ePartCount v5))]) rfl ?_
 clear h
 rintro back ⟨v4,v5⟩ h
 dsimp only [q16k] at h
 refine q4 ?_
 refine sj ?_
 refine rk 1 (.k4 (.k (.i 13 (vi v4) .n))) ?_
 obtain ⟨c1,h⟩:=ck h
 refine jo 14 (.bin .mul false (ki 2) 13) (r_mul rfl rfl c1) ?_
 obtain ⟨c2,h⟩:=ck h
 refine jo 15 (.bin .add false 14 (ki 1)) (r_add rfl rfl c2) ?_
 refine jk 1 (.d2 (.k4 (.k (.i 11 (vi ((2 * v4) + 1)) .n)))) ?_
 refine q1 ?_
 refine sk (.k4 (.k2 (.i 18 (vb (decide (a2 ≤ ((2 * v4) + 1)))) .n))) ?_
 refine tc h (fun c3 h=>?_) (fun c3 h=>?_)
 ·refine q5 ?_
  have h:=si h
  subst h
  exact dn .n rfl rfl
 refine q2 ?_
 refine TriE.seqK h (fun (v7 : Int)=>St.mk [(0,.own 0 0 v5.length),(2,vi a2),(3,vi a3),(4,.fn (.func 136) [] []),(10,vi v4),(11,vi v7)] [some (.row 2 (List.map ePartCount v5))]) ?_ ?_
 ·rintro v7 h
  refine q1 ?_
  refine q1 ?_
  refine ts .a ?_
  refine TriE.draw (by kernel_rfl) ?_
  refine dk 4 (.i 46 (vi v4) (.i 45 (vi a3) (.i 44 (.own 0 0 v5.length) (.i 43 (.fn (.func 136) [] []) .a)))) ?_
  obtain ⟨c13,h⟩:=ck h
  refine dp 47 (.bin .add false 45 46) (r_add rfl rfl c13) ?_
  obtain ⟨c14,h⟩:=ck h
  refine dp 48 (.iaddr 2 44 47) (ok_iaddr_o0 (j:=(a3 + v4).toNat) rfl rfl rfl (inB_to c14) (inB_lt c14)) ?_
  obtain ⟨c15,h⟩:=ck h
  refine dp 49 (.load true 2 48) (ok_load_pm (l:=v5) (e:=ePartCount) (v:=.agg [vt ((ix v5 ((a3 + v4).toNat)).Part),vi ((ix v5 ((a3 + v4).toNat)).Count)]) rfl rfl c15 rfl) ?_
  refine dk 3 (.i 52 (vi v7) (.i 51 (vi a3) (.i 50 (.own 0 0 v5.length) .a))) ?_
  obtain ⟨c16,h⟩:=ck h
  refine dp 53 (.bin .add false 51 52) (r_add rfl rfl c16) ?_
  obtain ⟨c17,h⟩:=ck h
  refine dp 54 (.iaddr 2 50 53) (ok_iaddr_o0 (j:=(a3 + v7).toNat) rfl rfl rfl (inB_to c17) (inB_lt c17)) ?_
  obtain ⟨c18,h⟩:=ck h
  refine dp 55 (.load true 2 54) (ok_load_pm (l:=v5) (e:=ePartCount) (v:=.agg [vt ((ix v5 ((a3 + v7).toNat)).Part),vi ((ix v5 ((a3 + v7).toNat)).Count)]) rfl rfl c18 rfl) ?_
  obtain ⟨y8,hy8,h⟩:=bs h
  refine RegD.op (OpD.dyn (y':=vi y8) (obx:=[]) (oby:=[]) (ob2:=[some (.row 2 (List.map ePartCount v5)),none,none,none,none,none,none,none,none,none,none,none,none,none,none]) (tch:=[]) 0 _ _ _ (cy (I0 56 (.dyn 43 [49,55]))) rfl (q6k n (ix v5 ((a3 + v4).toNat)) (ix v5 ((a3 + v7).toNat)) y8 hy8) [] (by kernel_rfl) (.cons rfl (.cons rfl (.cons rfl .nil))) (by kernel_rfl) (by kernel_rfl) ObsRen.nil (by kernel_rfl) ObsRen.nil (by kernel_rfl) rfl (.inr ⟨rfl,rfl⟩)) ?_
  refine dk 2 (.i 58 (vb (!(decide (y8 < (0 : Int))))) (.i 57 (vb (decide (y8 < (0 : Int)))) .a)) ?_
  refine dfi (.d4 (.d4 (.d4 (.d4 (.k4 (.k2 (.i 58 (vb (!(decide (y8 < (0 : Int))))) .n))))))) [0] (obRen_row ePartCount_frz rfl .nil) ?_
  refine tc h (fun c19 h=>?_) (fun c19 h=>?_)
  ·refine q3 ?_
   have h:=si h
   subst h
   exact dr .n rfl rfl
  refine q2 ?_
  refine q1 ?_
  refine ts (.k4 (.k2 .n)) ?_
  refine TriE.draw (by kernel_rfl) ?_
  refine dk 3 (.i 61 (vi v4) (.i 60 (vi a3) (.i 59 (.own 0 0 v5.length) .a))) ?_
  refine dp 62 (.bin .add false 60 61) (r_add rfl rfl c13) ?_
  refine dk 3 (.i 65 (vi v7) (.i 64 (vi a3) (.i 63 (.own 0 0 v5.length) .a))) ?_
  refine dp 66 (.bin .add false 64 65) (r_add rfl rfl c16) ?_
  refine dk 3 (.i 69 (vi v7) (.i 68 (vi a3) (.i 67 (.own 0 0 v5.length) .a))) ?_
  refine dp 70 (.bin .add false 68 69) (r_add rfl rfl c16) ?_
  refine dp 71 (.iaddr 2 67 70) (ok_iaddr_o0 (j:=(a3 + v7).toNat) rfl rfl rfl (inB_to c17) (inB_lt c17)) ?_
  refine dp 72 (.load true 2 71) (ok_load_pm (l:=v5) (e:=ePartCount) (v:=.agg [vt ((ix v5 ((a3 + v7).toNat)).Part),vi ((ix v5 ((a3 + v7).toNat)).Count)]) rfl rfl c18 rfl) ?_
  refine dk 3 (.i 75 (vi v4) (.i 74 (vi a3) (.i 73 (.own 0 0 v5.length) .a))) ?_
  refine dp 76 (.bin .add false 74 75) (r_add rfl rfl c13) ?_
  refine dp 77 (.iaddr 2 73 76) (ok_iaddr_o0 (j:=(a3 + v4).toNat) rfl rfl rfl (inB_to c14) (inB_lt c14)) ?_
  refine dp 78 (.load true 2 77) (ok_load_pm (l:=v5) (e:=ePartCount) (v:=.agg [vt ((ix v5 ((a3 + v4).toNat)).Part),vi ((ix v5 ((a3 + v4).toNat)).Count)]) rfl rfl c15 rfl) ?_
  refine dp 79 (.iaddr 2 59 62) (ok_iaddr_o0 (j:=(a3 + v4).toNat) rfl rfl rfl (inB_to c14) (inB_lt c14)) ?_
  refine dm (.store 2 79 72) _ (ok_store_m (l:=v5) (e:=ePartCount) (x':=(ix v5 ((a3 + v7).toNat))) (u:=.agg [vt ((ix v5 ((a3 + v7).toNat)).Part),vi ((ix v5 ((a3 + v7).toNat)).Count)]) rfl rfl rfl c15 rfl rfl) rfl rfl ?_
  refine dp 80 (.iaddr 2 63 66) (ok_iaddr_o0 (j:=(a3 + v7).toNat) rfl rfl rfl (inB_to c17) (inB_lt c17)) ?_
  obtain ⟨c20,h⟩:=ck h
  refine dm (.store 2 80 78) _ (ok_store_m (l:=(List.set v5 ((a3 + v4).toNat) (ix v5 ((a3 + v7).toNat)))) (e:=ePartCount) (x':=(ix v5 ((a3 + v4).toNat))) (u:=.agg [vt ((ix v5 ((a3 + v4).toNat)).Part),vi ((ix v5 ((a3 + v4).toNat)).Count)]) rfl rfl rfl c20 rfl rfl) rfl rfl ?_
  refine dfi (.d4 (.d4 (.d4 (.d4 (.d4 (.d2 (.k4 (.d .a)))))))) [0] (obRen_row ePartCount_frz rfl .nil) ?_
  refine tk (.k4 (.i 10 (vi v7) .n)) ?_
  exact Vs.intro (Sees.less (.cons (by simp only [List.length_set]; rfl) (.cons rfl (.cons rfl (.cons rfl (.cons rfl .nil)))))) ⟨(v7,(List.set (List.set v5 ((a3 + v4).toNat) (ix v5 ((a3 + v7).toNat))) ((a3 + v7).toNat) (ix v5 ((a3 + v4).toNat)))),rfl,h⟩
 intro k1 h
 refine q1 ?_
 refine ts (.k4 (.k2 .n)) ?_
 refine TriE.draw (by kernel_rfl) ?_
 refine dk 1 (.i 19 (vi ((2 * v4) + 1)) .a) ?_
 obtain ⟨c4,h⟩:=ck h
 refine dp 20 (.bin .add false 19 (ki 1)) (r_add rfl rfl c4) ?_
 refine dk 3 (.i 23 (vb (decide ((((2 * v4) + 1) + 1) < a2))) (.i 22 (vb (decide ((((2 * v4) + 1) + 1) < a2))) (.i 21 (vi a2) .a))) ?_
 refine gd (decide ((((2 * v4) + 1) + 1) < a2)) (.fn (.func 136) [] []) 24 (.mov 4) 23 true rfl (fun hg=>(.cons rfl .nil)) ?_
 refine gd (decide ((((2 * v4) + 1) + 1) < a2)) (.own 0 0 v5.length) 25 (.mov 0) 23 true rfl (fun hg=>(.cons rfl .nil)) ?_
 refine gd (decide ((((2 * v4) + 1) + 1) < a2)) (vi a3) 26 (.mov 3) 23 true rfl (fun hg=>(.cons rfl .nil)) ?_
 refine gd (decide ((((2 * v4) + 1) + 1) < a2)) (vi ((2 * v4) + 1)) 27 (.mov 11) 23 true rfl (fun hg=>(.cons rfl .nil)) ?_
 obtain ⟨c5,h⟩:=ck h
 refine gu (decide ((((2 * v4) + 1) + 1) < a2)) 28 (.bin .add false 26 27) 23 true rfl (fun hg=>(r_add rfl rfl (gor c5 hg))) (fun hg=>(.cons hg (.cons hg .nil))) ?_
 obtain ⟨c6,h⟩:=ck h
 refine gu (decide ((((2 * v4) + 1) + 1) < a2)) 29 (.iaddr 2 25 28) 23 true rfl (fun hg=>(ok_iaddr_o0 (j:=(a3 + ((2 * v4) + 1)).toNat) rfl rfl rfl (inB_to (gor c6 hg)) (inB_lt (gor c6 hg)))) (fun hg=>(.cons hg (.cons hg .nil))) ?_
 obtain ⟨c7,h⟩:=ck h
 refine gu (decide ((((2 * v4) + 1) + 1) < a2)) 30 (.load true 2 29) 23 true rfl (fun hg=>(ok_load_pm (l:=v5) (e:=ePartCount) (v:=.agg [vt ((ix v5 ((a3 + ((2 * v4) + 1)).toNat)).Part),vi ((ix v5 ((a3 + ((2 * v4) + 1)).toNat)).Count)]) rfl rfl (gor c7 hg) rfl)) (fun hg=>(.cons hg .nil)) ?_
 refine gd (decide ((((2 * v4) + 1) + 1) < a2)) (.own 0 0 v5.length) 31 (.mov 0) 23 true rfl (fun hg=>(.cons rfl .nil)) ?_
 refine gd (decide ((((2 * v4) + 1) + 1) < a2)) (vi a3) 32 (.mov 3) 23 true rfl (fun hg=>(.cons rfl .nil)) ?_
 refine gd (decide ((((2 * v4) + 1) + 1) < a2)) (vi ((2 * v4) + 1)) 33 (.mov 11) 23 true rfl (fun hg=>(.cons rfl .nil)) ?_
 obtain ⟨c8,h⟩:=ck h
 refine gu (decide ((((2 * v4) + 1) + 1) < a2)) 34 (.bin .add false 32 33) 23 true rfl (fun hg=>(r_add rfl rfl (gor c8 hg))) (fun hg=>(.cons hg (.cons hg .nil))) ?_
 obtain ⟨c9,h⟩:=ck h
 refine gu (decide ((((2 * v4) + 1) + 1) < a2)) 35 (.bin .add false 34 (ki 1)) 23 true rfl (fun hg=>(r_add rfl rfl (gor c9 hg))) (fun hg=>(.cons hg (.cons rfl .nil))) ?_
 obtain ⟨c10,h⟩:=ck h
 refine gu (decide ((((2 * v4) + 1) + 1) < a2)) 36 (.iaddr 2 31 35) 23 true rfl (fun hg=>(ok_iaddr_o0 (j:=((a3 + ((2 * v4) + 1)) + 1).toNat) rfl rfl rfl (inB_to (gor c10 hg)) (inB_lt (gor c10 hg)))) (fun hg=>(.cons hg (.cons hg .nil))) ?_
 obtain ⟨c11,h⟩:=ck h
 refine gu (decide ((((2 * v4) + 1) + 1) < a2)) 37 (.load true 2 36) 23 true rfl (fun hg=>(ok_load_pm (l:=v5) (e:=ePartCount) (v:=.agg [vt ((ix v5 (((a3 + ((2 * v4) + 1)) + 1).toNat)).Part),vi ((ix v5 (((a3 + ((2 * v4) + 1)) + 1).toNat)).Count)]) rfl rfl (gor c11 hg) rfl)) (fun hg=>(.cons hg .nil)) ?_
 obtain ⟨y6,hy6,h⟩:=bs h
 refine RegD.op (OpD.dyng (g:=decide ((((2 * v4) + 1) + 1) < a2)) (y':=vi y6) (obx:=[]) _ _ _ (cy (IG 38 (.dyn 24 [30,37]) 23 true)) rfl rfl (fun hg=>q6k n (ix v5 ((a3 + ((2 * v4) + 1)).toNat)) (ix v5 (((a3 + ((2 * v4) + 1)) + 1).toNat)) y6 (gcall_some hy6 hg)) [] (fun hg=>by kernel_rfl) (fun hg=>(.cons hg (.cons hg (.cons hg .nil)))) (by kernel_rfl) (by kernel_rfl) ObsRen.nil (by kernel_rfl) (by kernel_rfl) rfl) ?_
 refine gd (decide ((((2 * v4) + 1) + 1) < a2)) (vb (decide (y6 < (0 : Int)))) 39 (.bin .lss false 38 (ki 0)) 23 true rfl (fun hg=>(.cons hg (.cons rfl .nil))) ?_
 refine RegD.op (OpD.and (cy (I0 40 (.pick 23 39 (.c (.p (.bool false)))))) rfl rfl (by first | exact hokA1 | exact hokA0 | simp)) ?_
 refine dfi (.d4 (.d4 (.d4 (.d4 (.d4 (.d2 (.k4 (.k2 (.i 40 (vb ((decide ((((2 * v4) + 1) + 1) < a2)) && (decide (y6 < (0 : Int))))) .n))))))))) [0] (obRen_row ePartCount_frz rfl .nil) ?_
 refine tc h (fun c12 h=>?_) (fun c12 h=>?_)
 ·refine q6 ?_
  refine rk 1 (.k4 (.k (.i 41 (vi ((2 * v4) + 1)) .n))) ?_
  refine jo 42 (.bin .add false 41 (ki 1)) (r_add rfl rfl c4) ?_
  refine jk 1 (.d (.k4 (.k (.i 11 (vi (((2 * v4) + 1) + 1)) .n)))) ?_
  exact Vs.intro Sees.refl ⟨(((2 * v4) + 1) + 1),rfl,h⟩
 refine q2 ?_
 exact Vs.intro sy ⟨((2 * v4) + 1),rfl,h⟩
set_option maxHeartbeats 1000000 in
theorem slices_heapSortCmpFunc_PartCount_ok (n : Nat) (a0 : List PartCount) (a1 : Int) (a2 : Int) (r : (List PartCount)) (h : q34k n a0 a1 a2 = some r) : FnL Tryz.prog 205 [.own 0 0 a0.length,vi a1,vi a2,.fn (.func 136) [] []] [some (.row 2 (List.map ePartCount a0))] (.tup []) [some (.row 2 (List.map ePartCount r))] := by
 dsimp only [q34k] at h
 refine fob [] Tryz.call205 Tryz.func205 rfl (.cons rfl .nil) ?_
 refine sk (.k4 (.i 8 (vi a1) .n)) ?_
 refine sk (.k4 (.k (.i 9 (vi 0) .n))) ?_
 refine sj ?_
 refine rk 2 (.k (.d2 (.k3 (.i 14 (vi a2) (.i 15 (vi a1) .n))))) ?_
 obtain ⟨c1,h⟩:=ck h
 refine jo 16 (.bin .sub false 14 15) (r_sub rfl rfl c1) ?_
 refine jk 1 (.d (.k4 (.i 10 (vi (a2 - a1)) .n))) ?_
 refine TriE.seqK h (fun (v5 : (List PartCount))=>St.mk [(0,.own 0 0 v5.length),(3,.fn (.func 136) [] []),(8,vi a1),(9,vi 0),(10,vi (a2 - a1))] [some (.row 2 (List.map ePartCount v5))]) ?_ ?_
 ·rintro v5 h
  refine sj ?_
  refine rk 1 (.k4 (.i 30 (vi (a2 - a1)) .n)) ?_
  obtain ⟨c7,h⟩:=ck h
  refine jo 31 (.bin .sub false 30 (ki 1)) (r_sub rfl rfl c7) ?_
  refine jk 1 (.d (.k4 (.i 12 (vi ((a2 - a1) - 1)) .n))) ?_
  refine q4 ?_
  refine TriE.loopN h (fun (t : Int × (List PartCount))=>match t with | (v7,v8)=>St.mk [(0,.own 0 0 v8.length),(3,.fn (.func 136) [] []),(8,vi a1),(9,vi 0),(12,vi v7)] [some (.row 2 (List.map ePartCount v8))]) rfl ?_
  clear h
  rintro back ⟨v7,v8⟩ h
  dsimp only [q15k] at h
  refine q1 ?_
  refine sk (.k4 (.k (.i 33 (vb (decide ((0 : Int) ≤ v7))) .n))) ?_
  refine tc h (fun c8 h=>?_) (fun c8 h=>?_)
  ·refine q2 ?_
   refine q7 ?_
   refine q1 ?_
   refine ts (.k4 (.k .n)) ?_
   refine TriE.draw (by kernel_rfl) ?_
   refine dk 5 (.i 40 (vi v7) (.i 39 (vi a1) (.i 38 (.own 0 0 v8.length) (.i 37 (vi a1) (.i 36 (.own 0 0 v8.length) .a))))) ?_
   obtain ⟨c9,h⟩:=ck h
   refine dp 41 (.bin .add false 39 40) (r_add rfl rfl c9) ?_
   refine dk 3 (.i 44 (vi v7) (.i 43 (vi a1) (.i 42 (.own 0 0 v8.length) .a))) ?_
   refine dp 45 (.bin .add false 43 44) (r_add rfl rfl c9) ?_
   obtain ⟨c10,h⟩:=ck h
   refine dp 46 (.iaddr 2 42 45) (ok_iaddr_o0 (j:=(a1 + v7).toNat) rfl rfl rfl (inB_to c10) (inB_lt c10)) ?_
   obtain ⟨c11,h⟩:=ck h
   refine dp 47 (.load true 2 46) (ok_load_pm (l:=v8) (e:=ePartCount) (v:=.agg [vt ((ix v8 ((a1 + v7).toNat)).Part),vi ((ix v8 ((a1 + v7).toNat)).Count)]) rfl rfl c11 rfl) ?_
   refine dk 2 (.i 49 (vi a1) (.i 48 (.own 0 0 v8.length) .a)) ?_
   obtain ⟨c12,h⟩:=ck h
   refine dp 50 (.iaddr 2 48 49) (ok_iaddr_o0 (j:=a1.toNat) rfl rfl rfl (inB_to c12) (inB_lt c12)) ?_
   obtain ⟨c13,h⟩:=ck h
   refine dp 51 (.load true 2 50) (ok_load_pm (l:=v8) (e:=ePartCount) (v:=.agg [vt ((ix v8 a1.toNat).Part),vi ((ix v8 a1.toNat).Count)]) rfl rfl c13 rfl) ?_
   refine dp 52 (.iaddr 2 36 37) (ok_iaddr_o0 (j:=a1.toNat) rfl rfl rfl (inB_to c12) (inB_lt c12)) ?_
   refine dm (.store 2 52 47) _ (ok_store_m (l:=v8) (e:=ePartCount) (x':=(ix v8 ((a1 + v7).toNat))) (u:=.agg [vt ((ix v8 ((a1 + v7).toNat)).Part),vi ((ix v8 ((a1 + v7).toNat)).Count)]) rfl rfl rfl c13 rfl rfl) rfl rfl ?_
   refine dp 53 (.iaddr 2 38 41) (ok_iaddr_o0 (j:=(a1 + v7).toNat) rfl rfl rfl (inB_to c10) (inB_lt c10)) ?_
   obtain ⟨c14,h⟩:=ck h
   refine dm (.store 2 53 51) _ (ok_store_m (l:=(List.set v8 a1.toNat (ix v8 ((a1 + v7).toNat)))) (e:=ePartCount) (x':=(ix v8 a1.toNat)) (u:=.agg [vt ((ix v8 a1.toNat).Part),vi ((ix v8 a1.toNat).Count)]) rfl rfl rfl c14 rfl rfl) rfl rfl ?_
   refine dfi (.d4 (.d4 (.d4 (.d4 (.d2 .a))))) [0] (obRen_row ePartCount_frz rfl .nil) ?_
   refine q6 ?_
   refine rk 5 (.k4 (.k (.i 54 (.own 0 0 v8.length) (.i 55 (vi 0) (.i 56 (vi v7) (.i 57 (vi a1) (.i 58 (.fn (.func 136) [] []) .n))))))) ?_
   obtain ⟨y9,hy9,h⟩:=bs h
   refine RegJ.op (Op1.call (y':=.tup []) (obx:=[some (.row 2 (List.map ePartCount (List.set (List.set v8 a1.toNat (ix v8 ((a1 + v7).toNat))) ((a1 + v7).toNat) (ix v8 a1.toNat))))]) (oby:=[some (.row 2 (List.map ePartCount y9))]) (ob2:=[some (.row 2 (List.map ePartCount y9))]) _ _ (cy (I0 59 (.call 221 [54,55,56,57,58]))) rfl (slices_siftDownCmpFunc_PartCount_ok n (List.set (List.set v8 a1.toNat (ix v8 ((a1 + v7).toNat))) ((a1 + v7).toNat) (ix v8 a1.toNat)) 0 v7 a1 y9 hy9) [0] (by simp only [List.length_set]; rfl) (.cons rfl (.cons rfl (.cons rfl (.cons rfl (.cons rfl (.cons rfl .nil)))))) (by kernel_rfl) (by kernel_rfl) (.same (row_ren ePartCount_frz _ _ _) .nil) (by kernel_rfl) (.same (row_ren ePartCount_frz _ _ _) .nil) (by kernel_rfl)) ?_
   obtain ⟨c15,h⟩:=ck h
   refine RegJ.sees (S':=⟨[(0,.own 0 0 y9.length),(3,.fn (.func 136) [] []),(8,vi a1),(9,vi 0),(12,vi v7),(54,.own 0 0 y9.length),(55,vi 0),(56,vi v7),(57,vi a1),(58,.fn (.func 136) [] []),(59,.tup [])],[some (.row 2 (List.map ePartCount y9))]⟩) (Sees.cov (Cov.mk2 (rs:=[0]) (by decide) rfl rfl (.cons (.inl (by rw [show v8.length = y9.length from of_decide_eq_true c15]; rfl)) (.cons (.inl rfl) (.cons (.inl rfl) (.cons (.inl rfl) (.cons (.inl rfl) (.cons (.inl (by rw [show v8.length = y9.length from of_decide_eq_true c15]; rfl)) (.cons (.inl rfl) (.cons (.inl rfl) (.cons (.inl rfl) (.cons (.inl rfl) (.cons (.inl rfl) .nil))))))))))) (obRen_row ePartCount_frz rfl .nil))) ?_
   refine jf (.k4 (.k .n)) ?_
   refine q6 ?_
   refine rk 1 (.k4 (.i 34 (vi v7) .n)) ?_
   obtain ⟨c16,h⟩:=ck h
   refine jo 35 (.bin .sub false 34 (ki 1)) (r_sub rfl rfl c16) ?_
   refine jk 1 (.d (.k4 (.i 12 (vi (v7 - 1)) .n))) ?_
   exact Vs.intro Sees.refl ⟨(v7 - 1,y9),rfl,h⟩
  refine q5 ?_
  have h:=si h
  subst h
  exact dn .n rfl rfl
 intro k1 h
 refine sj ?_
 refine rk 1 (.k4 (.k (.i 17 (vi (a2 - a1)) .n))) ?_
 obtain ⟨c2,h⟩:=ck h
 refine jo 18 (.bin .sub false 17 (ki 1)) (r_sub rfl rfl c2) ?_
 obtain ⟨c3,h⟩:=ck h
 refine jo 19 (.bin .quo false 18 (ki 2)) (r_quo rfl rfl c3) ?_
 refine jk 1 (.d2 (.k4 (.k (.i 11 (vi (Int.tdiv ((a2 - a1) - 1) 2)) .n)))) ?_
 refine q4 ?_
 refine TriE.loopN h (fun (t : Int × (List PartCount))=>match t with | (v2,v3)=>St.mk [(0,.own 0 0 v3.length),(3,.fn (.func 136) [] []),(8,vi a1),(9,vi 0),(10,vi (a2 - a1)),(11,vi v2)] [some (.row 2 (List.map ePartCount v3))]) rfl ?_
 clear h
 rintro back ⟨v2,v3⟩ h
 dsimp only [q38k] at h
 refine q1 ?_
 refine sk (.k4 (.k2 (.i 21 (vb (decide ((0 : Int) ≤ v2))) .n))) ?_
 refine tc h (fun c4 h=>?_) (fun c4 h=>?_)
 ·refine q2 ?_
  refine q7 ?_
  refine q6 ?_
  refine rk 5 (.k4 (.k2 (.i 24 (.own 0 0 v3.length) (.i 25 (vi v2) (.i 26 (vi (a2 - a1)) (.i 27 (vi a1) (.i 28 (.fn (.func 136) [] []) .n))))))) ?_
  obtain ⟨y4,hy4,h⟩:=bs h
  refine jco (.tup []) 29 [24,25,26,27,28] (slices_siftDownCmpFunc_PartCount_ok n v3 v2 (a2 - a1) a1 y4 hy4) [0] rfl (.same (row_ren ePartCount_frz _ _ _) .nil) (.same (row_ren ePartCount_frz _ _ _) .nil) rfl ?_
  obtain ⟨c5,h⟩:=ck h
  refine RegJ.sees (S':=⟨[(0,.own 0 0 y4.length),(3,.fn (.func 136) [] []),(8,vi a1),(9,vi 0),(10,vi (a2 - a1)),(11,vi v2),(24,.own 0 0 y4.length),(25,vi v2),(26,vi (a2 - a1)),(27,vi a1),(28,.fn (.func 136) [] []),(29,.tup [])],[some (.row 2 (List.map ePartCount y4))]⟩) (Sees.cov (Cov.mk2 (rs:=[0]) (by decide) rfl rfl (.cons (.inl (by rw [show v3.length = y4.length from of_decide_eq_true c5]; rfl)) (.cons (.inl rfl) (.cons (.inl rfl) (.cons (.inl rfl) (.cons (.inl rfl) (.cons (.inl rfl) (.cons (.inl (by rw [show v3.length = y4.length from of_decide_eq_true c5]; rfl)) (.cons (.inl rfl) (.cons (.inl rfl) (.cons (.inl rfl) (.cons (.inl rfl) (.cons (.inl rfl) .nil)))))))))))) (obRen_row ePartCount_frz rfl .nil))) ?_
  refine jf (.k4 (.k2 .n)) ?_
  refine q6 ?_
  refine rk 1 (.k4 (.k (.i 22 (vi v2) .n))) ?_
  obtain ⟨c6,h⟩:=ck h
  refine jo 23 (.bin .sub false 22 (ki 1)) (r_sub rfl rfl c6) ?_
  refine jk 1 (.d (.k4 (.k (.i 11 (vi (v2 - 1)) .n)))) ?_
  exact Vs.intro Sees.refl ⟨(v2 - 1,y4),rfl,h⟩
 refine q5 ?_
 exact Vs.intro sy ⟨v3,rfl,h⟩
theorem slices_order2CmpFunc_PartCount_ok (n : Nat) (a0 : List PartCount) (a1 : Int) (a2 : Int) (a3 : Int) (r : Int × Int × Int) (h : q19k n a0 a1 a2 a3 = some r) : FnL Tryz.prog 226 [.own 0 0 a0.length,vi a1,vi a2,.ptr 1 0 0,.fn (.func 136) [] []] [some (.row 2 (List.map ePartCount a0)),some (.row 1 [vi a3])] (.tup [vi r.1,vi r.2.1]) [some (.row 2 (List.map ePartCount a0)),some (.row 1 [vi r.2.2])] := by
 dsimp only [q19k] at h
 refine fob [10,11] Tryz.call226 Tryz.func226 rfl (.cons rfl (.cons rfl .nil)) ?_
 refine sk .a ?_
 refine q1 ?_
 refine q1 ?_
 refine ts .a ?_
 refine TriE.draw (by kernel_rfl) ?_
 refine dk 3 (.i 14 (vi a2) (.i 13 (.own 0 0 a0.length) (.i 12 (.fn (.func 136) [] []) .a))) ?_
 obtain ⟨c1,h⟩:=ck h
 refine dp 15 (.iaddr 2 13 14) (ok_iaddr_o0 (j:=a2.toNat) rfl rfl rfl (inB_to c1) (inB_lt c1)) ?_
 obtain ⟨c2,h⟩:=ck h
 refine dp 16 (.load true 2 15) (ok_load_pm (l:=a0) (e:=ePartCount) (v:=.agg [vt ((ix a0 a2.toNat).Part),vi ((ix a0 a2.toNat).Count)]) rfl rfl c2 rfl) ?_
 refine dk 2 (.i 18 (vi a1) (.i 17 (.own 0 0 a0.length) .a)) ?_
 obtain ⟨c3,h⟩:=ck h
 refine dp 19 (.iaddr 2 17 18) (ok_iaddr_o0 (j:=a1.toNat) rfl rfl rfl (inB_to c3) (inB_lt c3)) ?_
 obtain ⟨c4,h⟩:=ck h
 refine dp 20 (.load true 2 19) (ok_load_pm (l:=a0) (e:=ePartCount) (v:=.agg [vt ((ix a0 a1.toNat).Part),vi ((ix a0 a1.toNat).Count)]) rfl rfl c4 rfl) ?_
 obtain ⟨y1,hy1,h⟩:=bs h
 refine RegD.op (OpD.dyn (y':=vi y1) (obx:=[]) (oby:=[]) (ob2:=[some (.row 2 (List.map ePartCount a0)),some (.row 1 [vi a3]),none,none,none,none,none,none,none,none,none,none]) (tch:=[]) 0 _ _ _ (cy (I0 21 (.dyn 12 [16,20]))) rfl (q6k n (ix a0 a2.toNat) (ix a0 a1.toNat) y1 hy1) [] (by kernel_rfl) (.cons rfl (.cons rfl (.cons rfl .nil))) (by kernel_rfl) (by kernel_rfl) ObsRen.nil (by kernel_rfl) ObsRen.nil (by kernel_rfl) rfl (.inr ⟨rfl,rfl⟩)) ?_
 refine dk 1 (.i 22 (vb (decide (y1 < (0 : Int)))) .a) ?_
 refine dfi (ob':=[some (.row 2 (List.map ePartCount a0)),some (.row 1 [vi a3])]) (.d4 (.d4 (.d4 (.k3 (.i 22 (vb (decide (y1 < (0 : Int)))) .n))))) [0,1] (obRen_row ePartCount_frz rfl (.cons rfl .nil)) ?_
 refine tc h (fun c5 h=>?_) (fun c5 h=>?_)
 ·refine sj ?_
  refine rk 3 (.k2 (.i 23 (.ptr 1 0 0) (.i 25 (vi a3) .n))) ?_
  obtain ⟨c6,h⟩:=ck h
  refine jo 26 (.bin .add false 25 (ki 1)) (r_add rfl rfl c6) ?_
  refine jko 2 (.d (.k2 .n)) [some (.row 2 (List.map ePartCount a0)),some (.row 1 [vi (a3 + 1)])] ?_
  refine sk (.i 10 (vi a2) (.i 11 (vi a1) .n)) ?_
  refine q3 ?_
  have h:=si h
  subst h
  exact DoneS.ret Sees.refl rfl rfl
 refine q2 ?_
 refine sk (.i 10 (vi a1) (.i 11 (vi a2) .n)) ?_
 refine q3 ?_
 have h:=si h
 subst h
 exact DoneS.ret Sees.refl rfl rfl
theorem slices_medianCmpFunc_PartCount_ok (n : Nat) (a0 : List PartCount) (a1 : Int) (a2 : Int) (a3 : Int) (a4 : Int) (r : Int × Int) (h : q30k n a0 a1 a2 a3 a4 = some r) : FnL Tryz.prog 223 [.own 0 0 a0.length,vi a1,vi a2,vi a3,.ptr 1 0 0,.fn (.func 136) [] []] [some (.row 2 (List.map ePartCount a0)),some (.row 1 [vi a4])] (vi r.1) [some (.row 2 (List.map ePartCount a0)),some (.row 1 [vi r.2])] := by
 dsimp only [q30k] at h
 refine fob [12] Tryz.call223 Tryz.func223 rfl (.cons rfl (.cons rfl .nil)) ?_
 refine sk .a ?_
 refine sj ?_
 refine rk 5 (.k (.d2 (.k3 (.i 14 (.own 0 0 a0.length) (.i 15 (vi a1) (.i 16 (vi a2) (.i 17 (.ptr 1 0 0) (.i 18 (.fn (.func 136) [] []) .n)))))))) ?_
 obtain ⟨y1,hy1,h⟩:=bs h
 refine jco (.tup [vi y1.1,vi y1.2.1]) 19 [14,15,16,17,18] (slices_order2CmpFunc_PartCount_ok n a0 a1 a2 a4 y1 hy1) [0,1] rfl (.same (row_ren ePartCount_frz _ _ _) (.cons rfl .nil)) (.same (row_ren ePartCount_frz _ _ _) (.cons rfl .nil)) rfl ?_
 refine jk 5 (.d (.k4 (.i 1 (vi y1.1) (.i 2 (vi y1.2.1) .n)))) ?_
 refine sj ?_
 refine rk 5 (.k (.d (.k3 (.i 23 (.own 0 0 a0.length) (.i 24 (vi y1.2.1) (.i 25 (vi a3) (.i 26 (.ptr 1 0 0) (.i 27 (.fn (.func 136) [] []) .n)))))))) ?_
 obtain ⟨y2,hy2,h⟩:=bs h
 refine jco (.tup [vi y2.1,vi y2.2.1]) 28 [23,24,25,26,27] (slices_order2CmpFunc_PartCount_ok n a0 y1.2.1 a3 y1.2.2 y2 hy2) [0,1] rfl (.same (row_ren ePartCount_frz _ _ _) (.cons rfl .nil)) (.same (row_ren ePartCount_frz _ _ _) (.cons rfl .nil)) rfl ?_
 refine jk 5 (.d (.k4 (.i 2 (vi y2.1) .n))) ?_
 refine sj ?_
 refine rk 5 (.i 32 (.own 0 0 a0.length) (.i 33 (vi y1.1) (.i 34 (vi y2.1) (.i 35 (.ptr 1 0 0) (.i 36 (.fn (.func 136) [] []) .n))))) ?_
 obtain ⟨y3,hy3,h⟩:=bs h
 refine jco (.tup [vi y3.1,vi y3.2.1]) 37 [32,33,34,35,36] (slices_order2CmpFunc_PartCount_ok n a0 y1.1 y2.1 y2.2.2 y3 hy3) [0,1] rfl (.same (row_ren ePartCount_frz _ _ _) (.cons rfl .nil)) (.same (row_ren ePartCount_frz _ _ _) (.cons rfl .nil)) rfl ?_
 refine jk 5 (.i 2 (vi y3.2.1) .n) ?_
 refine sk (.i 12 (vi y3.2.1) .n) ?_
 refine q3 ?_
 have h:=si h
 subst h
 exact DoneS.ret Sees.refl rfl rfl
theorem q44k (n : Nat) (a0 : List PartCount) (a1 : Int) (a2 : Int) (r : Int × Int) (h : q5k n a0 a1 a2 = some r) : FnL Tryz.prog 222 [.own 0 0 a0.length,vi a1,.ptr 1 0 0,.fn (.func 136) [] []] [some (.row 2 (List.map ePartCount a0)),some (.row 1 [vi a2])] (vi r.1) [some (.row 2 (List.map ePartCount a0)),some (.row 1 [vi r.2])] := by
 dsimp only [q5k] at h
 refine fob [8] Tryz.call222 Tryz.func222 rfl (.cons rfl (.cons rfl .nil)) ?_
 refine sk .a ?_
 refine sj ?_
 refine rk 2 (.d (.k3 (.i 9 (.own 0 0 a0.length) (.i 10 (vi a1) .n)))) ?_
 obtain ⟨c1,h⟩:=ck h
 refine jo 11 (.bin .sub false 10 (ki 1)) (r_sub rfl rfl c1) ?_
 refine rk 2 (.d2 (.k3 (.i 11 (vi (a1 - 1)) (.i 12 (vi a1) (.i 13 (vi a1) .n))))) ?_
 obtain ⟨c2,h⟩:=ck h
 refine jo 14 (.bin .add false 13 (ki 1)) (r_add rfl rfl c2) ?_
 refine rk 2 (.d3 (.k3 (.i 14 (vi (a1 + 1)) (.i 15 (.ptr 1 0 0) (.i 16 (.fn (.func 136) [] []) .n))))) ?_
 obtain ⟨y1,hy1,h⟩:=bs h
 refine jco (vi y1.1) 17 [9,11,12,14,15,16] (slices_medianCmpFunc_PartCount_ok n a0 (a1 - 1) a1 (a1 + 1) a2 y1 hy1) [0,1] rfl (.same (row_ren ePartCount_frz _ _ _) (.cons rfl .nil)) (.same (row_ren ePartCount_frz _ _ _) (.cons rfl .nil)) rfl ?_
 refine jk 1 (.i 8 (vi y1.1) .n) ?_
 refine q3 ?_
 have h:=si h
 subst h
 exact DoneS.ret Sees.refl rfl rfl
set_option maxHeartbeats 1000000 in
theorem slices_choosePivotCmpFunc_PartCount_ok (n : Nat) (a0 : List PartCount) (a1 : Int) (a2 : Int) (r : Int × Int) (h : q25k n a0 a1 a2 = some r) : FnL Tryz.prog 207 [.own 0 0 a0.length,vi a1,vi a2,.fn (.func 136) [] []] [some (.row 2 (List.map ePartCount a0))] (.tup [vi r.1,vi r.2]) [some (.row 2 (List.map ePartCount a0))] := by
 dsimp only [q25k] at h
 refine fob [8,9] Tryz.call207 Tryz.func207 rfl (.cons rfl .nil) ?_
 refine sk .a ?_
 refine sj ?_
 refine rk 2 (.k2 (.d (.k (.i 15 (vi a2) (.i 16 (vi a1) .n))))) ?_
 obtain ⟨c1,h⟩:=ck h
 refine jo 17 (.bin .sub false 15 16) (r_sub rfl rfl c1) ?_
 refine jk 1 (.d (.k3 (.i 10 (vi (a2 - a1)) .n))) ?_
 refine sko (.k4 (.i 11 (.ptr 1 0 0) .n)) [some (.row 2 (List.map ePartCount a0)),some (.row 1 [vi 0])] ?_
 refine sj ?_
 refine rk 2 (.k4 (.k (.i 18 (vi a1) (.i 19 (vi (a2 - a1)) .n)))) ?_
 obtain ⟨c2,h⟩:=ck h
 refine jo 20 (.bin .quo false 19 (ki 4)) (r_quo rfl rfl c2) ?_
 obtain ⟨c3,h⟩:=ck h
 refine jo 21 (.bin .mul false 20 (ki 1)) (r_mul rfl rfl c3) ?_
 obtain ⟨c4,h⟩:=ck h
 refine jo 22 (.bin .add false 18 21) (r_add rfl rfl c4) ?_
 refine jk 1 (.d3 (.k4 (.k (.i 12 (vi (a1 + ((Int.tdiv (a2 - a1) 4) * 1))) .n)))) ?_
 refine sj ?_
 refine rk 2 (.k4 (.k2 (.i 23 (vi a1) (.i 24 (vi (a2 - a1)) .n)))) ?_
 refine jo 25 (.bin .quo false 24 (ki 4)) (r_quo rfl rfl c2) ?_
 obtain ⟨c5,h⟩:=ck h
 refine jo 26 (.bin .mul false 25 (ki 2)) (r_mul rfl rfl c5) ?_
 obtain ⟨c6,h⟩:=ck h
 refine jo 27 (.bin .add false 23 26) (r_add rfl rfl c6) ?_
 refine jk 1 (.d3 (.k4 (.k2 (.i 13 (vi (a1 + ((Int.tdiv (a2 - a1) 4) * 2))) .n)))) ?_
 refine sj ?_
 refine rk 2 (.k (.d (.k4 (.k (.i 28 (vi a1) (.i 29 (vi (a2 - a1)) .n)))))) ?_
 refine jo 30 (.bin .quo false 29 (ki 4)) (r_quo rfl rfl c2) ?_
 obtain ⟨c7,h⟩:=ck h
 refine jo 31 (.bin .mul false 30 (ki 3)) (r_mul rfl rfl c7) ?_
 obtain ⟨c8,h⟩:=ck h
 refine jo 32 (.bin .add false 28 31) (r_add rfl rfl c8) ?_
 refine jk 1 (.d3 (.k4 (.k2 (.i 14 (vi (a1 + ((Int.tdiv (a2 - a1) 4) * 3))) .n)))) ?_
 refine TriE.seqK h (fun (t : Int × Int)=>match t with | (v9,v10)=>St.mk [(11,.ptr 1 0 0),(13,vi v9)] [some (.row 2 (List.map ePartCount a0)),some (.row 1 [vi v10])]) ?_ ?_
 ·rintro ⟨v9,v10⟩ h
  refine sk (.d (.k (.i 55 (vi v10) .n))) ?_
  refine q4 ?_
  refine sk (.k2 (.i 57 (vb (v10 == (0 : Int))) .n)) ?_
  refine tc h (fun c11 h=>?_) (fun c11 h=>?_)
  ·refine sk (.i 8 (vi v9) (.i 9 (vi 1) .n)) ?_
   refine q3 ?_
   have h:=si h
   subst h
   exact DoneS.ret (S' := ⟨[(8,vi v9),(9,vi 1)],[some (.row 2 (List.map ePartCount a0))]⟩) (sc [0] (by decide) (by kernel_rfl) (obRen_row ePartCount_frz rfl .nil) rfl rfl) rfl rfl
  refine sk (.k (.i 60 (vb (v10 == (12 : Int))) .n)) ?_
  refine tc h (fun c12 h=>?_) (fun c12 h=>?_)
  ·refine sk (.i 8 (vi v9) (.i 9 (vi 2) .n)) ?_
   refine q3 ?_
   have h:=si h
   subst h
   exact DoneS.ret (S' := ⟨[(8,vi v9),(9,vi 2)],[some (.row 2 (List.map ePartCount a0))]⟩) (sc [0] (by decide) (by kernel_rfl) (obRen_row ePartCount_frz rfl .nil) rfl rfl) rfl rfl
  refine sk (.i 8 (vi v9) (.i 9 (vi 0) .n)) ?_
  refine q3 ?_
  have h:=si h
  subst h
  exact DoneS.ret (S' := ⟨[(8,vi v9),(9,vi 0)],[some (.row 2 (List.map ePartCount a0))]⟩) (sc [0] (by decide) (by kernel_rfl) (obRen_row ePartCount_frz rfl .nil) rfl rfl) rfl rfl
 intro k2 h
 refine sk (.k4 (.k3 (.i 34 (vb (decide ((8 : Int) ≤ (a2 - a1)))) .n))) ?_
 refine tc h (fun c9 h=>?_) (fun c9 h=>?_)
 ·refine TriE.seqK h (fun (t : Int × Int × Int × Int) => match t with | (v4,v5,v6,v7) => St.mk [(0,.own 0 0 a0.length),(3,.fn (.func 136) [] []),(11,.ptr 1 0 0),(12,vi v4),(13,vi v5),(14,vi v6)] [some (.row 2 (List.map ePartCount a0)),some (.row 1 [vi v7])]) ?_ ?_
  ·rintro ⟨v4,v5,v6,v7⟩ h
   refine q6 ?_
   refine rk 5 (.d2 (.k (.i 49 (.own 0 0 a0.length) (.i 50 (vi v4) (.i 51 (vi v5) (.i 52 (vi v6) (.i 53 (.fn (.func 136) [] []) .n))))))) ?_
   obtain ⟨y8,hy8,h⟩:=bs h
   refine jco (vi y8.1) 54 [49,50,51,52,11,53] (slices_medianCmpFunc_PartCount_ok n a0 v4 v5 v6 v7 y8 hy8) [0,1] rfl (.same (row_ren ePartCount_frz _ _ _) (.cons rfl .nil)) (.same (row_ren ePartCount_frz _ _ _) (.cons rfl .nil)) rfl ?_
   refine jk 1 (.d (.k (.i 13 (vi y8.1) .n))) ?_
   exact Vs.intro Sees.refl ⟨(y8.1,y8.2),rfl,h⟩
  intro k1 h
  refine sk (.k2 (.d (.k4 (.i 36 (vb (decide ((50 : Int) ≤ (a2 - a1)))) .n)))) ?_
  refine tc h (fun c10 h=>?_) (fun c10 h=>?_)
  ·refine sj ?_
   refine rk 3 (.k3 (.d (.k2 (.i 37 (.own 0 0 a0.length) (.i 38 (vi (a1 + ((Int.tdiv (a2 - a1) 4) * 1))) (.i 39 (.fn (.func 136) [] []) .n)))))) ?_
   obtain ⟨y1,hy1,h⟩:=bs h
   refine jco (vi y1.1) 40 [37,38,11,39] (q44k n a0 (a1 + ((Int.tdiv (a2 - a1) 4) * 1)) 0 y1 hy1) [0,1] rfl (.same (row_ren ePartCount_frz _ _ _) (.cons rfl .nil)) (.same (row_ren ePartCount_frz _ _ _) (.cons rfl .nil)) rfl ?_
   refine jk 1 (.d (.k4 (.k (.i 12 (vi y1.1) .n)))) ?_
   refine sj ?_
   refine rk 3 (.k3 (.d (.k2 (.i 41 (.own 0 0 a0.length) (.i 42 (vi (a1 + ((Int.tdiv (a2 - a1) 4) * 2))) (.i 43 (.fn (.func 136) [] []) .n)))))) ?_
   obtain ⟨y2,hy2,h⟩:=bs h
   refine jco (vi y2.1) 44 [41,42,11,43] (q44k n a0 (a1 + ((Int.tdiv (a2 - a1) 4) * 2)) y1.2 y2 hy2) [0,1] rfl (.same (row_ren ePartCount_frz _ _ _) (.cons rfl .nil)) (.same (row_ren ePartCount_frz _ _ _) (.cons rfl .nil)) rfl ?_
   refine jk 1 (.d (.k4 (.k (.i 13 (vi y2.1) .n)))) ?_
   refine q6 ?_
   refine rk 3 (.k3 (.d (.k2 (.i 45 (.own 0 0 a0.length) (.i 46 (vi (a1 + ((Int.tdiv (a2 - a1) 4) * 3))) (.i 47 (.fn (.func 136) [] []) .n)))))) ?_
   obtain ⟨y3,hy3,h⟩:=bs h
   refine jco (vi y3.1) 48 [45,46,11,47] (q44k n a0 (a1 + ((Int.tdiv (a2 - a1) 4) * 3)) y2.2 y3 hy3) [0,1] rfl (.same (row_ren ePartCount_frz _ _ _) (.cons rfl .nil)) (.same (row_ren ePartCount_frz _ _ _) (.cons rfl .nil)) rfl ?_
   refine jk 1 (.d (.k4 (.k (.i 14 (vi y3.1) .n)))) ?_
   exact Vs.intro Sees.refl ⟨(y1.1,y2.1,y3.1,y3.2),rfl,h⟩
  refine q2 ?_
  exact Vs.intro sy ⟨(a1 + ((Int.tdiv (a2 - a1) 4) * 1),a1 + ((Int.tdiv (a2 - a1) 4) * 2),a1 + ((Int.tdiv (a2 - a1) 4) * 3),0),rfl,h⟩
 refine q2 ?_
 exact Vs.intro sy ⟨(a1 + ((Int.tdiv (a2 - a1) 4) * 2),0),rfl,h⟩
theorem slices_reverseRangeCmpFunc_PartCount_ok (n : Nat) (a0 : List PartCount) (a1 : Int) (a2 : Int) (r : (List PartCount)) (h : q24k n a0 a1 a2 = some r) : FnL Tryz.prog 208 [.own 0 0 a0.length,vi a1,vi a2,.fn (.func 136) [] []] [some (.row 2 (List.map ePartCount a0))] (.tup []) [some (.row 2 (List.map ePartCount r))] := by
 dsimp only [q24k] at h
 refine fob [] Tryz.call208 Tryz.func208 rfl (.cons rfl .nil) ?_
 refine sk (.k (.d (.k (.i 8 (vi a1) .n)))) ?_
 refine sj ?_
 refine rk 1 (.k (.d (.k (.i 11 (vi a2) .n)))) ?_
 obtain ⟨c1,h⟩:=ck h
 refine jo 12 (.bin .sub false 11 (ki 1)) (r_sub rfl rfl c1) ?_
 refine jk 1 (.d (.k2 (.i 9 (vi (a2 - 1)) .n))) ?_
 refine q4 ?_
 refine TriE.loopN h (fun (t : Int × Int × (List PartCount))=>match t with | (v1,v2,v3)=>St.mk [(0,.own 0 0 v3.length),(8,vi v1),(9,vi v2)] [some (.row 2 (List.map ePartCount v3))]) rfl ?_
 clear h
 rintro back ⟨v1,v2,v3⟩ h
 dsimp only [q32k] at h
 refine q1 ?_
 refine sk (.k3 (.i 15 (vb (decide (v1 < v2))) .n)) ?_
 refine tc h (fun c2 h=>?_) (fun c2 h=>?_)
 ·refine q2 ?_
  refine q4 ?_
  refine q1 ?_
  refine ts (.k3 .n) ?_
  refine TriE.draw (by kernel_rfl) ?_
  refine dk 6 (.i 21 (vi v2) (.i 20 (.own 0 0 v3.length) (.i 19 (vi v2) (.i 18 (.own 0 0 v3.length) (.i 17 (vi v1) (.i 16 (.own 0 0 v3.length) .a)))))) ?_
  obtain ⟨c3,h⟩:=ck h
  refine dp 22 (.iaddr 2 20 21) (ok_iaddr_o0 (j:=v2.toNat) rfl rfl rfl (inB_to c3) (inB_lt c3)) ?_
  obtain ⟨c4,h⟩:=ck h
  refine dp 23 (.load true 2 22) (ok_load_pm (l:=v3) (e:=ePartCount) (v:=.agg [vt ((ix v3 v2.toNat).Part),vi ((ix v3 v2.toNat).Count)]) rfl rfl c4 rfl) ?_
  refine dk 2 (.i 25 (vi v1) (.i 24 (.own 0 0 v3.length) .a)) ?_
  obtain ⟨c5,h⟩:=ck h
  refine dp 26 (.iaddr 2 24 25) (ok_iaddr_o0 (j:=v1.toNat) rfl rfl rfl (inB_to c5) (inB_lt c5)) ?_
  obtain ⟨c6,h⟩:=ck h
  refine dp 27 (.load true 2 26) (ok_load_pm (l:=v3) (e:=ePartCount) (v:=.agg [vt ((ix v3 v1.toNat).Part),vi ((ix v3 v1.toNat).Count)]) rfl rfl c6 rfl) ?_
  refine dp 28 (.iaddr 2 16 17) (ok_iaddr_o0 (j:=v1.toNat) rfl rfl rfl (inB_to c5) (inB_lt c5)) ?_
  refine dm (.store 2 28 23) _ (ok_store_m (l:=v3) (e:=ePartCount) (x':=(ix v3 v2.toNat)) (u:=.agg [vt ((ix v3 v2.toNat).Part),vi ((ix v3 v2.toNat).Count)]) rfl rfl rfl c6 rfl rfl) rfl rfl ?_
  refine dp 29 (.iaddr 2 18 19) (ok_iaddr_o0 (j:=v2.toNat) rfl rfl rfl (inB_to c3) (inB_lt c3)) ?_
  obtain ⟨c7,h⟩:=ck h
  refine dm (.store 2 29 27) _ (ok_store_m (l:=(List.set v3 v1.toNat (ix v3 v2.toNat))) (e:=ePartCount) (x':=(ix v3 v1.toNat)) (u:=.agg [vt ((ix v3 v1.toNat).Part),vi ((ix v3 v1.toNat).Count)]) rfl rfl rfl c7 rfl rfl) rfl rfl ?_
  refine dfi (.d4 (.d4 (.d4 (.d2 .a)))) [0] (obRen_row ePartCount_frz rfl .nil) ?_
  refine sj ?_
  refine rk 1 (.k (.d (.k (.i 30 (vi v1) .n)))) ?_
  obtain ⟨c8,h⟩:=ck h
  refine jo 31 (.bin .add false 30 (ki 1)) (r_add rfl rfl c8) ?_
  refine jk 1 (.d (.k2 (.i 8 (vi (v1 + 1)) .n))) ?_
  refine q6 ?_
  refine rk 1 (.k (.d (.k (.i 32 (vi v2) .n)))) ?_
  obtain ⟨c9,h⟩:=ck h
  refine jo 33 (.bin .sub false 32 (ki 1)) (r_sub rfl rfl c9) ?_
  refine jk 1 (.d (.k2 (.i 9 (vi (v2 - 1)) .n))) ?_
  exact Vs.intro (Sees.less (.cons (by simp only [List.length_set]; rfl) (.cons rfl (.cons rfl .nil)))) ⟨(v1 + 1,v2 - 1,(List.set (List.set v3 v1.toNat (ix v3 v2.toNat)) v2.toNat (ix v3 v1.toNat))),rfl,h⟩
 refine q5 ?_
 have h:=si h
 subst h
 exact dn .n rfl rfl
set_option maxHeartbeats 1000000 in
theorem slices_partialInsertionSortCmpFunc_PartCount_ok (n : Nat) (a0 : List PartCount) (a1 : Int) (a2 : Int) (r : (List PartCount) × Bool) (h : q9k n a0 a1 a2 = some r) : FnL Tryz.prog 209 [.own 0 0 a0.length,vi a1,vi a2,.fn (.func 136) [] []] [some (.row 2 (List.map ePartCount a0))] (vb r.2) [some (.row 2 (List.map ePartCount r.1))] := by
 dsimp only [q9k] at h
 refine fob [8] Tryz.call209 Tryz.func209 rfl (.cons rfl .nil) ?_
 refine sk .a ?_
 refine sj ?_
 refine rk 1 (.k4 (.i 13 (vi a1) .n)) ?_
 obtain ⟨c1,h⟩:=ck h
 refine jo 14 (.bin .add false 13 (ki 1)) (r_add rfl rfl c1) ?_
 refine jk 1 (.d (.k4 (.i 9 (vi (a1 + 1)) .n))) ?_
 refine TriE.seqK h (fun (v34 : (List PartCount))=>St.mk [] [some (.row 2 (List.map ePartCount v34))]) ?_ ?_
 ·rintro v34 h
  refine sk (.i 8 (vb false) .n) ?_
  refine q3 ?_
  have h:=si h
  subst h
  exact DoneS.ret Sees.refl rfl rfl
 intro k4 h
 refine sk (.k4 (.k (.i 10 (vi 0) .n))) ?_
 refine q4 ?_
 refine ts (.k4 (.k (.i 10 (vi 0) .n))) ?_
 refine TriE.loopN h (fun (t : Int × Nat × (List PartCount))=>match t with | (v16,v17,v18)=>St.mk [(0,.own 0 0 v18.length),(1,vi a1),(2,vi a2),(3,.fn (.func 136) [] []),(9,vi v16),(10,vi v17)] [some (.row 2 (List.map ePartCount v18))]) rfl ?_
 clear h
 rintro back ⟨v16,v17,v18⟩ h
 dsimp only [q0k] at h
 refine q1 ?_
 refine sj ?_
 refine rk 1 (.k4 (.k2 (.i 15 (vi v17) .n))) ?_
 refine jo 16 (.bin .lss false 15 (ki 5)) (n_lss (i:=v17) (j:=5) rfl rfl) ?_
 refine jf (.d (.k4 (.k2 (.i 16 (vb (decide (v17 < 5))) .n)))) ?_
 refine tc h (fun c2 h=>?_) (fun c2 h=>?_)
 ·refine q2 ?_
  refine TriE.seqK h (fun (t : Int × (List PartCount))=>match t with | (v32,v33)=>St.mk [(0,.own 0 0 v33.length),(1,vi a1),(2,vi a2),(3,.fn (.func 136) [] []),(9,vi v32),(10,vi v17)] [some (.row 2 (List.map ePartCount v33))]) ?_ ?_
  ·rintro ⟨v32,v33⟩ h
   refine q6 ?_
   refine rk 1 (.k4 (.k (.i 17 (vi v17) .n))) ?_
   obtain ⟨c41,h⟩:=ck h
   refine jo 18 (.bin .add false 17 (ki 1)) (r_addn (i:=v17) (j:=1) rfl rfl c41) ?_
   refine jk 1 (.d (.k4 (.k (.i 10 (vi ((v17 + 1 : Nat) : Int)) .n)))) ?_
   exact Vs.intro sy ⟨(v32,v17 + 1,v33),rfl,h⟩
  intro k3 h
  refine q4 ?_
  refine TriE.seqK h (fun (v22 : Int)=>St.mk [(0,.own 0 0 v18.length),(1,vi a1),(2,vi a2),(3,.fn (.func 136) [] []),(9,vi v22),(10,vi v17)] [some (.row 2 (List.map ePartCount v18))]) ?_ ?_
  ·rintro v22 h
   refine q1 ?_
   refine sk (.k4 (.k2 (.i 41 (vb (v22 == a2)) .n))) ?_
   refine tc h (fun c10 h=>?_) (fun c10 h=>?_)
   ·refine sk (.i 8 (vb true) .n) ?_
    refine q3 ?_
    have h:=si h
    subst h
    exact DoneS.ret Sees.refl rfl rfl
   refine q2 ?_
   refine q1 ?_
   refine sj ?_
   refine rk 2 (.k4 (.k2 (.i 42 (vi a2) (.i 43 (vi a1) .n)))) ?_
   obtain ⟨c11,h⟩:=ck h
   refine jo 44 (.bin .sub false 42 43) (r_sub rfl rfl c11) ?_
   refine jk 1 (.d (.k4 (.k2 (.i 45 (vb (decide ((a2 - a1) < (50 : Int)))) .n)))) ?_
   refine tc h (fun c12 h=>?_) (fun c12 h=>?_)
   ·refine sk (.i 8 (vb false) .n) ?_
    refine q3 ?_
    have h:=si h
    subst h
    exact DoneS.ret Sees.refl rfl rfl
   refine q2 ?_
   refine q1 ?_
   refine ts (.k4 (.k2 .n)) ?_
   refine TriE.draw (by kernel_rfl) ?_
   refine dk 4 (.i 49 (vi v22) (.i 48 (.own 0 0 v18.length) (.i 47 (vi v22) (.i 46 (.own 0 0 v18.length) .a)))) ?_
   obtain ⟨c13,h⟩:=ck h
   refine dp 50 (.bin .sub false 49 (ki 1)) (r_sub rfl rfl c13) ?_
   refine dk 2 (.i 52 (vi v22) (.i 51 (.own 0 0 v18.length) .a)) ?_
   refine dp 53 (.bin .sub false 52 (ki 1)) (r_sub rfl rfl c13) ?_
   obtain ⟨c14,h⟩:=ck h
   refine dp 54 (.iaddr 2 51 53) (ok_iaddr_o0 (j:=(v22 - 1).toNat) rfl rfl rfl (inB_to c14) (inB_lt c14)) ?_
   obtain ⟨c15,h⟩:=ck h
   refine dp 55 (.load true 2 54) (ok_load_pm (l:=v18) (e:=ePartCount) (v:=.agg [vt ((ix v18 ((v22 - 1).toNat)).Part),vi ((ix v18 ((v22 - 1).toNat)).Count)]) rfl rfl c15 rfl) ?_
   refine dk 2 (.i 57 (vi v22) (.i 56 (.own 0 0 v18.length) .a)) ?_
   obtain ⟨c16,h⟩:=ck h
   refine dp 58 (.iaddr 2 56 57) (ok_iaddr_o0 (j:=v22.toNat) rfl rfl rfl (inB_to c16) (inB_lt c16)) ?_
   obtain ⟨c17,h⟩:=ck h
   refine dp 59 (.load true 2 58) (ok_load_pm (l:=v18) (e:=ePartCount) (v:=.agg [vt ((ix v18 v22.toNat).Part),vi ((ix v18 v22.toNat).Count)]) rfl rfl c17 rfl) ?_
   refine dp 60 (.iaddr 2 46 47) (ok_iaddr_o0 (j:=v22.toNat) rfl rfl rfl (inB_to c16) (inB_lt c16)) ?_
   refine dm (.store 2 60 55) _ (ok_store_m (l:=v18) (e:=ePartCount) (x':=(ix v18 ((v22 - 1).toNat))) (u:=.agg [vt ((ix v18 ((v22 - 1).toNat)).Part),vi ((ix v18 ((v22 - 1).toNat)).Count)]) rfl rfl rfl c17 rfl rfl) rfl rfl ?_
   refine dp 61 (.iaddr 2 48 50) (ok_iaddr_o0 (j:=(v22 - 1).toNat) rfl rfl rfl (inB_to c14) (inB_lt c14)) ?_
   obtain ⟨c18,h⟩:=ck h
   refine dm (.store 2 61 59) _ (ok_store_m (l:=(List.set v18 v22.toNat (ix v18 ((v22 - 1).toNat)))) (e:=ePartCount) (x':=(ix v18 v22.toNat)) (u:=.agg [vt ((ix v18 v22.toNat).Part),vi ((ix v18 v22.toNat).Count)]) rfl rfl rfl c18 rfl rfl) rfl rfl ?_
   refine dfi (.d4 (.d4 (.d4 (.d4 .a)))) [0] (obRen_row ePartCount_frz rfl .nil) ?_
   refine TriE.seqK h (fun (v27 : (List PartCount))=>St.mk [(0,.own 0 0 v27.length),(1,vi a1),(2,vi a2),(3,.fn (.func 136) [] []),(9,vi v22),(10,vi v17)] [some (.row 2 (List.map ePartCount v27))]) ?_ ?_
   ·rintro v27 h
    refine sj ?_
    refine rk 2 (.k4 (.k2 (.i 101 (vi a2) (.i 102 (vi v22) .n)))) ?_
    obtain ⟨c29,h⟩:=ck h
    refine jo 103 (.bin .sub false 101 102) (r_sub rfl rfl c29) ?_
    refine jk 1 (.d (.k4 (.k2 (.i 104 (vb (decide ((2 : Int) ≤ (a2 - v22)))) .n)))) ?_
    refine tc h (fun c30 h=>?_) (fun c30 h=>?_)
    ·refine sj ?_
     refine rk 1 (.k4 (.k2 (.i 105 (vi v22) .n))) ?_
     obtain ⟨c31,h⟩:=ck h
     refine jo 106 (.bin .add false 105 (ki 1)) (r_add rfl rfl c31) ?_
     refine jk 1 (.d (.k4 (.k2 (.i 12 (vi (v22 + 1)) .n)))) ?_
     refine q4 ?_
     refine TriE.loopN h (fun (t : Int × (List PartCount))=>match t with | (v29,v30)=>St.mk [(0,.own 0 0 v30.length),(1,vi a1),(2,vi a2),(3,.fn (.func 136) [] []),(9,vi v22),(10,vi v17),(12,vi v29)] [some (.row 2 (List.map ePartCount v30))]) rfl ?_
     clear h
     rintro back ⟨v29,v30⟩ h
     dsimp only [q2k] at h
     refine q1 ?_
     refine sk (.k4 (.k3 (.i 109 (vb (decide (v29 < a2))) .n))) ?_
     refine tc h (fun c32 h=>?_) (fun c32 h=>?_)
     ·refine q2 ?_
      refine q7 ?_
      refine q1 ?_
      refine q1 ?_
      refine ts (.k4 (.k3 .n)) ?_
      refine TriE.draw (by kernel_rfl) ?_
      refine dk 3 (.i 114 (vi v29) (.i 113 (.own 0 0 v30.length) (.i 112 (.fn (.func 136) [] []) .a))) ?_
      obtain ⟨c33,h⟩:=ck h
      refine dp 115 (.iaddr 2 113 114) (ok_iaddr_o0 (j:=v29.toNat) rfl rfl rfl (inB_to c33) (inB_lt c33)) ?_
      obtain ⟨c34,h⟩:=ck h
      refine dp 116 (.load true 2 115) (ok_load_pm (l:=v30) (e:=ePartCount) (v:=.agg [vt ((ix v30 v29.toNat).Part),vi ((ix v30 v29.toNat).Count)]) rfl rfl c34 rfl) ?_
      refine dk 2 (.i 118 (vi v29) (.i 117 (.own 0 0 v30.length) .a)) ?_
      obtain ⟨c35,h⟩:=ck h
      refine dp 119 (.bin .sub false 118 (ki 1)) (r_sub rfl rfl c35) ?_
      obtain ⟨c36,h⟩:=ck h
      refine dp 120 (.iaddr 2 117 119) (ok_iaddr_o0 (j:=(v29 - 1).toNat) rfl rfl rfl (inB_to c36) (inB_lt c36)) ?_
      obtain ⟨c37,h⟩:=ck h
      refine dp 121 (.load true 2 120) (ok_load_pm (l:=v30) (e:=ePartCount) (v:=.agg [vt ((ix v30 ((v29 - 1).toNat)).Part),vi ((ix v30 ((v29 - 1).toNat)).Count)]) rfl rfl c37 rfl) ?_
      obtain ⟨y31,hy31,h⟩:=bs h
      refine RegD.op (OpD.dyn (y':=vi y31) (obx:=[]) (oby:=[]) (ob2:=[some (.row 2 (List.map ePartCount v30)),none,none,none,none,none,none,none,none,none,none,none]) (tch:=[]) 0 _ _ _ (cy (I0 122 (.dyn 112 [116,121]))) rfl (q6k n (ix v30 v29.toNat) (ix v30 ((v29 - 1).toNat)) y31 hy31) [] (by kernel_rfl) (.cons rfl (.cons rfl (.cons rfl .nil))) (by kernel_rfl) (by kernel_rfl) ObsRen.nil (by kernel_rfl) ObsRen.nil (by kernel_rfl) rfl (.inr ⟨rfl,rfl⟩)) ?_
      refine dk 2 (.i 124 (vb (!(decide (y31 < (0 : Int))))) (.i 123 (vb (decide (y31 < (0 : Int)))) .a)) ?_
      refine dfi (.d4 (.d4 (.d4 (.d (.k4 (.k3 (.i 124 (vb (!(decide (y31 < (0 : Int))))) .n))))))) [0] (obRen_row ePartCount_frz rfl .nil) ?_
      refine tc h (fun c38 h=>?_) (fun c38 h=>?_)
      ·refine q5 ?_
       exact Vs.intro sy ⟨(v22,v30),rfl,h⟩
      refine q2 ?_
      refine ts (.k4 (.k3 .n)) ?_
      refine TriE.draw (by kernel_rfl) ?_
      refine dk 4 (.i 128 (vi v29) (.i 127 (.own 0 0 v30.length) (.i 126 (vi v29) (.i 125 (.own 0 0 v30.length) .a)))) ?_
      refine dp 129 (.bin .sub false 128 (ki 1)) (r_sub rfl rfl c35) ?_
      refine dk 2 (.i 131 (vi v29) (.i 130 (.own 0 0 v30.length) .a)) ?_
      refine dp 132 (.bin .sub false 131 (ki 1)) (r_sub rfl rfl c35) ?_
      refine dp 133 (.iaddr 2 130 132) (ok_iaddr_o0 (j:=(v29 - 1).toNat) rfl rfl rfl (inB_to c36) (inB_lt c36)) ?_
      refine dp 134 (.load true 2 133) (ok_load_pm (l:=v30) (e:=ePartCount) (v:=.agg [vt ((ix v30 ((v29 - 1).toNat)).Part),vi ((ix v30 ((v29 - 1).toNat)).Count)]) rfl rfl c37 rfl) ?_
      refine dk 2 (.i 136 (vi v29) (.i 135 (.own 0 0 v30.length) .a)) ?_
      refine dp 137 (.iaddr 2 135 136) (ok_iaddr_o0 (j:=v29.toNat) rfl rfl rfl (inB_to c33) (inB_lt c33)) ?_
      refine dp 138 (.load true 2 137) (ok_load_pm (l:=v30) (e:=ePartCount) (v:=.agg [vt ((ix v30 v29.toNat).Part),vi ((ix v30 v29.toNat).Count)]) rfl rfl c34 rfl) ?_
      refine dp 139 (.iaddr 2 125 126) (ok_iaddr_o0 (j:=v29.toNat) rfl rfl rfl (inB_to c33) (inB_lt c33)) ?_
      refine dm (.store 2 139 134) _ (ok_store_m (l:=v30) (e:=ePartCount) (x':=(ix v30 ((v29 - 1).toNat))) (u:=.agg [vt ((ix v30 ((v29 - 1).toNat)).Part),vi ((ix v30 ((v29 - 1).toNat)).Count)]) rfl rfl rfl c34 rfl rfl) rfl rfl ?_
      refine dp 140 (.iaddr 2 127 129) (ok_iaddr_o0 (j:=(v29 - 1).toNat) rfl rfl rfl (inB_to c36) (inB_lt c36)) ?_
      obtain ⟨c39,h⟩:=ck h
      refine dm (.store 2 140 138) _ (ok_store_m (l:=(List.set v30 v29.toNat (ix v30 ((v29 - 1).toNat)))) (e:=ePartCount) (x':=(ix v30 v29.toNat)) (u:=.agg [vt ((ix v30 v29.toNat).Part),vi ((ix v30 v29.toNat).Count)]) rfl rfl rfl c39 rfl rfl) rfl rfl ?_
      refine dfi (.d4 (.d4 (.d4 (.d4 .a)))) [0] (obRen_row ePartCount_frz rfl .nil) ?_
      refine q6 ?_
      refine rk 1 (.k4 (.k2 (.i 110 (vi v29) .n))) ?_
      obtain ⟨c40,h⟩:=ck h
      refine jo 111 (.bin .add false 110 (ki 1)) (r_add rfl rfl c40) ?_
      refine jk 1 (.d (.k4 (.k2 (.i 12 (vi (v29 + 1)) .n)))) ?_
      exact Vs.intro (Sees.less (.cons (by simp only [List.length_set]; rfl) (.cons rfl (.cons rfl (.cons rfl (.cons rfl (.cons rfl (.cons rfl .nil)))))))) ⟨(v29 + 1,(List.set (List.set v30 v29.toNat (ix v30 ((v29 - 1).toNat))) ((v29 - 1).toNat) (ix v30 v29.toNat))),rfl,h⟩
     refine q5 ?_
     exact Vs.intro sy ⟨(v22,v30),rfl,h⟩
    refine q2 ?_
    exact Vs.intro sy ⟨(v22,v27),rfl,h⟩
   intro k2 h
   refine sj ?_
   refine rk 2 (.k4 (.k2 (.i 62 (vi v22) (.i 63 (vi a1) .n)))) ?_
   obtain ⟨c19,h⟩:=ck h
   refine jo 64 (.bin .sub false 62 63) (r_sub rfl rfl c19) ?_
   refine jk 1 (.d (.k4 (.k2 (.i 65 (vb (decide ((2 : Int) ≤ (v22 - a1)))) .n)))) ?_
   refine tc h (fun c20 h=>?_) (fun c20 h=>?_)
   ·refine sj ?_
    refine rk 1 (.k4 (.k2 (.i 66 (vi v22) .n))) ?_
    refine jo 67 (.bin .sub false 66 (ki 1)) (r_sub rfl rfl c13) ?_
    refine jk 1 (.d (.k4 (.k2 (.i 11 (vi (v22 - 1)) .n)))) ?_
    refine q4 ?_
    refine TriE.sees (S':=⟨[(0,.own 0 0 (List.set (List.set v18 v22.toNat (ix v18 ((v22 - 1).toNat))) ((v22 - 1).toNat) (ix v18 v22.toNat)).length),(1,vi a1),(2,vi a2),(3,.fn (.func 136) [] []),(9,vi v22),(10,vi v17),(11,vi (v22 - 1))],[some (.row 2 (List.map ePartCount (List.set (List.set v18 v22.toNat (ix v18 ((v22 - 1).toNat))) ((v22 - 1).toNat) (ix v18 v22.toNat))))]⟩) (Sees.less (.cons (by simp only [List.length_set]; rfl) (.cons rfl (.cons rfl (.cons rfl (.cons rfl (.cons rfl (.cons rfl .nil)))))))) ?_
    refine TriE.loopN h (fun (t : Int × (List PartCount))=>match t with | (v24,v25)=>St.mk [(0,.own 0 0 v25.length),(1,vi a1),(2,vi a2),(3,.fn (.func 136) [] []),(9,vi v22),(10,vi v17),(11,vi v24)] [some (.row 2 (List.map ePartCount v25))]) rfl ?_
    clear h
    rintro back ⟨v24,v25⟩ h
    dsimp only [q1k] at h
    refine q1 ?_
    refine sk (.k4 (.k3 (.i 69 (vb (decide ((1 : Int) ≤ v24))) .n))) ?_
    refine tc h (fun c21 h=>?_) (fun c21 h=>?_)
    ·refine q2 ?_
     refine q7 ?_
     refine q1 ?_
     refine q1 ?_
     refine ts (.k4 (.k3 .n)) ?_
     refine TriE.draw (by kernel_rfl) ?_
     refine dk 3 (.i 74 (vi v24) (.i 73 (.own 0 0 v25.length) (.i 72 (.fn (.func 136) [] []) .a))) ?_
     obtain ⟨c22,h⟩:=ck h
     refine dp 75 (.iaddr 2 73 74) (ok_iaddr_o0 (j:=v24.toNat) rfl rfl rfl (inB_to c22) (inB_lt c22)) ?_
     obtain ⟨c23,h⟩:=ck h
     refine dp 76 (.load true 2 75) (ok_load_pm (l:=v25) (e:=ePartCount) (v:=.agg [vt ((ix v25 v24.toNat).Part),vi ((ix v25 v24.toNat).Count)]) rfl rfl c23 rfl) ?_
     refine dk 2 (.i 78 (vi v24) (.i 77 (.own 0 0 v25.length) .a)) ?_
     obtain ⟨c24,h⟩:=ck h
     refine dp 79 (.bin .sub false 78 (ki 1)) (r_sub rfl rfl c24) ?_
     obtain ⟨c25,h⟩:=ck h
     refine dp 80 (.iaddr 2 77 79) (ok_iaddr_o0 (j:=(v24 - 1).toNat) rfl rfl rfl (inB_to c25) (inB_lt c25)) ?_
     obtain ⟨c26,h⟩:=ck h
     refine dp 81 (.load true 2 80) (ok_load_pm (l:=v25) (e:=ePartCount) (v:=.agg [vt ((ix v25 ((v24 - 1).toNat)).Part),vi ((ix v25 ((v24 - 1).toNat)).Count)]) rfl rfl c26 rfl) ?_
     obtain ⟨y26,hy26,h⟩:=bs h
     refine RegD.op (OpD.dyn (y':=vi y26) (obx:=[]) (oby:=[]) (ob2:=[some (.row 2 (List.map ePartCount v25)),none,none,none,none,none,none,none,none,none,none,none]) (tch:=[]) 0 _ _ _ (cy (I0 82 (.dyn 72 [76,81]))) rfl (q6k n (ix v25 v24.toNat) (ix v25 ((v24 - 1).toNat)) y26 hy26) [] (by kernel_rfl) (.cons rfl (.cons rfl (.cons rfl .nil))) (by kernel_rfl) (by kernel_rfl) ObsRen.nil (by kernel_rfl) ObsRen.nil (by kernel_rfl) rfl (.inr ⟨rfl,rfl⟩)) ?_
     refine dk 2 (.i 84 (vb (!(decide (y26 < (0 : Int))))) (.i 83 (vb (decide (y26 < (0 : Int)))) .a)) ?_
     refine dfi (.d4 (.d4 (.d4 (.d (.k4 (.k3 (.i 84 (vb (!(decide (y26 < (0 : Int))))) .n))))))) [0] (obRen_row ePartCount_frz rfl .nil) ?_
     refine tc h (fun c27 h=>?_) (fun c27 h=>?_)
     ·refine q5 ?_
      exact Vs.intro sy ⟨v25,rfl,h⟩
     refine q2 ?_
     refine ts (.k4 (.k3 .n)) ?_
     refine TriE.draw (by kernel_rfl) ?_
     refine dk 4 (.i 88 (vi v24) (.i 87 (.own 0 0 v25.length) (.i 86 (vi v24) (.i 85 (.own 0 0 v25.length) .a)))) ?_
     refine dp 89 (.bin .sub false 88 (ki 1)) (r_sub rfl rfl c24) ?_
     refine dk 2 (.i 91 (vi v24) (.i 90 (.own 0 0 v25.length) .a)) ?_
     refine dp 92 (.bin .sub false 91 (ki 1)) (r_sub rfl rfl c24) ?_
     refine dp 93 (.iaddr 2 90 92) (ok_iaddr_o0 (j:=(v24 - 1).toNat) rfl rfl rfl (inB_to c25) (inB_lt c25)) ?_
     refine dp 94 (.load true 2 93) (ok_load_pm (l:=v25) (e:=ePartCount) (v:=.agg [vt ((ix v25 ((v24 - 1).toNat)).Part),vi ((ix v25 ((v24 - 1).toNat)).Count)]) rfl rfl c26 rfl) ?_
     refine dk 2 (.i 96 (vi v24) (.i 95 (.own 0 0 v25.length) .a)) ?_
     refine dp 97 (.iaddr 2 95 96) (ok_iaddr_o0 (j:=v24.toNat) rfl rfl rfl (inB_to c22) (inB_lt c22)) ?_
     refine dp 98 (.load true 2 97) (ok_load_pm (l:=v25) (e:=ePartCount) (v:=.agg [vt ((ix v25 v24.toNat).Part),vi ((ix v25 v24.toNat).Count)]) rfl rfl c23 rfl) ?_
     refine dp 99 (.iaddr 2 85 86) (ok_iaddr_o0 (j:=v24.toNat) rfl rfl rfl (inB_to c22) (inB_lt c22)) ?_
     refine dm (.store 2 99 94) _ (ok_store_m (l:=v25) (e:=ePartCount) (x':=(ix v25 ((v24 - 1).toNat))) (u:=.agg [vt ((ix v25 ((v24 - 1).toNat)).Part),vi ((ix v25 ((v24 - 1).toNat)).Count)]) rfl rfl rfl c23 rfl rfl) rfl rfl ?_
     refine dp 100 (.iaddr 2 87 89) (ok_iaddr_o0 (j:=(v24 - 1).toNat) rfl rfl rfl (inB_to c25) (inB_lt c25)) ?_
     obtain ⟨c28,h⟩:=ck h
     refine dm (.store 2 100 98) _ (ok_store_m (l:=(List.set v25 v24.toNat (ix v25 ((v24 - 1).toNat)))) (e:=ePartCount) (x':=(ix v25 v24.toNat)) (u:=.agg [vt ((ix v25 v24.toNat).Part),vi ((ix v25 v24.toNat).Count)]) rfl rfl rfl c28 rfl rfl) rfl rfl ?_
     refine dfi (.d4 (.d4 (.d4 (.d4 .a)))) [0] (obRen_row ePartCount_frz rfl .nil) ?_
     refine q6 ?_
     refine rk 1 (.k4 (.k2 (.i 70 (vi v24) .n))) ?_
     refine jo 71 (.bin .sub false 70 (ki 1)) (r_sub rfl rfl c24) ?_
     refine jk 1 (.d (.k4 (.k2 (.i 11 (vi (v24 - 1)) .n)))) ?_
     exact Vs.intro (Sees.less (.cons (by simp only [List.length_set]; rfl) (.cons rfl (.cons rfl (.cons rfl (.cons rfl (.cons rfl (.cons rfl .nil)))))))) ⟨(v24 - 1,(List.set (List.set v25 v24.toNat (ix v25 ((v24 - 1).toNat))) ((v24 - 1).toNat) (ix v25 v24.toNat))),rfl,h⟩
    refine q5 ?_
    exact Vs.intro sy ⟨v25,rfl,h⟩
   refine q2 ?_
   exact Vs.intro (Sees.less (.cons (by simp only [List.length_set]; rfl) (.cons rfl (.cons rfl (.cons rfl (.cons rfl (.cons rfl .nil))))))) ⟨(List.set (List.set v18 v22.toNat (ix v18 ((v22 - 1).toNat))) ((v22 - 1).toNat) (ix v18 v22.toNat)),rfl,h⟩
  intro k1 h
  refine q4 ?_
  refine ts (.k4 (.k2 .n)) ?_
  refine TriE.loopN h (fun (v20 : Int)=>St.mk [(0,.own 0 0 v18.length),(1,vi a1),(2,vi a2),(3,.fn (.func 136) [] []),(9,vi v20),(10,vi v17)] [some (.row 2 (List.map ePartCount v18))]) rfl ?_
  clear h
  rintro back v20 h
  dsimp only [q18k] at h
  refine q1 ?_
  refine q1 ?_
  refine ts .a ?_
  refine TriE.draw (by kernel_rfl) ?_
  refine dk 4 (.i 22 (vb (decide (v20 < a2))) (.i 21 (vb (decide (v20 < a2))) (.i 20 (vi a2) (.i 19 (vi v20) .a)))) ?_
  refine gd (decide (v20 < a2)) (.fn (.func 136) [] []) 23 (.mov 3) 22 true rfl (fun hg=>(.cons rfl .nil)) ?_
  refine gd (decide (v20 < a2)) (.own 0 0 v18.length) 24 (.mov 0) 22 true rfl (fun hg=>(.cons rfl .nil)) ?_
  refine gd (decide (v20 < a2)) (vi v20) 25 (.mov 9) 22 true rfl (fun hg=>(.cons rfl .nil)) ?_
  obtain ⟨c3,h⟩:=ck h
  refine gu (decide (v20 < a2)) 26 (.iaddr 2 24 25) 22 true rfl (fun hg=>(ok_iaddr_o0 (j:=v20.toNat) rfl rfl rfl (inB_to (gor c3 hg)) (inB_lt (gor c3 hg)))) (fun hg=>(.cons hg (.cons hg .nil))) ?_
  obtain ⟨c4,h⟩:=ck h
  refine gu (decide (v20 < a2)) 27 (.load true 2 26) 22 true rfl (fun hg=>(ok_load_pm (l:=v18) (e:=ePartCount) (v:=.agg [vt ((ix v18 v20.toNat).Part),vi ((ix v18 v20.toNat).Count)]) rfl rfl (gor c4 hg) rfl)) (fun hg=>(.cons hg .nil)) ?_
  refine gd (decide (v20 < a2)) (.own 0 0 v18.length) 28 (.mov 0) 22 true rfl (fun hg=>(.cons rfl .nil)) ?_
  refine gd (decide (v20 < a2)) (vi v20) 29 (.mov 9) 22 true rfl (fun hg=>(.cons rfl .nil)) ?_
  obtain ⟨c5,h⟩:=ck h
  refine gu (decide (v20 < a2)) 30 (.bin .sub false 29 (ki 1)) 22 true rfl (fun hg=>(r_sub rfl rfl (gor c5 hg))) (fun hg=>(.cons hg (.cons rfl .nil))) ?_
  obtain ⟨c6,h⟩:=ck h
  refine gu (decide (v20 < a2)) 31 (.iaddr 2 28 30) 22 true rfl (fun hg=>(ok_iaddr_o0 (j:=(v20 - 1).toNat) rfl rfl rfl (inB_to (gor c6 hg)) (inB_lt (gor c6 hg)))) (fun hg=>(.cons hg (.cons hg .nil))) ?_
  obtain ⟨c7,h⟩:=ck h
  refine gu (decide (v20 < a2)) 32 (.load true 2 31) 22 true rfl (fun hg=>(ok_load_pm (l:=v18) (e:=ePartCount) (v:=.agg [vt ((ix v18 ((v20 - 1).toNat)).Part),vi ((ix v18 ((v20 - 1).toNat)).Count)]) rfl rfl (gor c7 hg) rfl)) (fun hg=>(.cons hg .nil)) ?_
  obtain ⟨y21,hy21,h⟩:=bs h
  refine RegD.op (OpD.dyng (g:=decide (v20 < a2)) (y':=vi y21) (obx:=[]) _ _ _ (cy (IG 33 (.dyn 23 [27,32]) 22 true)) rfl rfl (fun hg=>q6k n (ix v18 v20.toNat) (ix v18 ((v20 - 1).toNat)) y21 (gcall_some hy21 hg)) [] (fun hg=>by kernel_rfl) (fun hg=>(.cons hg (.cons hg (.cons hg .nil)))) (by kernel_rfl) (by kernel_rfl) ObsRen.nil (by kernel_rfl) (by kernel_rfl) rfl) ?_
  refine gd (decide (v20 < a2)) (vb (decide (y21 < (0 : Int)))) 34 (.bin .lss false 33 (ki 0)) 22 true rfl (fun hg=>(.cons hg (.cons rfl .nil))) ?_
  refine gd (decide (v20 < a2)) (vb (!(decide (y21 < (0 : Int))))) 35 (.un .not 34) 22 true rfl (fun hg=>(.cons hg .nil)) ?_
  refine RegD.op (OpD.and (cy (I0 36 (.pick 22 35 (.c (.p (.bool false)))))) rfl rfl (by first | exact hokA1 | exact hokA0 | simp)) ?_
  refine dfi (.d4 (.d4 (.d4 (.d4 (.d2 (.k4 (.k2 (.i 36 (vb ((decide (v20 < a2)) && (!(decide (y21 < (0 : Int)))))) .n)))))))) [0] (obRen_row ePartCount_frz rfl .nil) ?_
  refine tc h (fun c8 h=>?_) (fun c8 h=>?_)
  ·refine q2 ?_
   refine q4 ?_
   refine q6 ?_
   refine rk 1 (.k4 (.d (.k (.i 37 (vi v20) .n)))) ?_
   obtain ⟨c9,h⟩:=ck h
   refine jo 38 (.bin .add false 37 (ki 1)) (r_add rfl rfl c9) ?_
   refine jk 1 (.d (.k4 (.k (.i 9 (vi (v20 + 1)) .n)))) ?_
   exact Vs.intro sy ⟨(v20 + 1),rfl,h⟩
  refine q5 ?_
  exact Vs.intro sy ⟨v20,rfl,h⟩
 refine q5 ?_
 exact Vs.intro sy ⟨v18,rfl,h⟩
set_option maxHeartbeats 1000000 in
theorem slices_partitionEqualCmpFunc_PartCount_ok (n : Nat) (a0 : List PartCount) (a1 : Int) (a2 : Int) (a3 : Int) (r : Int × (List PartCount)) (h : q11k n a0 a1 a2 a3 = some r) : FnL Tryz.prog 210 [.own 0 0 a0.length,vi a1,vi a2,vi a3,.fn (.func 136) [] []] [some (.row 2 (List.map ePartCount a0))] (vi r.1) [some (.row 2 (List.map ePartCount r.2))] := by
 dsimp only [q11k] at h
 refine fob [10] Tryz.call210 Tryz.func210 rfl (.cons rfl .nil) ?_
 refine sk .a ?_
 refine q1 ?_
 refine ts .a ?_
 refine TriE.draw (by kernel_rfl) ?_
 refine dk 6 (.i 18 (vi a3) (.i 17 (.own 0 0 a0.length) (.i 16 (vi a3) (.i 15 (.own 0 0 a0.length) (.i 14 (vi a1) (.i 13 (.own 0 0 a0.length) .a)))))) ?_
 obtain ⟨c1,h⟩:=ck h
 refine dp 19 (.iaddr 2 17 18) (ok_iaddr_o0 (j:=a3.toNat) rfl rfl rfl (inB_to c1) (inB_lt c1)) ?_
 obtain ⟨c2,h⟩:=ck h
 refine dp 20 (.load true 2 19) (ok_load_pm (l:=a0) (e:=ePartCount) (v:=.agg [vt ((ix a0 a3.toNat).Part),vi ((ix a0 a3.toNat).Count)]) rfl rfl c2 rfl) ?_
 refine dk 2 (.i 22 (vi a1) (.i 21 (.own 0 0 a0.length) .a)) ?_
 obtain ⟨c3,h⟩:=ck h
 refine dp 23 (.iaddr 2 21 22) (ok_iaddr_o0 (j:=a1.toNat) rfl rfl rfl (inB_to c3) (inB_lt c3)) ?_
 obtain ⟨c4,h⟩:=ck h
 refine dp 24 (.load true 2 23) (ok_load_pm (l:=a0) (e:=ePartCount) (v:=.agg [vt ((ix a0 a1.toNat).Part),vi ((ix a0 a1.toNat).Count)]) rfl rfl c4 rfl) ?_
 refine dp 25 (.iaddr 2 13 14) (ok_iaddr_o0 (j:=a1.toNat) rfl rfl rfl (inB_to c3) (inB_lt c3)) ?_
 refine dm (.store 2 25 20) _ (ok_store_m (l:=a0) (e:=ePartCount) (x':=(ix a0 a3.toNat)) (u:=.agg [vt ((ix a0 a3.toNat).Part),vi ((ix a0 a3.toNat).Count)]) rfl rfl rfl c4 rfl rfl) rfl rfl ?_
 refine dp 26 (.iaddr 2 15 16) (ok_iaddr_o0 (j:=a3.toNat) rfl rfl rfl (inB_to c1) (inB_lt c1)) ?_
 obtain ⟨c5,h⟩:=ck h
 refine dm (.store 2 26 24) _ (ok_store_m (l:=(List.set a0 a1.toNat (ix a0 a3.toNat))) (e:=ePartCount) (x':=(ix a0 a1.toNat)) (u:=.agg [vt ((ix a0 a1.toNat).Part),vi ((ix a0 a1.toNat).Count)]) rfl rfl rfl c5 rfl rfl) rfl rfl ?_
 refine dfi (.d4 (.d4 (.d4 (.d2 (.k3 (.d .a)))))) [0] (obRen_row ePartCount_frz rfl .nil) ?_
 refine sj ?_
 refine rk 1 (.k4 (.i 27 (vi a1) .n)) ?_
 obtain ⟨c6,h⟩:=ck h
 refine jo 28 (.bin .add false 27 (ki 1)) (r_add rfl rfl c6) ?_
 refine rk 1 (.d (.k2 (.d (.k (.i 28 (vi (a1 + 1)) (.i 29 (vi a2) .n)))))) ?_
 obtain ⟨c7,h⟩:=ck h
 refine jo 30 (.bin .sub false 29 (ki 1)) (r_sub rfl rfl c7) ?_
 refine jk 2 (.d (.k3 (.i 11 (vi (a1 + 1)) (.i 12 (vi (a2 - 1)) .n)))) ?_
 refine TriE.seqK h (fun (t : Int × (List PartCount))=>match t with | (v20,v21)=>St.mk [(11,vi v20)] [some (.row 2 (List.map ePartCount v21))]) ?_ ?_
 ·rintro ⟨v20,v21⟩ h
  refine sk (.i 10 (vi v20) .n) ?_
  refine q3 ?_
  have h:=si h
  subst h
  exact DoneS.ret Sees.refl rfl rfl
 intro k3 h
 refine q4 ?_
 refine TriE.sees (S':=⟨[(0,.own 0 0 (List.set (List.set a0 a1.toNat (ix a0 a3.toNat)) a3.toNat (ix a0 a1.toNat)).length),(1,vi a1),(4,.fn (.func 136) [] []),(11,vi (a1 + 1)),(12,vi (a2 - 1))],[some (.row 2 (List.map ePartCount (List.set (List.set a0 a1.toNat (ix a0 a3.toNat)) a3.toNat (ix a0 a1.toNat))))]⟩) (Sees.less (.cons (by simp only [List.length_set]; rfl) (.cons rfl (.cons rfl (.cons rfl (.cons rfl .nil)))))) ?_
 refine TriE.loopN h (fun (t : Int × Int × (List PartCount))=>match t with | (v9,v10,v11)=>St.mk [(0,.own 0 0 v11.length),(1,vi a1),(4,.fn (.func 136) [] []),(11,vi v9),(12,vi v10)] [some (.row 2 (List.map ePartCount v11))]) rfl ?_
 clear h
 rintro back ⟨v9,v10,v11⟩ h
 dsimp only [q28k] at h
 refine q4 ?_
 refine TriE.seqK h (fun (v15 : Int)=>St.mk [(0,.own 0 0 v11.length),(1,vi a1),(4,.fn (.func 136) [] []),(11,vi v15),(12,vi v10)] [some (.row 2 (List.map ePartCount v11))]) ?_ ?_
 ·rintro v15 h
  refine TriE.seqK h (fun (v19 : Int)=>St.mk [(0,.own 0 0 v11.length),(1,vi a1),(4,.fn (.func 136) [] []),(11,vi v15),(12,vi v19)] [some (.row 2 (List.map ePartCount v11))]) ?_ ?_
  ·rintro v19 h
   refine q1 ?_
   refine sk (.k4 (.k (.i 70 (vb (decide (v19 < v15))) .n))) ?_
   refine tc h (fun c20 h=>?_) (fun c20 h=>?_)
   ·refine q5 ?_
    exact Vs.intro sy ⟨(v15,v11),rfl,h⟩
   refine q2 ?_
   refine q1 ?_
   refine ts (.k4 (.k .n)) ?_
   refine TriE.draw (by kernel_rfl) ?_
   refine dk 6 (.i 76 (vi v19) (.i 75 (.own 0 0 v11.length) (.i 74 (vi v19) (.i 73 (.own 0 0 v11.length) (.i 72 (vi v15) (.i 71 (.own 0 0 v11.length) .a)))))) ?_
   obtain ⟨c21,h⟩:=ck h
   refine dp 77 (.iaddr 2 75 76) (ok_iaddr_o0 (j:=v19.toNat) rfl rfl rfl (inB_to c21) (inB_lt c21)) ?_
   obtain ⟨c22,h⟩:=ck h
   refine dp 78 (.load true 2 77) (ok_load_pm (l:=v11) (e:=ePartCount) (v:=.agg [vt ((ix v11 v19.toNat).Part),vi ((ix v11 v19.toNat).Count)]) rfl rfl c22 rfl) ?_
   refine dk 2 (.i 80 (vi v15) (.i 79 (.own 0 0 v11.length) .a)) ?_
   obtain ⟨c23,h⟩:=ck h
   refine dp 81 (.iaddr 2 79 80) (ok_iaddr_o0 (j:=v15.toNat) rfl rfl rfl (inB_to c23) (inB_lt c23)) ?_
   obtain ⟨c24,h⟩:=ck h
   refine dp 82 (.load true 2 81) (ok_load_pm (l:=v11) (e:=ePartCount) (v:=.agg [vt ((ix v11 v15.toNat).Part),vi ((ix v11 v15.toNat).Count)]) rfl rfl c24 rfl) ?_
   refine dp 83 (.iaddr 2 71 72) (ok_iaddr_o0 (j:=v15.toNat) rfl rfl rfl (inB_to c23) (inB_lt c23)) ?_
   refine dm (.store 2 83 78) _ (ok_store_m (l:=v11) (e:=ePartCount) (x':=(ix v11 v19.toNat)) (u:=.agg [vt ((ix v11 v19.toNat).Part),vi ((ix v11 v19.toNat).Count)]) rfl rfl rfl c24 rfl rfl) rfl rfl ?_
   refine dp 84 (.iaddr 2 73 74) (ok_iaddr_o0 (j:=v19.toNat) rfl rfl rfl (inB_to c21) (inB_lt c21)) ?_
   obtain ⟨c25,h⟩:=ck h
   refine dm (.store 2 84 82) _ (ok_store_m (l:=(List.set v11 v15.toNat (ix v11 v19.toNat))) (e:=ePartCount) (x':=(ix v11 v15.toNat)) (u:=.agg [vt ((ix v11 v15.toNat).Part),vi ((ix v11 v15.toNat).Count)]) rfl rfl rfl c25 rfl rfl) rfl rfl ?_
   refine dfi (.d4 (.d4 (.d4 (.d2 .a)))) [0] (obRen_row ePartCount_frz rfl .nil) ?_
   refine sj ?_
   refine rk 1 (.k3 (.d (.k (.i 85 (vi v15) .n)))) ?_
   obtain ⟨c26,h⟩:=ck h
   refine jo 86 (.bin .add false 85 (ki 1)) (r_add rfl rfl c26) ?_
   refine jk 1 (.d (.k4 (.i 11 (vi (v15 + 1)) .n))) ?_
   refine q6 ?_
   refine rk 1 (.k3 (.d (.k (.i 87 (vi v19) .n)))) ?_
   obtain ⟨c27,h⟩:=ck h
   refine jo 88 (.bin .sub false 87 (ki 1)) (r_sub rfl rfl c27) ?_
   refine jk 1 (.d (.k4 (.i 12 (vi (v19 - 1)) .n))) ?_
   exact Vs.intro (Sees.less (.cons (by simp only [List.length_set]; rfl) (.cons rfl (.cons rfl (.cons rfl (.cons rfl .nil)))))) ⟨(v15 + 1,v19 - 1,(List.set (List.set v11 v15.toNat (ix v11 v19.toNat)) v19.toNat (ix v11 v15.toNat))),rfl,h⟩
  intro k2 h
  refine q4 ?_
  refine TriE.loopN h (fun (v17 : Int)=>St.mk [(0,.own 0 0 v11.length),(1,vi a1),(4,.fn (.func 136) [] []),(11,vi v15),(12,vi v17)] [some (.row 2 (List.map ePartCount v11))]) rfl ?_
  clear h
  rintro back v17 h
  dsimp only [q27k] at h
  refine q1 ?_
  refine q1 ?_
  refine ts .a ?_
  refine TriE.draw (by kernel_rfl) ?_
  refine dk 4 (.i 53 (vb (decide (v15 ≤ v17))) (.i 52 (vb (decide (v15 ≤ v17))) (.i 51 (vi v17) (.i 50 (vi v15) .a)))) ?_
  refine gd (decide (v15 ≤ v17)) (.fn (.func 136) [] []) 54 (.mov 4) 53 true rfl (fun hg=>(.cons rfl .nil)) ?_
  refine gd (decide (v15 ≤ v17)) (.own 0 0 v11.length) 55 (.mov 0) 53 true rfl (fun hg=>(.cons rfl .nil)) ?_
  refine gd (decide (v15 ≤ v17)) (vi a1) 56 (.mov 1) 53 true rfl (fun hg=>(.cons rfl .nil)) ?_
  obtain ⟨c14,h⟩:=ck h
  refine gu (decide (v15 ≤ v17)) 57 (.iaddr 2 55 56) 53 true rfl (fun hg=>(ok_iaddr_o0 (j:=a1.toNat) rfl rfl rfl (inB_to (gor c14 hg)) (inB_lt (gor c14 hg)))) (fun hg=>(.cons hg (.cons hg .nil))) ?_
  obtain ⟨c15,h⟩:=ck h
  refine gu (decide (v15 ≤ v17)) 58 (.load true 2 57) 53 true rfl (fun hg=>(ok_load_pm (l:=v11) (e:=ePartCount) (v:=.agg [vt ((ix v11 a1.toNat).Part),vi ((ix v11 a1.toNat).Count)]) rfl rfl (gor c15 hg) rfl)) (fun hg=>(.cons hg .nil)) ?_
  refine gd (decide (v15 ≤ v17)) (.own 0 0 v11.length) 59 (.mov 0) 53 true rfl (fun hg=>(.cons rfl .nil)) ?_
  refine gd (decide (v15 ≤ v17)) (vi v17) 60 (.mov 12) 53 true rfl (fun hg=>(.cons rfl .nil)) ?_
  obtain ⟨c16,h⟩:=ck h
  refine gu (decide (v15 ≤ v17)) 61 (.iaddr 2 59 60) 53 true rfl (fun hg=>(ok_iaddr_o0 (j:=v17.toNat) rfl rfl rfl (inB_to (gor c16 hg)) (inB_lt (gor c16 hg)))) (fun hg=>(.cons hg (.cons hg .nil))) ?_
  obtain ⟨c17,h⟩:=ck h
  refine gu (decide (v15 ≤ v17)) 62 (.load true 2 61) 53 true rfl (fun hg=>(ok_load_pm (l:=v11) (e:=ePartCount) (v:=.agg [vt ((ix v11 v17.toNat).Part),vi ((ix v11 v17.toNat).Count)]) rfl rfl (gor c17 hg) rfl)) (fun hg=>(.cons hg .nil)) ?_
  obtain ⟨y18,hy18,h⟩:=bs h
  refine RegD.op (OpD.dyng (g:=decide (v15 ≤ v17)) (y':=vi y18) (obx:=[]) _ _ _ (cy (IG 63 (.dyn 54 [58,62]) 53 true)) rfl rfl (fun hg=>q6k n (ix v11 a1.toNat) (ix v11 v17.toNat) y18 (gcall_some hy18 hg)) [] (fun hg=>by kernel_rfl) (fun hg=>(.cons hg (.cons hg (.cons hg .nil)))) (by kernel_rfl) (by kernel_rfl) ObsRen.nil (by kernel_rfl) (by kernel_rfl) rfl) ?_
  refine gd (decide (v15 ≤ v17)) (vb (decide (y18 < (0 : Int)))) 64 (.bin .lss false 63 (ki 0)) 53 true rfl (fun hg=>(.cons hg (.cons rfl .nil))) ?_
  refine RegD.op (OpD.and (cy (I0 65 (.pick 53 64 (.c (.p (.bool false)))))) rfl rfl (by first | exact hokA1 | exact hokA0 | simp)) ?_
  refine dfi (.d4 (.d4 (.d4 (.d4 (.k4 (.k (.i 65 (vb ((decide (v15 ≤ v17)) && (decide (y18 < (0 : Int))))) .n))))))) [0] (obRen_row ePartCount_frz rfl .nil) ?_
  refine tc h (fun c18 h=>?_) (fun c18 h=>?_)
  ·refine q2 ?_
   refine q4 ?_
   refine q6 ?_
   refine rk 1 (.k4 (.i 66 (vi v17) .n)) ?_
   obtain ⟨c19,h⟩:=ck h
   refine jo 67 (.bin .sub false 66 (ki 1)) (r_sub rfl rfl c19) ?_
   refine jk 1 (.d (.k4 (.i 12 (vi (v17 - 1)) .n))) ?_
   exact Vs.intro Sees.refl ⟨(v17 - 1),rfl,h⟩
  refine q5 ?_
  exact Vs.intro sy ⟨v17,rfl,h⟩
 intro k1 h
 refine q4 ?_
 refine TriE.loopN h (fun (v13 : Int)=>St.mk [(0,.own 0 0 v11.length),(1,vi a1),(4,.fn (.func 136) [] []),(11,vi v13),(12,vi v10)] [some (.row 2 (List.map ePartCount v11))]) rfl ?_
 clear h
 rintro back v13 h
 dsimp only [q26k] at h
 refine q1 ?_
 refine q1 ?_
 refine ts .a ?_
 refine TriE.draw (by kernel_rfl) ?_
 refine dk 4 (.i 34 (vb (decide (v13 ≤ v10))) (.i 33 (vb (decide (v13 ≤ v10))) (.i 32 (vi v10) (.i 31 (vi v13) .a)))) ?_
 refine gd (decide (v13 ≤ v10)) (.fn (.func 136) [] []) 35 (.mov 4) 34 true rfl (fun hg=>(.cons rfl .nil)) ?_
 refine gd (decide (v13 ≤ v10)) (.own 0 0 v11.length) 36 (.mov 0) 34 true rfl (fun hg=>(.cons rfl .nil)) ?_
 refine gd (decide (v13 ≤ v10)) (vi a1) 37 (.mov 1) 34 true rfl (fun hg=>(.cons rfl .nil)) ?_
 obtain ⟨c8,h⟩:=ck h
 refine gu (decide (v13 ≤ v10)) 38 (.iaddr 2 36 37) 34 true rfl (fun hg=>(ok_iaddr_o0 (j:=a1.toNat) rfl rfl rfl (inB_to (gor c8 hg)) (inB_lt (gor c8 hg)))) (fun hg=>(.cons hg (.cons hg .nil))) ?_
 obtain ⟨c9,h⟩:=ck h
 refine gu (decide (v13 ≤ v10)) 39 (.load true 2 38) 34 true rfl (fun hg=>(ok_load_pm (l:=v11) (e:=ePartCount) (v:=.agg [vt ((ix v11 a1.toNat).Part),vi ((ix v11 a1.toNat).Count)]) rfl rfl (gor c9 hg) rfl)) (fun hg=>(.cons hg .nil)) ?_
 refine gd (decide (v13 ≤ v10)) (.own 0 0 v11.length) 40 (.mov 0) 34 true rfl (fun hg=>(.cons rfl .nil)) ?_
 refine gd (decide (v13 ≤ v10)) (vi v13) 41 (.mov 11) 34 true rfl (fun hg=>(.cons rfl .nil)) ?_
 obtain ⟨c10,h⟩:=ck h
 refine gu (decide (v13 ≤ v10)) 42 (.iaddr 2 40 41) 34 true rfl (fun hg=>(ok_iaddr_o0 (j:=v13.toNat) rfl rfl rfl (inB_to (gor c10 hg)) (inB_lt (gor c10 hg)))) (fun hg=>(.cons hg (.cons hg .nil))) ?_
 obtain ⟨c11,h⟩:=ck h
 refine gu (decide (v13 ≤ v10)) 43 (.load true 2 42) 34 true rfl (fun hg=>(ok_load_pm (l:=v11) (e:=ePartCount) (v:=.agg [vt ((ix v11 v13.toNat).Part),vi ((ix v11 v13.toNat).Count)]) rfl rfl (gor c11 hg) rfl)) (fun hg=>(.cons hg .nil)) ?_
 obtain ⟨y14,hy14,h⟩:=bs h
 refine RegD.op (OpD.dyng (g:=decide (v13 ≤ v10)) (y':=vi y14) (obx:=[]) _ _ _ (cy (IG 44 (.dyn 35 [39,43]) 34 true)) rfl rfl (fun hg=>q6k n (ix v11 a1.toNat) (ix v11 v13.toNat) y14 (gcall_some hy14 hg)) [] (fun hg=>by kernel_rfl) (fun hg=>(.cons hg (.cons hg (.cons hg .nil)))) (by kernel_rfl) (by kernel_rfl) ObsRen.nil (by kernel_rfl) (by kernel_rfl) rfl) ?_
 refine gd (decide (v13 ≤ v10)) (vb (decide (y14 < (0 : Int)))) 45 (.bin .lss false 44 (ki 0)) 34 true rfl (fun hg=>(.cons hg (.cons rfl .nil))) ?_
 refine gd (decide (v13 ≤ v10)) (vb (!(decide (y14 < (0 : Int))))) 46 (.un .not 45) 34 true rfl (fun hg=>(.cons hg .nil)) ?_
 refine RegD.op (OpD.and (cy (I0 47 (.pick 34 46 (.c (.p (.bool false)))))) rfl rfl (by first | exact hokA1 | exact hokA0 | simp)) ?_
 refine dfi (.d4 (.d4 (.d4 (.d4 (.d (.k4 (.k (.i 47 (vb ((decide (v13 ≤ v10)) && (!(decide (y14 < (0 : Int)))))) .n)))))))) [0] (obRen_row ePartCount_frz rfl .nil) ?_
 refine tc h (fun c12 h=>?_) (fun c12 h=>?_)
 ·refine q2 ?_
  refine q4 ?_
  refine q6 ?_
  refine rk 1 (.k3 (.d (.k (.i 48 (vi v13) .n)))) ?_
  obtain ⟨c13,h⟩:=ck h
  refine jo 49 (.bin .add false 48 (ki 1)) (r_add rfl rfl c13) ?_
  refine jk 1 (.d (.k4 (.i 11 (vi (v13 + 1)) .n))) ?_
  exact Vs.intro sy ⟨(v13 + 1),rfl,h⟩
 refine q5 ?_
 exact Vs.intro sy ⟨v13,rfl,h⟩
end Go.Proofs.YtifabpmjiphhdaaGreat.As
