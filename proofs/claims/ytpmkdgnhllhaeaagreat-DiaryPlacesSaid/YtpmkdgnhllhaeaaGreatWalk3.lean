/- The code computes what the plain functions say, part 3: no condition. -/
import Derived.Test.YtpmkdgnhllhaeaaGreatWalk2
namespace Go.Proofs.YtpmkdgnhllhaeaaGreat.As
open Go Go.Proofs
set_option maxRecDepth 4000
set_option maxHeartbeats 1000000 in
theorem q140k (n : Nat) (a0 : Diary) (a1 : List Item) (a2 : Item) (r : Int) (h : q62k n a0 a1 a2 = some r) : FnL Tryz.prog 55 [.agg [eS 1 vt a0.Pcs, eS 1 vt a0.Tc, eS 4 eRoad a0.Roads, eS 3 eGd a0.Gds, vi a0.Change, vi a0.Lasts], eS 7 eItem a1, .agg [vi a2.Kind, vi a2.From, vi a2.To, vt a2.Grand, vt a2.Place, vt a2.Who, vi a2.Deposit]] [] (vi r) [] := by
 dsimp only [q62k] at h
 refine fo [6] Tryz.call55 Tryz.func55 rfl ?_
 refine sko (.d (.k (.i 3 (.ptr 0 0 0) (.i 5 (.ptr 1 0 0) .n)))) [some (.row 6 [.agg [eS 1 vt a0.Pcs,eS 1 vt a0.Tc,eS 4 eRoad a0.Roads,eS 3 eGd a0.Gds,vi a0.Change,vi a0.Lasts]]),some (.row 7 [.agg [vi a2.Kind,vi a2.From,vi a2.To,vt a2.Grand,vt a2.Place,vt a2.Who,vi a2.Deposit]])] ?_
 refine TriE.seqK h (fun (_ : Unit)=>St.mk [(1,eS 7 eItem a1),(3,.ptr 0 0 0),(5,.ptr 1 0 0)] [some (.row 6 [.agg [eS 1 vt a0.Pcs,eS 1 vt a0.Tc,eS 4 eRoad a0.Roads,eS 3 eGd a0.Gds,vi a0.Change,vi a0.Lasts]]),some (.row 7 [.agg [vi a2.Kind,vi a2.From,vi a2.To,vt a2.Grand,vt a2.Place,vt a2.Who,vi a2.Deposit]])]) ?_ ?_
 ·rintro ⟨⟩ h
  refine sj ?_
  refine rk 6 (.k3 (.i 40 (.agg [eS 1 vt a0.Pcs,eS 1 vt a0.Tc,eS 4 eRoad a0.Roads,eS 3 eGd a0.Gds,vi a0.Change,vi a0.Lasts]) (.i 41 (eS 7 eItem a1) (.i 43 (vt a2.Grand) (.i 45 (vi a2.From) .n))))) ?_
  refine bK h fun y2 hy2 h=>?_
  refine jc 46 [40,41,43,45] (q104k n a0 a1 a2.Grand a2.From y2 hy2) ?_
  refine jk 1 (.d (.k3 (.i 8 (vt y2) .n))) ?_
  refine q1 ?_
  refine sj ?_
  refine rk 4 (.k4 (.i 50 (vb (a2.Kind != (1 : Int))) .n)) ?_
  refine gj (vt y2) 51 (.mov 8) 50 true rfl ?_
  refine gj (.ptr 1 0 4) 52 (.faddr 4 5) 50 true rfl ?_
  refine gk (vt a2.Place) 53 (.load false 1 52) 50 true rfl (fun hg=>(.cons hg .nil)) ?_
  refine gk (vb (!(y2 == a2.Place))) 54 (.bin .neq false 51 53) 50 true rfl (fun hg=>(.cons hg (.cons hg .nil))) ?_
  refine pa 55 50 54 rfl rfl ?_
  refine jf (.d4 (.d (.k4 (.i 55 (vb ((a2.Kind != (1 : Int)) && (!(y2 == a2.Place)))) .n)))) ?_
  refine tc h (fun c5 h=>?_) (fun c5 h=>?_)
  ·refine sk (.i 6 (vi 13) .n) ?_
   refine q3 ?_
   have h:=si h
   subst h
   exact DoneS.ret (S' := ⟨[(6, vi 13)], []⟩) (sc [] (by decide) (by kernel_rfl) ObRen.nil rfl rfl) rfl rfl
  refine q2 ?_
  refine TriE.seqK h (fun (_ : Unit)=>St.mk [(1,eS 7 eItem a1),(3,.ptr 0 0 0),(5,.ptr 1 0 0)] [some (.row 6 [.agg [eS 1 vt a0.Pcs,eS 1 vt a0.Tc,eS 4 eRoad a0.Roads,eS 3 eGd a0.Gds,vi a0.Change,vi a0.Lasts]]),some (.row 7 [.agg [vi a2.Kind,vi a2.From,vi a2.To,vt a2.Grand,vt a2.Place,vt a2.Who,vi a2.Deposit]])]) ?_ ?_
  ·rintro ⟨⟩ h
   refine TriE.seqK h (fun (_ : Unit)=>St.mk [(1,eS 7 eItem a1),(3,.ptr 0 0 0),(5,.ptr 1 0 0)] [some (.row 6 [.agg [eS 1 vt a0.Pcs,eS 1 vt a0.Tc,eS 4 eRoad a0.Roads,eS 3 eGd a0.Gds,vi a0.Change,vi a0.Lasts]]),some (.row 7 [.agg [vi a2.Kind,vi a2.From,vi a2.To,vt a2.Grand,vt a2.Place,vt a2.Who,vi a2.Deposit]])]) ?_ ?_
   ·rintro ⟨⟩ h
    refine q1 ?_
    refine sj ?_
    refine rk 4 (.k3 (.i 131 (vb (a2.Kind == (2 : Int))) .n)) ?_
    refine gj (.agg [eS 1 vt a0.Pcs,eS 1 vt a0.Tc,eS 4 eRoad a0.Roads,eS 3 eGd a0.Gds,vi a0.Change,vi a0.Lasts]) 132 (.load true 6 3) 131 true rfl ?_
    refine gj (eS 7 eItem a1) 133 (.mov 1) 131 true rfl ?_
    refine gj (.agg [vi a2.Kind,vi a2.From,vi a2.To,vt a2.Grand,vt a2.Place,vt a2.Who,vi a2.Deposit]) 134 (.load true 7 5) 131 true rfl ?_
    refine bK h fun y8 hy8 h=>?_
    refine gc 135 [132,133,134] 131 true rfl (fun hg=>q147k n a0 a1 a2 y8 (zao hy8 hg)) (fun hg=>(.cons rfl (.cons hg (.cons hg (.cons hg .nil))))) (fun hg=>by kernel_rfl) ?_
    refine gk (vb (decide (y8 < (0 : Int)))) 136 (.bin .lss false 135 (ki 0)) 131 true rfl (fun hg=>(.cons hg (.cons rfl .nil))) ?_
    refine pa 137 131 136 rfl rfl ?_
    refine jf (.i 137 (vb ((a2.Kind == (2 : Int)) && (decide (y8 < (0 : Int))))) .n) ?_
    refine tc h (fun c19 h=>?_) (fun c19 h=>?_)
    ·refine sk (.i 6 (vi 26) .n) ?_
     refine q3 ?_
     have h:=si h
     subst h
     exact DoneS.ret (S' := ⟨[(6, vi 26)], []⟩) (sc [] (by decide) (by kernel_rfl) ObRen.nil rfl rfl) rfl rfl
    refine q2 ?_
    refine sk (.i 6 (vi 0) .n) ?_
    refine q3 ?_
    have h:=si h
    subst h
    exact DoneS.ret (S' := ⟨[(6, vi 0)], []⟩) (sc [] (by decide) (by kernel_rfl) ObRen.nil rfl rfl) rfl rfl
   intro k4 h
   refine sk (.k3 (.i 10 (vi 0) .n)) ?_
   refine q4 ?_
   refine ts (.k3 (.i 10 (vi 0) .n)) ?_
   refine TriE.loopN h (fun (v6 : Nat)=>St.mk [(1,eS 7 eItem a1),(3,.ptr 0 0 0),(5,.ptr 1 0 0),(10,vi v6)] [some (.row 6 [.agg [eS 1 vt a0.Pcs,eS 1 vt a0.Tc,eS 4 eRoad a0.Roads,eS 3 eGd a0.Gds,vi a0.Change,vi a0.Lasts]]),some (.row 7 [.agg [vi a2.Kind,vi a2.From,vi a2.To,vt a2.Grand,vt a2.Place,vt a2.Who,vi a2.Deposit]])]) rfl ?_
   clear h
   rintro back v6 h
   dsimp only [q21k] at h
   refine q1 ?_
   refine sj ?_
   refine rk 2 (.k4 (.i 86 (vi v6) (.i 87 (eS 7 eItem a1) .n))) ?_
   refine jo 88 (.len 0 87) (zad rfl) ?_
   refine jo 89 (.bin .lss false 86 88) (zbg (i:=v6) (j:=a1.length) rfl rfl) ?_
   refine rk 1 (.d2 (.k4 (.i 90 (vb (decide (v6 < a1.length))) .n))) ?_
   refine gj (.ptr 1 0 0) 91 (.faddr 0 5) 90 true rfl ?_
   refine gk (vi a2.Kind) 92 (.load false 1 91) 90 true rfl (fun hg=>(.cons hg .nil)) ?_
   refine gk (vb (a2.Kind == (0 : Int))) 93 (.bin .eql false 92 (ki 0)) 90 true rfl (fun hg=>(.cons hg (.cons rfl .nil))) ?_
   refine pa 94 90 93 rfl rfl ?_
   refine jf (.d4 (.k4 (.i 94 (vb ((decide (v6 < a1.length)) && (a2.Kind == (0 : Int)))) .n))) ?_
   refine tc h (fun c13 h=>?_) (fun c13 h=>?_)
   ·refine q2 ?_
    refine TriE.seqK h (fun (_ : Unit)=>St.mk [(1,eS 7 eItem a1),(3,.ptr 0 0 0),(5,.ptr 1 0 0),(10,vi v6)] [some (.row 6 [.agg [eS 1 vt a0.Pcs,eS 1 vt a0.Tc,eS 4 eRoad a0.Roads,eS 3 eGd a0.Gds,vi a0.Change,vi a0.Lasts]]),some (.row 7 [.agg [vi a2.Kind,vi a2.From,vi a2.To,vt a2.Grand,vt a2.Place,vt a2.Who,vi a2.Deposit]])]) ?_ ?_
    ·rintro ⟨⟩ h
     refine q6 ?_
     refine rk 1 (.k3 (.i 95 (vi v6) .n)) ?_
     refine cK h fun c18 h=>?_
     refine jo 96 (.bin .add false 95 (ki 1)) (zan (i:=v6) (j:=1) rfl rfl c18) ?_
     refine jk 1 (.d (.k3 (.i 10 (vi ((v6 + 1 : Nat) : Int)) .n))) ?_
     exact Vs.intro sy ⟨(v6 + 1), rfl, h⟩
    intro k3 h
    refine q4 ?_
    refine sj ?_
    refine rk 2 (.k4 (.i 97 (eS 7 eItem a1) (.i 98 (vi v6) .n))) ?_
    refine cK h fun c14 h=>?_
    refine jo 99 (.iaddr 7 97 98) (zab (j:=v6) rfl rfl rfl c14) ?_
    refine jo 100 (.load true 7 99) (zaa (v:=.agg [vi ((ix a1 v6).Kind),vi ((ix a1 v6).From),vi ((ix a1 v6).To),vt ((ix a1 v6).Grand),vt ((ix a1 v6).Place),vt ((ix a1 v6).Who),vi ((ix a1 v6).Deposit)]) rfl c14 rfl) ?_
    refine jko 2 (.d2 (.k4 (.i 11 (.ptr 2 0 0) .n))) [some (.row 6 [.agg [eS 1 vt a0.Pcs,eS 1 vt a0.Tc,eS 4 eRoad a0.Roads,eS 3 eGd a0.Gds,vi a0.Change,vi a0.Lasts]]),some (.row 7 [.agg [vi a2.Kind,vi a2.From,vi a2.To,vt a2.Grand,vt a2.Place,vt a2.Who,vi a2.Deposit]]),some (.row 7 [.agg [vi ((ix a1 v6).Kind),vi ((ix a1 v6).From),vi ((ix a1 v6).To),vt ((ix a1 v6).Grand),vt ((ix a1 v6).Place),vt ((ix a1 v6).Who),vi ((ix a1 v6).Deposit)]])] ?_
    refine q1 ?_
    refine sj ?_
    refine rk 4 (.k4 (.k (.i 104 (vb (((ix a1 v6).Kind) != (0 : Int))) .n))) ?_
    refine gj (.ptr 2 0 5) 105 (.faddr 5 11) 104 false rfl ?_
    refine gk (vt ((ix a1 v6).Who)) 106 (.load false 1 105) 104 false rfl (fun hg=>(.cons hg .nil)) ?_
    refine gj (.ptr 1 0 5) 107 (.faddr 5 5) 104 false rfl ?_
    refine gk (vt a2.Who) 108 (.load false 1 107) 104 false rfl (fun hg=>(.cons hg .nil)) ?_
    refine gk (vb (!(((ix a1 v6).Who) == a2.Who))) 109 (.bin .neq false 106 108) 104 false rfl (fun hg=>(.cons hg (.cons hg .nil))) ?_
    refine po 110 104 109 rfl rfl ?_
    refine jf (.d4 (.d2 (.k4 (.k (.i 110 (vb ((((ix a1 v6).Kind) != (0 : Int)) || (!(((ix a1 v6).Who) == a2.Who)))) .n))))) ?_
    refine tc h (fun c15 h=>?_) (fun c15 h=>?_)
    ·refine q5 ?_
     exact Vs.intro (sc [0, 1] (by decide) (by kernel_rfl) (.cons rfl (.cons rfl .nil)) rfl rfl) ⟨(), rfl, h⟩
    refine q2 ?_
    refine sj ?_
    refine rk 5 (.k4 (.k (.i 111 (.agg [eS 1 vt a0.Pcs,eS 1 vt a0.Tc,eS 4 eRoad a0.Roads,eS 3 eGd a0.Gds,vi a0.Change,vi a0.Lasts]) (.i 113 (vt ((ix a1 v6).Place)) (.i 115 (vt a2.Place) .n))))) ?_
    refine bK h fun y7 hy7 h=>?_
    refine jc 116 [111,113,115,(ki 1)] (q99k n a0 ((ix a1 v6).Place) a2.Place 1 y7 hy7) ?_
    refine jk 1 (.d (.k4 (.k (.i 12 (vi y7) .n)))) ?_
    refine sj ?_
    refine rk 3 (.k4 (.k2 (.i 119 (vb (decide (y7 < (0 : Int)))) .n))) ?_
    refine gj (.ptr 1 0 1) 120 (.faddr 1 5) 119 false rfl ?_
    refine gk (vi a2.From) 121 (.load false 1 120) 119 false rfl (fun hg=>(.cons hg .nil)) ?_
    refine gj (.ptr 2 0 2) 122 (.faddr 2 11) 119 false rfl ?_
    refine gk (vi ((ix a1 v6).To)) 123 (.load false 1 122) 119 false rfl (fun hg=>(.cons hg .nil)) ?_
    refine gj (vi y7) 124 (.mov 12) 119 false rfl ?_
    refine cK h fun c16 h=>?_
    refine gv 125 (.bin .add false 123 124) 119 false rfl (fun hg=>(r_add rfl rfl (gor c16 hg))) (fun hg=>(.cons hg (.cons hg .nil))) ?_
    refine gk (vb (decide (a2.From < (((ix a1 v6).To) + y7)))) 126 (.bin .lss false 121 125) 119 false rfl (fun hg=>(.cons hg (.cons hg .nil))) ?_
    refine po 127 119 126 rfl rfl ?_
    refine jf (.d4 (.d4 (.k4 (.i 127 (vb ((decide (y7 < (0 : Int))) || (decide (a2.From < (((ix a1 v6).To) + y7))))) .n)))) ?_
    refine tc h (fun c17 h=>?_) (fun c17 h=>?_)
    ·refine sk (.i 6 (vi 16) .n) ?_
     refine q3 ?_
     have h:=si h
     subst h
     exact DoneS.ret (S' := ⟨[(6, vi 16)], []⟩) (sc [] (by decide) (by kernel_rfl) ObRen.nil rfl rfl) rfl rfl
    refine q2 ?_
    exact Vs.intro (sc [0, 1] (by decide) (by kernel_rfl) (.cons rfl (.cons rfl .nil)) rfl rfl) ⟨(), rfl, h⟩
   refine q5 ?_
   exact Vs.intro sy ⟨(), rfl, h⟩
  intro k2 h
  refine sk (.k4 (.i 58 (vb (a2.Kind == (1 : Int))) .n)) ?_
  refine tc h (fun c6 h=>?_) (fun c6 h=>?_)
  ·refine q1 ?_
   refine sk (.k4 (.i 62 (vb (y2 == a2.Place)) .n)) ?_
   refine tc h (fun c7 h=>?_) (fun c7 h=>?_)
   ·refine sk (.i 6 (vi 24) .n) ?_
    refine q3 ?_
    have h:=si h
    subst h
    exact DoneS.ret (S' := ⟨[(6, vi 24)], []⟩) (sc [] (by decide) (by kernel_rfl) ObRen.nil rfl rfl) rfl rfl
   refine q2 ?_
   refine q1 ?_
   refine ts (.k4 .n) ?_
   refine TriE.draw (by kernel_rfl) ?_
   refine dk 9 (.i 71 (vt a2.Grand) (.i 70 (.ptr 1 0 3) (.i 69 (.agg [eS 1 vt a0.Pcs,eS 1 vt a0.Tc,eS 4 eRoad a0.Roads,eS 3 eGd a0.Gds,vi a0.Change,vi a0.Lasts]) (.i 68 (eS 3 eGd a0.Gds) (.i 67 (.ptr 0 0 3) (.i 66 (vt a2.Place) (.i 65 (.ptr 1 0 4) (.i 64 (vt y2) (.i 63 (.agg [eS 1 vt a0.Pcs,eS 1 vt a0.Tc,eS 4 eRoad a0.Roads,eS 3 eGd a0.Gds,vi a0.Change,vi a0.Lasts]) .a))))))))) ?_
   refine bK h fun y3 hy3 h=>?_
   refine dc (vi y3) 0 72 [69,71] (q14k n a0 a2.Grand y3 hy3) [] rfl ObsRen.nil ObsRen.nil rfl (.inr ⟨rfl,rfl⟩) ?_
   refine cK h fun c8 h=>?_
   refine dp 73 (.iaddr 3 68 72) (zab (j:=y3.toNat) rfl rfl (zfe c8) (zff c8)) ?_
   refine dk 1 (.i 74 (.fptr 3 (List.map eGd a0.Gds) y3.toNat 2) .a) ?_
   refine cK h fun c9 h=>?_
   refine dp 75 (.load false 1 74) (zaa (v:=vi ((ix a0.Gds y3.toNat).Width)) rfl c9 rfl) ?_
   refine bK h fun y4 hy4 h=>?_
   refine dc (vi y4) 0 76 [63,64,66,75] (q99k n a0 y2 a2.Place ((ix a0.Gds y3.toNat).Width) y4 hy4) [] rfl ObsRen.nil ObsRen.nil rfl (.inr ⟨rfl,rfl⟩) ?_
   refine dk 1 (.i 9 (vi y4) .a) ?_
   refine dfi (ob':=[some (.row 6 [.agg [eS 1 vt a0.Pcs,eS 1 vt a0.Tc,eS 4 eRoad a0.Roads,eS 3 eGd a0.Gds,vi a0.Change,vi a0.Lasts]]),some (.row 7 [.agg [vi a2.Kind,vi a2.From,vi a2.To,vt a2.Grand,vt a2.Place,vt a2.Who,vi a2.Deposit]])]) (.d4 (.d4 (.d4 (.d3 (.k3 (.i 9 (vi y4) .n)))))) [0,1] (.cons rfl (.cons rfl .nil)) ?_
   refine q1 ?_
   refine sk (.k4 (.i 78 (vb (decide (y4 < (0 : Int)))) .n)) ?_
   refine tc h (fun c10 h=>?_) (fun c10 h=>?_)
   ·refine sk (.i 6 (vi 12) .n) ?_
    refine q3 ?_
    have h:=si h
    subst h
    exact DoneS.ret (S' := ⟨[(6, vi 12)], []⟩) (sc [] (by decide) (by kernel_rfl) ObRen.nil rfl rfl) rfl rfl
   refine q2 ?_
   refine sj ?_
   refine rk 5 (.k3 (.i 79 (vi y4) (.i 81 (vi a2.To) (.i 83 (vi a2.From) .n)))) ?_
   refine cK h fun c11 h=>?_
   refine jo 84 (.bin .sub false 81 83) (r_sub rfl rfl c11) ?_
   refine jk 1 (.d (.k3 (.i 85 (vb (decide ((a2.To - a2.From) < y4))) .n))) ?_
   refine tc h (fun c12 h=>?_) (fun c12 h=>?_)
   ·refine sk (.i 6 (vi 18) .n) ?_
    refine q3 ?_
    have h:=si h
    subst h
    exact DoneS.ret (S' := ⟨[(6, vi 18)], []⟩) (sc [] (by decide) (by kernel_rfl) ObRen.nil rfl rfl) rfl rfl
   refine q2 ?_
   exact Vs.intro sy ⟨(), rfl, h⟩
  refine q2 ?_
  exact Vs.intro sy ⟨(), rfl, h⟩
 intro k1 h
 refine sk (.k3 (.i 7 (vi 0) .n)) ?_
 refine q4 ?_
 refine ts (.k3 (.i 7 (vi 0) .n)) ?_
 refine TriE.loopN h (fun (v1 : Nat)=>St.mk [(1,eS 7 eItem a1),(3,.ptr 0 0 0),(5,.ptr 1 0 0),(7,vi v1)] [some (.row 6 [.agg [eS 1 vt a0.Pcs,eS 1 vt a0.Tc,eS 4 eRoad a0.Roads,eS 3 eGd a0.Gds,vi a0.Change,vi a0.Lasts]]),some (.row 7 [.agg [vi a2.Kind,vi a2.From,vi a2.To,vt a2.Grand,vt a2.Place,vt a2.Who,vi a2.Deposit]])]) rfl ?_
 clear h
 rintro back v1 h
 dsimp only [q63k] at h
 refine q1 ?_
 refine sj ?_
 refine rk 2 (.k4 (.i 13 (vi v1) (.i 14 (eS 7 eItem a1) .n))) ?_
 refine jo 15 (.len 0 14) (zad rfl) ?_
 refine jo 16 (.bin .lss false 13 15) (zbg (i:=v1) (j:=a1.length) rfl rfl) ?_
 refine jf (.d2 (.k4 (.i 16 (vb (decide (v1 < a1.length))) .n))) ?_
 refine tc h (fun c1 h=>?_) (fun c1 h=>?_)
 ·refine q2 ?_
  refine q7 ?_
  refine q1 ?_
  refine ts (.k4 .n) ?_
  refine TriE.draw (by kernel_rfl) ?_
  refine dk 2 (.i 20 (vi v1) (.i 19 (eS 7 eItem a1) .a)) ?_
  refine dp 21 (.iaddr 7 19 20) (zab (j:=v1) rfl rfl rfl c1) ?_
  refine dk 1 (.i 22 (.fptr 7 (List.map eItem a1) v1 3) .a) ?_
  refine dp 23 (.load false 1 22) (zaa (v:=vt ((ix a1 v1).Grand)) rfl c1 rfl) ?_
  refine dk 4 (.i 27 (vb (((ix a1 v1).Grand) == a2.Grand)) (.i 26 (vb (((ix a1 v1).Grand) == a2.Grand)) (.i 25 (vt a2.Grand) (.i 24 (.ptr 1 0 3) .a)))) ?_
  refine gd (((ix a1 v1).Grand) == a2.Grand) (.ptr 1 0 1) 28 (.faddr 1 5) 27 true rfl (fun hg=>(.cons rfl .nil)) ?_
  refine gd (((ix a1 v1).Grand) == a2.Grand) (vi a2.From) 29 (.load false 1 28) 27 true rfl (fun hg=>(.cons hg .nil)) ?_
  refine gd (((ix a1 v1).Grand) == a2.Grand) (eS 7 eItem a1) 30 (.mov 1) 27 true rfl (fun hg=>(.cons rfl .nil)) ?_
  refine gd (((ix a1 v1).Grand) == a2.Grand) (vi v1) 31 (.mov 7) 27 true rfl (fun hg=>(.cons rfl .nil)) ?_
  refine gu (((ix a1 v1).Grand) == a2.Grand) 32 (.iaddr 7 30 31) 27 true rfl (fun hg=>(zab (j:=v1) rfl rfl rfl c1)) (fun hg=>(.cons hg (.cons hg .nil))) ?_
  refine gd (((ix a1 v1).Grand) == a2.Grand) (.fptr 7 (List.map eItem a1) v1 2) 33 (.faddr 2 32) 27 true rfl (fun hg=>(.cons hg .nil)) ?_
  refine gu (((ix a1 v1).Grand) == a2.Grand) 34 (.load false 1 33) 27 true rfl (fun hg=>(zaa (v:=vi ((ix a1 v1).To)) rfl c1 rfl)) (fun hg=>(.cons hg .nil)) ?_
  refine gd (((ix a1 v1).Grand) == a2.Grand) (.ptr 0 0 4) 35 (.faddr 4 3) 27 true rfl (fun hg=>(.cons rfl .nil)) ?_
  refine gd (((ix a1 v1).Grand) == a2.Grand) (vi a0.Change) 36 (.load false 1 35) 27 true rfl (fun hg=>(.cons hg .nil)) ?_
  refine cK h fun c2 h=>?_
  refine gu (((ix a1 v1).Grand) == a2.Grand) 37 (.bin .add false 34 36) 27 true rfl (fun hg=>(r_add rfl rfl (gor c2 hg))) (fun hg=>(.cons hg (.cons hg .nil))) ?_
  refine gd (((ix a1 v1).Grand) == a2.Grand) (vb (decide (a2.From < (((ix a1 v1).To) + a0.Change)))) 38 (.bin .lss false 29 37) 27 true rfl (fun hg=>(.cons hg (.cons hg .nil))) ?_
  refine RegD.op (OpD.and (cy (I0 39 (.pick 27 38 (.c (.p (.bool false)))))) rfl rfl (by first | exact zez | exact zfa | simp)) ?_
  refine dfi (ob':=[some (.row 6 [.agg [eS 1 vt a0.Pcs,eS 1 vt a0.Tc,eS 4 eRoad a0.Roads,eS 3 eGd a0.Gds,vi a0.Change,vi a0.Lasts]]),some (.row 7 [.agg [vi a2.Kind,vi a2.From,vi a2.To,vt a2.Grand,vt a2.Place,vt a2.Who,vi a2.Deposit]])]) (.d4 (.d4 (.d4 (.d4 (.d4 (.d (.k4 (.i 39 (vb ((((ix a1 v1).Grand) == a2.Grand) && (decide (a2.From < (((ix a1 v1).To) + a0.Change))))) .n)))))))) [0,1] (.cons rfl (.cons rfl .nil)) ?_
  refine tc h (fun c3 h=>?_) (fun c3 h=>?_)
  ·refine sk (.i 6 (vi 17) .n) ?_
   refine q3 ?_
   have h:=si h
   subst h
   exact DoneS.ret (S' := ⟨[(6, vi 17)], []⟩) (sc [] (by decide) (by kernel_rfl) ObRen.nil rfl rfl) rfl rfl
  refine q2 ?_
  refine q6 ?_
  refine rk 1 (.k3 (.i 17 (vi v1) .n)) ?_
  refine cK h fun c4 h=>?_
  refine jo 18 (.bin .add false 17 (ki 1)) (zan (i:=v1) (j:=1) rfl rfl c4) ?_
  refine jk 1 (.d (.k3 (.i 7 (vi ((v1 + 1 : Nat) : Int)) .n))) ?_
  exact Vs.intro sy ⟨(v1 + 1), rfl, h⟩
 refine q5 ?_
 exact Vs.intro sy ⟨(), rfl, h⟩
set_option maxHeartbeats 1000000 in
theorem q138k (n : Nat) (a0 : Diary) (a1 : List Item) (r : Int × Int) (h : q58k n a0 a1 = some r) : FnL Tryz.prog 16 [.agg [eS 1 vt a0.Pcs, eS 1 vt a0.Tc, eS 4 eRoad a0.Roads, eS 3 eGd a0.Gds, vi a0.Change, vi a0.Lasts], eS 7 eItem a1] [] (.tup [vi r.2, vi r.1]) [] := by
 dsimp only [q58k] at h
 refine fo [4,5] Tryz.call16 Tryz.func16 rfl ?_
 refine sko (.d (.k (.i 2 (.ptr 0 0 0) .n))) [some (.row 6 [.agg [eS 1 vt a0.Pcs,eS 1 vt a0.Tc,eS 4 eRoad a0.Roads,eS 3 eGd a0.Gds,vi a0.Change,vi a0.Lasts]])] ?_
 refine q1 ?_
 refine sj ?_
 refine rk 1 (.k2 (.i 10 (.agg [eS 1 vt a0.Pcs,eS 1 vt a0.Tc,eS 4 eRoad a0.Roads,eS 3 eGd a0.Gds,vi a0.Change,vi a0.Lasts]) .n)) ?_
 refine bK h fun y1 hy1 h=>?_
 refine jc 11 [10] (q121k n a0 y1 hy1) ?_
 refine jk 1 (.d (.k2 (.i 6 (vi y1) .n))) ?_
 refine sk (.k3 (.i 13 (vb (y1 != (0 : Int))) .n)) ?_
 refine tc h (fun c1 h=>?_) (fun c1 h=>?_)
 ·refine sk (.i 4 (vi 0) (.i 5 (vi y1) .n)) ?_
  refine q3 ?_
  have h:=si h
  subst h
  exact DoneS.ret (S' := ⟨[(4, vi 0), (5, vi y1)], []⟩) (sc [] (by decide) (by kernel_rfl) ObRen.nil rfl rfl) rfl rfl
 refine q2 ?_
 refine q1 ?_
 refine sj ?_
 refine rk 1 (.k2 (.i 15 (eS 7 eItem a1) .n)) ?_
 refine jo 16 (.len 0 15) (zad rfl) ?_
 refine jo 17 (.bin .gtr false 16 (ki 100)) (n_gtr (i:=a1.length) (j:=100) rfl rfl) ?_
 refine jf (.d2 (.k2 (.i 17 (vb (decide (100 < a1.length))) .n))) ?_
 refine tc h (fun c2 h=>?_) (fun c2 h=>?_)
 ·refine sk (.i 4 (vi 0) (.i 5 (vi 8) .n)) ?_
  refine q3 ?_
  have h:=si h
  subst h
  exact DoneS.ret (S' := ⟨[(4, vi 0), (5, vi 8)], []⟩) (sc [] (by decide) (by kernel_rfl) ObRen.nil rfl rfl) rfl rfl
 refine q2 ?_
 refine TriE.seqK h (fun (_ : Unit)=>St.mk [] []) ?_ ?_
 ·rintro ⟨⟩ h
  refine sk (.i 4 (vi (-1)) (.i 5 (vi 0) .n)) ?_
  refine q3 ?_
  have h:=si h
  subst h
  exact DoneS.ret Sees.refl rfl rfl
 intro k1 h
 refine sk (.k2 (.i 7 (vi 0) .n)) ?_
 refine q4 ?_
 refine ts (.k2 (.i 7 (vi 0) .n)) ?_
 refine TriE.loopN h (fun (v4 : Nat)=>St.mk [(1,eS 7 eItem a1),(2,.ptr 0 0 0),(7,vi v4)] [some (.row 6 [.agg [eS 1 vt a0.Pcs,eS 1 vt a0.Tc,eS 4 eRoad a0.Roads,eS 3 eGd a0.Gds,vi a0.Change,vi a0.Lasts]])]) rfl ?_
 clear h
 rintro back v4 h
 dsimp only [q34k] at h
 refine q1 ?_
 refine sj ?_
 refine rk 2 (.k3 (.i 18 (vi v4) (.i 19 (eS 7 eItem a1) .n))) ?_
 refine jo 20 (.len 0 19) (zad rfl) ?_
 refine jo 21 (.bin .lss false 18 20) (zbg (i:=v4) (j:=a1.length) rfl rfl) ?_
 refine jf (.d2 (.k3 (.i 21 (vb (decide (v4 < a1.length))) .n))) ?_
 refine tc h (fun c3 h=>?_) (fun c3 h=>?_)
 ·refine q2 ?_
  refine q7 ?_
  refine q1 ?_
  refine q1 ?_
  refine ts (.k3 .n) ?_
  refine TriE.draw (by kernel_rfl) ?_
  refine dk 3 (.i 26 (vi v4) (.i 25 (eS 7 eItem a1) (.i 24 (.agg [eS 1 vt a0.Pcs,eS 1 vt a0.Tc,eS 4 eRoad a0.Roads,eS 3 eGd a0.Gds,vi a0.Change,vi a0.Lasts]) .a))) ?_
  refine dp 27 (.iaddr 7 25 26) (zab (j:=v4) rfl rfl rfl c3) ?_
  refine dp 28 (.load true 7 27) (zaa (v:=.agg [vi ((ix a1 v4).Kind),vi ((ix a1 v4).From),vi ((ix a1 v4).To),vt ((ix a1 v4).Grand),vt ((ix a1 v4).Place),vt ((ix a1 v4).Who),vi ((ix a1 v4).Deposit)]) rfl c3 rfl) ?_
  refine bK h fun y5 hy5 h=>?_
  refine dc (vi y5) 0 29 [24,28] (q127k n a0 (ix a1 v4) y5 hy5) [] rfl ObsRen.nil ObsRen.nil rfl (.inr ⟨rfl,rfl⟩) ?_
  refine dk 1 (.i 8 (vi y5) .a) ?_
  refine dfi (ob':=[some (.row 6 [.agg [eS 1 vt a0.Pcs,eS 1 vt a0.Tc,eS 4 eRoad a0.Roads,eS 3 eGd a0.Gds,vi a0.Change,vi a0.Lasts]])]) (.d4 (.d3 (.k3 (.i 8 (vi y5) .n)))) [0] (.cons rfl .nil) ?_
  refine sk (.k4 (.i 31 (vb (y5 != (0 : Int))) .n)) ?_
  refine tc h (fun c4 h=>?_) (fun c4 h=>?_)
  ·refine sk (.i 4 (vi v4) (.i 5 (vi y5) .n)) ?_
   refine q3 ?_
   have h:=si h
   subst h
   exact DoneS.ret (S' := ⟨[(4, vi v4), (5, vi y5)], []⟩) (sc [] (by decide) (by kernel_rfl) ObRen.nil rfl rfl) rfl rfl
  refine q2 ?_
  refine q1 ?_
  refine q1 ?_
  refine ts (.k3 .n) ?_
  refine TriE.draw (by kernel_rfl) ?_
  refine dk 1 (.i 34 (vi v4) .a) ?_
  refine dp 35 (.bin .gtr false 34 (ki 0)) (n_gtr (i:=v4) (j:=0) rfl rfl) ?_
  refine dk 1 (.i 36 (vb (decide (0 < v4))) .a) ?_
  refine gd (decide (0 < v4)) (eS 7 eItem a1) 37 (.mov 1) 36 true rfl (fun hg=>(.cons rfl .nil)) ?_
  refine gd (decide (0 < v4)) (vi v4) 38 (.mov 7) 36 true rfl (fun hg=>(.cons rfl .nil)) ?_
  refine gu (decide (0 < v4)) 39 (.iaddr 7 37 38) 36 true rfl (fun hg=>(zab (j:=v4) rfl rfl rfl c3)) (fun hg=>(.cons hg (.cons hg .nil))) ?_
  refine gd (decide (0 < v4)) (.fptr 7 (List.map eItem a1) v4 1) 40 (.faddr 1 39) 36 true rfl (fun hg=>(.cons hg .nil)) ?_
  refine gu (decide (0 < v4)) 41 (.load false 1 40) 36 true rfl (fun hg=>(zaa (v:=vi ((ix a1 v4).From)) rfl c3 rfl)) (fun hg=>(.cons hg .nil)) ?_
  refine gd (decide (0 < v4)) (eS 7 eItem a1) 42 (.mov 1) 36 true rfl (fun hg=>(.cons rfl .nil)) ?_
  refine gd (decide (0 < v4)) (vi v4) 43 (.mov 7) 36 true rfl (fun hg=>(.cons rfl .nil)) ?_
  refine cK h fun c5 h=>?_
  refine gu (decide (0 < v4)) 44 (.bin .sub false 43 (ki 1)) 36 true rfl (fun hg=>(r_sub rfl rfl (gor c5 hg))) (fun hg=>(.cons hg (.cons rfl .nil))) ?_
  refine cK h fun c6 h=>?_
  refine gu (decide (0 < v4)) 45 (.iaddr 7 42 44) 36 true rfl (fun hg=>(zab (j:=((v4 : Int) - 1).toNat) rfl rfl (zfe (gor c6 hg)) (zff (gor c6 hg)))) (fun hg=>(.cons hg (.cons hg .nil))) ?_
  refine gd (decide (0 < v4)) (.fptr 7 (List.map eItem a1) (((v4 : Int) - 1).toNat) 1) 46 (.faddr 1 45) 36 true rfl (fun hg=>(.cons hg .nil)) ?_
  refine cK h fun c7 h=>?_
  refine gu (decide (0 < v4)) 47 (.load false 1 46) 36 true rfl (fun hg=>(zaa (v:=vi ((ix a1 (((v4 : Int) - 1).toNat)).From)) rfl (gor c7 hg) rfl)) (fun hg=>(.cons hg .nil)) ?_
  refine gd (decide (0 < v4)) (vb (decide (((ix a1 v4).From) < ((ix a1 (((v4 : Int) - 1).toNat)).From)))) 48 (.bin .lss false 41 47) 36 true rfl (fun hg=>(.cons hg (.cons hg .nil))) ?_
  refine RegD.op (OpD.and (cy (I0 49 (.pick 36 48 (.c (.p (.bool false)))))) rfl rfl (by first | exact zez | exact zfa | simp)) ?_
  refine dfi (ob':=[some (.row 6 [.agg [eS 1 vt a0.Pcs,eS 1 vt a0.Tc,eS 4 eRoad a0.Roads,eS 3 eGd a0.Gds,vi a0.Change,vi a0.Lasts]])]) (.d4 (.d4 (.d4 (.d4 (.k3 (.i 49 (vb ((decide (0 < v4)) && (decide (((ix a1 v4).From) < ((ix a1 (((v4 : Int) - 1).toNat)).From))))) .n)))))) [0] (.cons rfl .nil) ?_
  refine tc h (fun c8 h=>?_) (fun c8 h=>?_)
  ·refine sk (.i 4 (vi v4) (.i 5 (vi 9) .n)) ?_
   refine q3 ?_
   have h:=si h
   subst h
   exact DoneS.ret (S' := ⟨[(4, vi v4), (5, vi 9)], []⟩) (sc [] (by decide) (by kernel_rfl) ObRen.nil rfl rfl) rfl rfl
  refine q2 ?_
  refine q1 ?_
  refine ts (.k3 .n) ?_
  refine TriE.draw (by kernel_rfl) ?_
  refine dk 3 (.i 53 (vi v4) (.i 52 (eS 7 eItem a1) (.i 51 (.agg [eS 1 vt a0.Pcs,eS 1 vt a0.Tc,eS 4 eRoad a0.Roads,eS 3 eGd a0.Gds,vi a0.Change,vi a0.Lasts]) .a))) ?_
  refine cK h fun c9 h=>?_
  refine dp 54 (.slc 7 52 none (some 53) none) (ok_slc_hi (j:=v4) rfl rfl rfl c9) ?_
  refine dk 2 (.i 56 (vi v4) (.i 55 (eS 7 eItem a1) .a)) ?_
  refine dp 57 (.iaddr 7 55 56) (zab (j:=v4) rfl rfl rfl c3) ?_
  refine dp 58 (.load true 7 57) (zaa (v:=.agg [vi ((ix a1 v4).Kind),vi ((ix a1 v4).From),vi ((ix a1 v4).To),vt ((ix a1 v4).Grand),vt ((ix a1 v4).Place),vt ((ix a1 v4).Who),vi ((ix a1 v4).Deposit)]) rfl c3 rfl) ?_
  refine bK h fun y6 hy6 h=>?_
  refine dc (vi y6) 0 59 [51,54,58] (q140k n a0 (List.take v4 a1) (ix a1 v4) y6 hy6) [] rfl ObsRen.nil ObsRen.nil rfl (.inr ⟨rfl,rfl⟩) ?_
  refine dk 1 (.i 9 (vi y6) .a) ?_
  refine dfi (ob':=[some (.row 6 [.agg [eS 1 vt a0.Pcs,eS 1 vt a0.Tc,eS 4 eRoad a0.Roads,eS 3 eGd a0.Gds,vi a0.Change,vi a0.Lasts]])]) (.d4 (.d4 (.d2 (.k3 (.i 9 (vi y6) .n))))) [0] (.cons rfl .nil) ?_
  refine sk (.k4 (.i 61 (vb (y6 != (0 : Int))) .n)) ?_
  refine tc h (fun c10 h=>?_) (fun c10 h=>?_)
  ·refine sk (.i 4 (vi v4) (.i 5 (vi y6) .n)) ?_
   refine q3 ?_
   have h:=si h
   subst h
   exact DoneS.ret (S' := ⟨[(4, vi v4), (5, vi y6)], []⟩) (sc [] (by decide) (by kernel_rfl) ObRen.nil rfl rfl) rfl rfl
  refine q2 ?_
  refine q6 ?_
  refine rk 1 (.k2 (.i 22 (vi v4) .n)) ?_
  refine cK h fun c11 h=>?_
  refine jo 23 (.bin .add false 22 (ki 1)) (zan (i:=v4) (j:=1) rfl rfl c11) ?_
  refine jk 1 (.d (.k2 (.i 7 (vi ((v4 + 1 : Nat) : Int)) .n))) ?_
  exact Vs.intro sy ⟨(v4 + 1), rfl, h⟩
 refine q5 ?_
 exact Vs.intro (sc [] (by decide) (by kernel_rfl) ObRen.nil rfl rfl) ⟨(), rfl, h⟩
theorem q79k (n : Nat) (a0 : List Item) (r : Unit) (h : q16k n a0 = some r) : FnL Tryz.prog 15 [eS 7 eItem a0] [] (eS 7 eItem a0) [] := by
 dsimp only [q16k] at h
 refine fo [2] Tryz.call15 Tryz.func15 rfl ?_
 refine sk .a ?_
 refine sj ?_
 refine rk 2 (.i 3 .emp (.i 4 (eS 7 eItem a0) .n)) ?_
 refine cK h fun c1 h=>?_
 refine jx 5 (.app 7 80 3 4) _ (ok_app_emp (e:=eItem) (l:=a0) (u:=eS 7 eItem a0) rfl rfl els_sl c1) rfl rfl ?_
 refine jk 1 (.i 2 (.own 0 0 a0.length) .n) ?_
 refine q3 ?_
 have h:=si h
 subst h
 exact DoneS.ret (S' := ⟨[(2, eS 7 eItem a0)], []⟩) (Sees.trans (Sees.freeze 0 (fr' := [(2, eS 7 eItem a0)]) (ob' := [none]) rfl (frz_row eItem_frzE _) (.cons (zes rfl) .nil) rfl) (sc [] (by decide) (by kernel_rfl) ObRen.nil rfl rfl)) rfl rfl
theorem diary_PlaceOf_f1_ok (n : Nat) (a0 : Item) (a1 : Str) (a2 : Int) (r : Unit) (h : zet n a0 a1 a2 = some r) : FnL Tryz.prog 83 [.agg [vi a0.Kind, vi a0.From, vi a0.To, vt a0.Grand, vt a0.Place, vt a0.Who, vi a0.Deposit], .ptr 0 0 0] [some (.row 2 [.agg [vt a1, vi a2]])] (vb ((((a0.Kind == (1 : Int)) && (a0.Grand == a1)) && (decide (a0.From ≤ a2))) && (decide (a2 < a0.To)))) [some (.row 2 [.agg [vt a1, vi a2]])] := by
 dsimp only [zet] at h
 refine fob [3] Tryz.call83 Tryz.func83 rfl (.cons rfl .nil) ?_
 refine sko (.d (.k (.i 2 (.ptr 1 0 0) .n))) [some (.row 2 [.agg [vt a1,vi a2]]),some (.row 7 [.agg [vi a0.Kind,vi a0.From,vi a0.To,vt a0.Grand,vt a0.Place,vt a0.Who,vi a0.Deposit]])] ?_
 refine sj ?_
 refine rk 4 (.k2 (.i 7 (vb (a0.Kind == (1 : Int))) .n)) ?_
 refine gj (.ptr 1 0 3) 8 (.faddr 3 2) 7 true rfl ?_
 refine gk (vt a0.Grand) 9 (.load false 1 8) 7 true rfl (fun hg=>(.cons hg .nil)) ?_
 refine gj (.ptr 0 0 0) 10 (.faddr 0 1) 7 true rfl ?_
 refine gk (vt a1) 11 (.load false 1 10) 7 true rfl (fun hg=>(.cons hg .nil)) ?_
 refine gk (vb (a0.Grand == a1)) 12 (.bin .eql false 9 11) 7 true rfl (fun hg=>(.cons hg (.cons hg .nil))) ?_
 refine pa 13 7 12 rfl rfl ?_
 refine rk 1 (.d4 (.d2 (.k2 (.i 14 (vb ((a0.Kind == (1 : Int)) && (a0.Grand == a1))) .n)))) ?_
 refine gj (.ptr 1 0 1) 15 (.faddr 1 2) 14 true rfl ?_
 refine gk (vi a0.From) 16 (.load false 1 15) 14 true rfl (fun hg=>(.cons hg .nil)) ?_
 refine gj (.ptr 0 0 1) 17 (.faddr 1 1) 14 true rfl ?_
 refine gk (vi a2) 18 (.load false 1 17) 14 true rfl (fun hg=>(.cons hg .nil)) ?_
 refine gk (vb (decide (a0.From ≤ a2))) 19 (.bin .leq false 16 18) 14 true rfl (fun hg=>(.cons hg (.cons hg .nil))) ?_
 refine pa 20 14 19 rfl rfl ?_
 refine rk 1 (.d4 (.d2 (.k2 (.i 21 (vb (((a0.Kind == (1 : Int)) && (a0.Grand == a1)) && (decide (a0.From ≤ a2)))) .n)))) ?_
 refine gj (.ptr 0 0 1) 22 (.faddr 1 1) 21 true rfl ?_
 refine gk (vi a2) 23 (.load false 1 22) 21 true rfl (fun hg=>(.cons hg .nil)) ?_
 refine gj (.ptr 1 0 2) 24 (.faddr 2 2) 21 true rfl ?_
 refine gk (vi a0.To) 25 (.load false 1 24) 21 true rfl (fun hg=>(.cons hg .nil)) ?_
 refine gk (vb (decide (a2 < a0.To))) 26 (.bin .lss false 23 25) 21 true rfl (fun hg=>(.cons hg (.cons hg .nil))) ?_
 refine pa 27 21 26 rfl rfl ?_
 refine jk 1 (.i 3 (vb ((((a0.Kind == (1 : Int)) && (a0.Grand == a1)) && (decide (a0.From ≤ a2))) && (decide (a2 < a0.To)))) .n) ?_
 refine q3 ?_
 have h:=si h
 subst h
 exact DoneS.ret (S' := ⟨[(3, vb ((((a0.Kind == (1 : Int)) && (a0.Grand == a1)) && (decide (a0.From ≤ a2))) && (decide (a2 < a0.To))))], [some (.row 2 [.agg [vt a1, vi a2]])]⟩) (sc [0] (by decide) (by kernel_rfl) (.cons rfl .nil) rfl rfl) rfl rfl
theorem q124k (n : Nat) (a0 : List Item) (a1 : Str) (a2 : Int) (r : Int) (h : q56k n a0 a1 a2 = some r) : FnL Tryz.prog 109 [eS 7 eItem a0, .fn (.func 83) [] [.ptr 0 0 0]] [some (.row 2 [.agg [vt a1, vi a2]])] (vi r) [some (.row 2 [.agg [vt a1, vi a2]])] := by
 dsimp only [q56k] at h
 refine fob [4] Tryz.call109 Tryz.func109 rfl (.cons rfl .nil) ?_
 refine sk .a ?_
 refine TriE.seqK h (fun (_ : Unit)=>St.mk [] [some (.row 2 [.agg [vt a1,vi a2]])]) ?_ ?_
 ·rintro ⟨⟩ h
  refine sk (.i 4 (vi (-1)) .n) ?_
  refine q3 ?_
  have h:=si h
  subst h
  exact DoneS.ret Sees.refl rfl rfl
 intro k1 h
 refine sj ?_
 refine rk 1 (.k2 (.i 6 (eS 7 eItem a0) .n)) ?_
 refine jo 7 (.len 0 6) (zad rfl) ?_
 refine jk 1 (.d (.k2 (.i 7 (vi (a0.length : Int)) (.i 8 (vi 0) .n)))) ?_
 refine q4 ?_
 refine ts (.k3 (.i 8 (vi 0) .n)) ?_
 refine TriE.loopN h (fun (v2 : Nat)=>St.mk [(0,eS 7 eItem a0),(1,.fn (.func 83) [] [.ptr 0 0 0]),(7,vi (a0.length : Int)),(8,vi v2)] [some (.row 2 [.agg [vt a1,vi a2]])]) rfl ?_
 clear h
 rintro back v2 h
 dsimp only [q33k] at h
 refine sj ?_
 refine jo 9 (.bin .lss false 8 7) (zbg (i:=v2) (j:=a0.length) rfl rfl) ?_
 refine jf (.d (.k4 (.i 9 (vb (decide (v2 < a0.length))) .n))) ?_
 refine q1 ?_
 refine tc h (fun c1 h=>?_) (fun c1 h=>?_)
 ·refine q2 ?_
  refine q7 ?_
  refine sk (.k4 (.i 5 (vi v2) .n)) ?_
  refine sj ?_
  refine rk 3 (.k4 (.k (.i 11 (.fn (.func 83) [] [.ptr 0 0 0]) (.i 12 (eS 7 eItem a0) (.i 13 (vi v2) .n))))) ?_
  refine jo 14 (.iaddr 7 12 13) (zab (j:=v2) rfl rfl rfl c1) ?_
  refine jo 15 (.load true 7 14) (zaa (v:=.agg [vi ((ix a0 v2).Kind),vi ((ix a0 v2).From),vi ((ix a0 v2).To),vt ((ix a0 v2).Grand),vt ((ix a0 v2).Place),vt ((ix a0 v2).Who),vi ((ix a0 v2).Deposit)]) rfl c1 rfl) ?_
  refine bK h fun y3 hy3 h=>?_
  refine jy (vb (((((ix a0 v2).Kind == (1 : Int)) && ((ix a0 v2).Grand == a1)) && (decide ((ix a0 v2).From ≤ a2))) && (decide (a2 < (ix a0 v2).To)))) 16 11 [15] rfl (diary_PlaceOf_f1_ok n (ix a0 v2) a1 a2 y3 hy3) [0] rfl (.cons rfl .nil) (.cons rfl .nil) rfl ?_
  refine jf (.d3 (.k4 (.k (.i 16 (vb (((((ix a0 v2).Kind == (1 : Int)) && ((ix a0 v2).Grand == a1)) && (decide ((ix a0 v2).From ≤ a2))) && (decide (a2 < (ix a0 v2).To)))) .n)))) ?_
  refine tc h (fun c2 h=>?_) (fun c2 h=>?_)
  ·refine sk (.i 4 (vi v2) .n) ?_
   refine q3 ?_
   have h:=si h
   subst h
   exact DoneS.ret Sees.refl rfl rfl
  refine q2 ?_
  refine q6 ?_
  refine cK h fun c3 h=>?_
  refine jo 18 (.bin .add false 8 (ki 1)) (zan (i:=v2) (j:=1) rfl rfl c3) ?_
  refine jk 1 (.d (.k3 (.i 8 (vi ((v2 + 1 : Nat) : Int)) .n))) ?_
  exact Vs.intro sy ⟨(v2 + 1), rfl, h⟩
 refine q5 ?_
 exact Vs.intro sy ⟨(), rfl, h⟩
theorem q83k (n : Nat) (a0 : List Item) (a1 : Str) (a2 : Int) (r : Bool) (h : q11k n a0 a1 a2 = some r) : FnL Tryz.prog 84 [eS 7 eItem a0, .fn (.func 83) [] [.ptr 0 0 0]] [some (.row 2 [.agg [vt a1, vi a2]])] (vb r) [some (.row 2 [.agg [vt a1, vi a2]])] := by
 dsimp only [q11k] at h
 refine fob [4] Tryz.call84 Tryz.func84 rfl (.cons rfl .nil) ?_
 refine sk .a ?_
 refine sj ?_
 refine rk 2 (.i 5 (eS 7 eItem a0) (.i 6 (.fn (.func 83) [] [.ptr 0 0 0]) .n)) ?_
 refine bK h fun y1 hy1 h=>?_
 refine jco (vi y1) 7 [5,6] (q124k n a0 a1 a2 y1 hy1) [0] rfl (.cons rfl .nil) (.cons rfl .nil) rfl ?_
 refine jk 2 (.i 4 (vb (decide ((0 : Int) ≤ y1))) .n) ?_
 refine q3 ?_
 have h:=si h
 subst h
 exact DoneS.ret Sees.refl rfl rfl
set_option maxHeartbeats 1000000 in
theorem diary_PlaceOf_ok (n : Nat) (a0 : Diary) (a1 : List Item) (a2 : Moment) (r : Int × Str) (h : diary_PlaceOf n a0 a1 a2 = some r) : FnL Tryz.prog 40 [.agg [eS 1 vt a0.Pcs, eS 1 vt a0.Tc, eS 4 eRoad a0.Roads, eS 3 eGd a0.Gds, vi a0.Change, vi a0.Lasts], eS 7 eItem a1, .agg [vt a2.Grand, vi a2.Minute]] [] (.tup [vt r.2, vi r.1]) [] := by
 dsimp only [diary_PlaceOf] at h
 refine fo [6,7] Tryz.call40 Tryz.func40 rfl ?_
 refine sko (.d (.k (.i 3 (.ptr 0 0 0) (.i 5 (.ptr 1 0 0) .n)))) [some (.row 6 [.agg [eS 1 vt a0.Pcs,eS 1 vt a0.Tc,eS 4 eRoad a0.Roads,eS 3 eGd a0.Gds,vi a0.Change,vi a0.Lasts]]),some (.row 2 [.agg [vt a2.Grand,vi a2.Minute]])] ?_
 refine TriE.seqK2 h (fun (v4 : Int)=>St.mk [(1,eS 7 eItem a1),(3,.ptr 0 0 0),(5,.ptr 1 0 0),(8,.p (.pointer none)),(9,vi v4)] [some (.row 6 [.agg [eS 1 vt a0.Pcs,eS 1 vt a0.Tc,eS 4 eRoad a0.Roads,eS 3 eGd a0.Gds,vi a0.Change,vi a0.Lasts]]),some (.row 2 [.agg [vt a2.Grand,vi a2.Minute]])]) (fun (t : Int × (List (Int × List (A2s × Int))))=>match t with | (v8,v9)=>St.mk [(1,eS 7 eItem a1),(3,.ptr 0 0 0),(5,.ptr 1 0 0),(8,.ptr 3 0 0),(9,vi v8)] [some (.row 6 [.agg [eS 1 vt a0.Pcs,eS 1 vt a0.Tc,eS 4 eRoad a0.Roads,eS 3 eGd a0.Gds,vi a0.Change,vi a0.Lasts]]),some (.row 2 [.agg [vt a2.Grand,vi a2.Minute]]),some (.mp (mpE vi (eM eA2 vi) v9)),some (.row 7 [.agg [eS 1 vt a0.Pcs,eS 1 vt a0.Tc,eS 4 eRoad a0.Roads,eS 3 eGd a0.Gds,vi a0.Change,vi a0.Lasts,.map 2]])]) ?_ ?_ ?_
 ·rintro v4 h
  refine q1 ?_
  refine sk (.k4 (.k (.i 20 (vb (v4 != (0 : Int))) .n))) ?_
  refine tc h (fun c1 h=>?_) (fun c1 h=>?_)
  ·refine sk (.i 6 (vt ([] : Str)) (.i 7 (vi v4) .n)) ?_
   refine q3 ?_
   have h:=si h
   subst h
   exact DoneS.ret (S' := ⟨[(6, vt ([] : Str)), (7, vi v4)], []⟩) (sc [] (by decide) (by kernel_rfl) ObRen.nil rfl rfl) rfl rfl
  refine q2 ?_
  refine q1 ?_
  refine sj ?_
  refine rk 3 (.k (.d (.k2 (.i 23 (.agg [eS 1 vt a0.Pcs,eS 1 vt a0.Tc,eS 4 eRoad a0.Roads,eS 3 eGd a0.Gds,vi a0.Change,vi a0.Lasts]) (.i 25 (vt a2.Grand) .n))))) ?_
  refine bK h fun y5 hy5 h=>?_
  refine jc 26 [23,25] (zdr n a0 a2.Grand y5 hy5) ?_
  refine jko 6 (.d (.k3 (.i 11 (vb y5.2.2.2) .n))) [some (.row 6 [.agg [eS 1 vt a0.Pcs,eS 1 vt a0.Tc,eS 4 eRoad a0.Roads,eS 3 eGd a0.Gds,vi a0.Change,vi a0.Lasts]]),some (.row 2 [.agg [vt a2.Grand,vi a2.Minute]]),some (.row 3 [.agg [vt y5.1,vt y5.2.1,vi y5.2.2.1]])] ?_
  refine sk (.k3 (.i 30 (vb (!y5.2.2.2)) .n)) ?_
  refine tc h (fun c2 h=>?_) (fun c2 h=>?_)
  ·refine sk (.i 6 (vt ([] : Str)) (.i 7 (vi 6) .n)) ?_
   refine q3 ?_
   have h:=si h
   subst h
   exact DoneS.ret (S' := ⟨[(6, vt ([] : Str)), (7, vi 6)], []⟩) (sc [] (by decide) (by kernel_rfl) ObRen.nil rfl rfl) rfl rfl
  refine q2 ?_
  refine q1 ?_
  refine sj ?_
  refine rk 2 (.k3 (.i 32 (vi a2.Minute) .n)) ?_
  refine bK h fun y6 hy6 h=>?_
  refine jc 33 [32] (zcx n a2.Minute y6 hy6) ?_
  refine jk 1 (.d (.k3 (.i 34 (vb (!((decide (0 ≤ a2.Minute)) && (decide (a2.Minute ≤ 1000000))))) .n))) ?_
  refine tc h (fun c3 h=>?_) (fun c3 h=>?_)
  ·refine sk (.i 6 (vt ([] : Str)) (.i 7 (vi 2) .n)) ?_
   refine q3 ?_
   have h:=si h
   subst h
   exact DoneS.ret (S' := ⟨[(6, vt ([] : Str)), (7, vi 2)], []⟩) (sc [] (by decide) (by kernel_rfl) ObRen.nil rfl rfl) rfl rfl
  refine q2 ?_
  refine sk (.k3 (.i 12 (.fn (.func 83) [] [.ptr 1 0 0]) .n)) ?_
  refine q1 ?_
  refine sj ?_
  refine rk 2 (.k3 (.i 36 (eS 7 eItem a1) (.i 37 (.fn (.func 83) [] [.ptr 1 0 0]) .n))) ?_
  refine bK h fun y7 hy7 h=>?_
  refine jco (vb y7) 38 [36,37] (q83k n a1 a2.Grand a2.Minute y7 hy7) [1] rfl (.cons rfl .nil) (.cons rfl .nil) rfl ?_
  refine jf (.d (.k3 (.i 38 (vb y7) .n))) ?_
  refine tc h (fun c4 h=>?_) (fun c4 h=>?_)
  ·refine sk (.i 6 (vt ([] : Str)) (.i 7 (vi 0) .n)) ?_
   refine q3 ?_
   have h:=si h
   subst h
   exact DoneS.ret (S' := ⟨[(6, vt ([] : Str)), (7, vi 0)], []⟩) (sc [] (by decide) (by kernel_rfl) ObRen.nil rfl rfl) rfl rfl
  refine q2 ?_
  refine sj ?_
  refine rk 6 (.i 39 (.p (.pointer none)) (.i 40 (eS 7 eItem a1) (.i 42 (vt a2.Grand) (.i 44 (vi a2.Minute) .n)))) ?_
  cases h
 ·rintro ⟨v8, v9⟩ h
  refine q1 ?_
  refine sk (.k4 (.k (.i 20 (vb (v8 != (0 : Int))) .n))) ?_
  refine tc h (fun c5 h=>?_) (fun c5 h=>?_)
  ·refine sk (.i 6 (vt ([] : Str)) (.i 7 (vi v8) .n)) ?_
   refine q3 ?_
   have h:=si h
   subst h
   exact DoneS.ret (S' := ⟨[(6, vt ([] : Str)), (7, vi v8)], []⟩) (sc [] (by decide) (by kernel_rfl) ObRen.nil rfl rfl) rfl rfl
  refine q2 ?_
  refine q1 ?_
  refine sj ?_
  refine rk 3 (.k (.d (.k2 (.i 23 (.agg [eS 1 vt a0.Pcs,eS 1 vt a0.Tc,eS 4 eRoad a0.Roads,eS 3 eGd a0.Gds,vi a0.Change,vi a0.Lasts]) (.i 25 (vt a2.Grand) .n))))) ?_
  refine bK h fun y10 hy10 h=>?_
  refine jc 26 [23,25] (zdr n a0 a2.Grand y10 hy10) ?_
  refine jko 6 (.d (.k3 (.i 11 (vb y10.2.2.2) .n))) [some (.row 6 [.agg [eS 1 vt a0.Pcs,eS 1 vt a0.Tc,eS 4 eRoad a0.Roads,eS 3 eGd a0.Gds,vi a0.Change,vi a0.Lasts]]),some (.row 2 [.agg [vt a2.Grand,vi a2.Minute]]),some (.mp (mpE vi (eM eA2 vi) v9)),some (.row 7 [.agg [eS 1 vt a0.Pcs,eS 1 vt a0.Tc,eS 4 eRoad a0.Roads,eS 3 eGd a0.Gds,vi a0.Change,vi a0.Lasts,.map 2]]),some (.row 3 [.agg [vt y10.1,vt y10.2.1,vi y10.2.2.1]])] ?_
  refine sk (.k3 (.i 30 (vb (!y10.2.2.2)) .n)) ?_
  refine tc h (fun c6 h=>?_) (fun c6 h=>?_)
  ·refine sk (.i 6 (vt ([] : Str)) (.i 7 (vi 6) .n)) ?_
   refine q3 ?_
   have h:=si h
   subst h
   exact DoneS.ret (S' := ⟨[(6, vt ([] : Str)), (7, vi 6)], []⟩) (sc [] (by decide) (by kernel_rfl) ObRen.nil rfl rfl) rfl rfl
  refine q2 ?_
  refine q1 ?_
  refine sj ?_
  refine rk 2 (.k3 (.i 32 (vi a2.Minute) .n)) ?_
  refine bK h fun y11 hy11 h=>?_
  refine jc 33 [32] (zcx n a2.Minute y11 hy11) ?_
  refine jk 1 (.d (.k3 (.i 34 (vb (!((decide (0 ≤ a2.Minute)) && (decide (a2.Minute ≤ 1000000))))) .n))) ?_
  refine tc h (fun c7 h=>?_) (fun c7 h=>?_)
  ·refine sk (.i 6 (vt ([] : Str)) (.i 7 (vi 2) .n)) ?_
   refine q3 ?_
   have h:=si h
   subst h
   exact DoneS.ret (S' := ⟨[(6, vt ([] : Str)), (7, vi 2)], []⟩) (sc [] (by decide) (by kernel_rfl) ObRen.nil rfl rfl) rfl rfl
  refine q2 ?_
  refine sk (.k3 (.i 12 (.fn (.func 83) [] [.ptr 1 0 0]) .n)) ?_
  refine q1 ?_
  refine sj ?_
  refine rk 2 (.k3 (.i 36 (eS 7 eItem a1) (.i 37 (.fn (.func 83) [] [.ptr 1 0 0]) .n))) ?_
  refine bK h fun y12 hy12 h=>?_
  refine jco (vb y12) 38 [36,37] (q83k n a1 a2.Grand a2.Minute y12 hy12) [1] rfl (.cons rfl .nil) (.cons rfl .nil) rfl ?_
  refine jf (.d (.k3 (.i 38 (vb y12) .n))) ?_
  refine tc h (fun c8 h=>?_) (fun c8 h=>?_)
  ·refine sk (.i 6 (vt ([] : Str)) (.i 7 (vi 0) .n)) ?_
   refine q3 ?_
   have h:=si h
   subst h
   exact DoneS.ret (S' := ⟨[(6, vt ([] : Str)), (7, vi 0)], []⟩) (sc [] (by decide) (by kernel_rfl) ObRen.nil rfl rfl) rfl rfl
  refine q2 ?_
  refine sj ?_
  refine rk 6 (.i 39 (.ptr 3 0 0) (.i 40 (eS 7 eItem a1) (.i 42 (vt a2.Grand) (.i 44 (vi a2.Minute) .n)))) ?_
  refine bK h fun y13 hy13 h=>?_
  refine jco (vt y13) 45 [39,40,42,44] (diary_plan_place_ok n a0.Pcs a0.Tc a0.Roads a0.Gds a0.Change a0.Lasts v9 a1 a2.Grand a2.Minute y13 hy13) [3,2] rfl (.cons rfl (.same (zay zac (zag eA2 vi) _ _) .nil)) (.cons rfl (.same (zay zac (zag eA2 vi) _ _) .nil)) rfl ?_
  refine jk 2 (.i 6 (vt y13) (.i 7 (vi 0) .n)) ?_
  refine q3 ?_
  have h:=si h
  subst h
  exact DoneS.ret (S' := ⟨[(6, vt y13), (7, vi 0)], []⟩) (sc [] (by decide) (by kernel_rfl) ObRen.nil rfl rfl) rfl rfl
 intro k1 k2 h
 refine q6 ?_
 refine rk 2 (.k3 (.i 14 (.agg [eS 1 vt a0.Pcs,eS 1 vt a0.Tc,eS 4 eRoad a0.Roads,eS 3 eGd a0.Gds,vi a0.Change,vi a0.Lasts]) (.i 15 (eS 7 eItem a1) .n))) ?_
 refine bK h fun y1 hy1 h=>?_
 rcases y1 with y1 | y1
 ·dsimp only at h
  refine jc 16 [14,15] (zck n a0 a1 (Sum.inl y1) hy1) ?_
  refine jk 5 (.d (.k3 (.i 8 (.p (.pointer none)) (.i 9 (vi y1) .n)))) ?_
  exact Vs.intro Sees.refl (.inl ⟨y1, rfl, h⟩)
 dsimp only at h
 refine jco (.tup [.ptr 3 0 0,vi y1.1]) 16 [14,15] (zck n a0 a1 (Sum.inr y1) hy1) [] rfl ObsRen.nil (.same (zay zac (zag eA2 vi) _ _) (.cons rfl .nil)) rfl ?_
 refine jk 5 (.d (.k3 (.i 8 (.ptr 3 0 0) (.i 9 (vi y1.1) .n)))) ?_
 exact Vs.intro Sees.refl (.inr ⟨(y1.1, y1.2), rfl, h⟩)
set_option maxHeartbeats 1000000 in
theorem q153k (n : Nat) (a0 : Int) (r : Int) (h : q122k n a0 = some r) : FnL Tryz.prog 128 [vk .u64 a0] [] (vi r) [] := by
 dsimp only [q122k] at h
 refine fo [2] Tryz.call128 Tryz.func128 rfl ?_
 refine sk (.k (.i 2 (vi 0) .n)) ?_
 refine TriE.seqK h (fun (t : Int × Int)=>match t with | (v1,v2)=>St.mk [(0,vk .u64 v1),(2,vi v2)] []) ?_ ?_
 ·rintro ⟨v1, v2⟩ h
  refine TriE.seqK h (fun (t : Int × Int)=>match t with | (v3,v4)=>St.mk [(0,vk .u64 v3),(2,vi v4)] []) ?_ ?_
  ·rintro ⟨v3, v4⟩ h
   refine TriE.seqK h (fun (t : Int × Int)=>match t with | (v5,v6)=>St.mk [(0,vk .u64 v5),(2,vi v6)] []) ?_ ?_
   ·rintro ⟨v5, v6⟩ h
    refine sj ?_
    refine rk 3 (.i 19 (vi v6) (.i 21 (vk .u8 (IntKind.u8.wrap v5)) .n)) ?_
    refine cK h fun c6 h=>?_
    refine jo 22 (.sidx (.c (.p (.string ⟨#[0,1,2,2,3,3,3,3,4,4,4,4,4,4,4,4,5,5,5,5,5,5,5,5,5,5,5,5,5,5,5,5,6,6,6,6,6,6,6,6,6,6,6,6,6,6,6,6,6,6,6,6,6,6,6,6,6,6,6,6,6,6,6,6,7,7,7,7,7,7,7,7,7,7,7,7,7,7,7,7,7,7,7,7,7,7,7,7,7,7,7,7,7,7,7,7,7,7,7,7,7,7,7,7,7,7,7,7,7,7,7,7,7,7,7,7,7,7,7,7,7,7,7,7,7,7,7,7,8,8,8,8,8,8,8,8,8,8,8,8,8,8,8,8,8,8,8,8,8,8,8,8,8,8,8,8,8,8,8,8,8,8,8,8,8,8,8,8,8,8,8,8,8,8,8,8,8,8,8,8,8,8,8,8,8,8,8,8,8,8,8,8,8,8,8,8,8,8,8,8,8,8,8,8,8,8,8,8,8,8,8,8,8,8,8,8,8,8,8,8,8,8,8,8,8,8,8,8,8,8,8,8,8,8,8,8,8,8,8,8,8,8,8,8,8,8,8,8,8,8,8,8,8,8,8,8]⟩))) 21) (zdk (j:=(IntKind.u8.wrap v5).toNat) rfl rfl (zfe c6) (zff c6)) ?_
    refine jo 23 (.conv .i64 22) (ok_convb (c:=(List.getD ([0,1,2,2,3,3,3,3,4,4,4,4,4,4,4,4,5,5,5,5,5,5,5,5,5,5,5,5,5,5,5,5,6,6,6,6,6,6,6,6,6,6,6,6,6,6,6,6,6,6,6,6,6,6,6,6,6,6,6,6,6,6,6,6,7,7,7,7,7,7,7,7,7,7,7,7,7,7,7,7,7,7,7,7,7,7,7,7,7,7,7,7,7,7,7,7,7,7,7,7,7,7,7,7,7,7,7,7,7,7,7,7,7,7,7,7,7,7,7,7,7,7,7,7,7,7,7,7,8,8,8,8,8,8,8,8,8,8,8,8,8,8,8,8,8,8,8,8,8,8,8,8,8,8,8,8,8,8,8,8,8,8,8,8,8,8,8,8,8,8,8,8,8,8,8,8,8,8,8,8,8,8,8,8,8,8,8,8,8,8,8,8,8,8,8,8,8,8,8,8,8,8,8,8,8,8,8,8,8,8,8,8,8,8,8,8,8,8,8,8,8,8,8,8,8,8,8,8,8,8,8,8,8,8,8,8,8,8,8,8,8,8,8,8,8,8,8,8,8,8,8,8,8,8,8,8] : Str) ((IntKind.u8.wrap v5).toNat) 0)) rfl) ?_
    refine cK h fun c7 h=>?_
    refine jo 24 (.bin .add false 19 23) (r_add rfl rfl c7) ?_
    refine jk 1 (.i 2 (vi (v6 + (((List.getD ([0,1,2,2,3,3,3,3,4,4,4,4,4,4,4,4,5,5,5,5,5,5,5,5,5,5,5,5,5,5,5,5,6,6,6,6,6,6,6,6,6,6,6,6,6,6,6,6,6,6,6,6,6,6,6,6,6,6,6,6,6,6,6,6,7,7,7,7,7,7,7,7,7,7,7,7,7,7,7,7,7,7,7,7,7,7,7,7,7,7,7,7,7,7,7,7,7,7,7,7,7,7,7,7,7,7,7,7,7,7,7,7,7,7,7,7,7,7,7,7,7,7,7,7,7,7,7,7,8,8,8,8,8,8,8,8,8,8,8,8,8,8,8,8,8,8,8,8,8,8,8,8,8,8,8,8,8,8,8,8,8,8,8,8,8,8,8,8,8,8,8,8,8,8,8,8,8,8,8,8,8,8,8,8,8,8,8,8,8,8,8,8,8,8,8,8,8,8,8,8,8,8,8,8,8,8,8,8,8,8,8,8,8,8,8,8,8,8,8,8,8,8,8,8,8,8,8,8,8,8,8,8,8,8,8,8,8,8,8,8,8,8,8,8,8,8,8,8,8,8,8,8,8,8,8,8] : Str) ((IntKind.u8.wrap v5).toNat) 0).toNat : Nat) : Int))) .n) ?_
    refine q3 ?_
    have h:=si h
    subst h
    exact DoneS.ret Sees.refl rfl rfl
   intro k3 h
   refine sk (.k2 (.i 14 (vb (decide ((256 : Int) ≤ v3))) .n)) ?_
   refine tc h (fun c4 h=>?_) (fun c4 h=>?_)
   ·refine sk (.d (.k (.i 0 (vk .u64 (Int.fdiv v3 (2 ^ (min 8 64)))) .n))) ?_
    refine q6 ?_
    refine rk 1 (.d (.k (.i 17 (vi v4) .n))) ?_
    refine cK h fun c5 h=>?_
    refine jo 18 (.bin .add false 17 (ki 8)) (r_add rfl rfl c5) ?_
    refine jk 1 (.d (.k (.i 2 (vi (v4 + 8)) .n))) ?_
    exact Vs.intro Sees.refl ⟨(Int.fdiv v3 (2 ^ (min 8 64)), v4 + 8), rfl, h⟩
   refine q2 ?_
   exact Vs.intro sy ⟨(v3, v4), rfl, h⟩
  intro k2 h
  refine sk (.k2 (.i 8 (vb (decide ((65536 : Int) ≤ v1))) .n)) ?_
  refine tc h (fun c2 h=>?_) (fun c2 h=>?_)
  ·refine sk (.d (.k (.i 0 (vk .u64 (Int.fdiv v1 (2 ^ (min 16 64)))) .n))) ?_
   refine q6 ?_
   refine rk 1 (.d (.k (.i 11 (vi v2) .n))) ?_
   refine cK h fun c3 h=>?_
   refine jo 12 (.bin .add false 11 (ki 16)) (r_add rfl rfl c3) ?_
   refine jk 1 (.d (.k (.i 2 (vi (v2 + 16)) .n))) ?_
   exact Vs.intro Sees.refl ⟨(Int.fdiv v1 (2 ^ (min 16 64)), v2 + 16), rfl, h⟩
  refine q2 ?_
  exact Vs.intro sy ⟨(v1, v2), rfl, h⟩
 intro k1 h
 refine sk (.k2 (.i 4 (vb (decide ((4294967296 : Int) ≤ a0))) .n)) ?_
 refine tc h (fun c1 h=>?_) (fun c1 h=>?_)
 ·refine sk (.i 0 (vk .u64 (Int.fdiv a0 (2 ^ (min 32 64)))) .n) ?_
  refine tk (.k (.i 2 (vi 32) .n)) ?_
  exact Vs.intro Sees.refl ⟨(Int.fdiv a0 (2 ^ (min 32 64)), 32), rfl, h⟩
 refine q2 ?_
 exact Vs.intro sy ⟨(a0, 0), rfl, h⟩
theorem q155k (n : Nat) (a0 : Int) (r : Int) (h : q87k n a0 = some r) : FnL Tryz.prog 102 [vk .u64 a0] [] (vi r) [] := by
 dsimp only [q87k] at h
 refine fo [2] Tryz.call102 Tryz.func102 rfl ?_
 refine sk .a ?_
 refine q1 ?_
 refine TriE.cond (b:=false) rfl (fun c1=>?_) (fun c1=>?_)
 ·cases c1
 refine q2 ?_
 refine sj ?_
 refine rk 1 (.i 6 (vk .u64 a0) .n) ?_
 refine bK h fun y1 hy1 h=>?_
 refine jc 7 [6] (q153k n a0 y1 hy1) ?_
 refine jk 1 (.i 2 (vi y1) .n) ?_
 refine q3 ?_
 have h:=si h
 subst h
 exact DoneS.ret Sees.refl rfl rfl
theorem q142k (n : Nat) (a0 : Int) (r : Unit) (h : q96k n a0 = some r) : FnL Tryz.prog 112 [vi a0] [] (vb (a0 != a0)) [] := by
 dsimp only [q96k] at h
 refine fo [2] Tryz.call112 Tryz.func112 rfl ?_
 refine sk .a ?_
 refine sk (.i 2 (vb (a0 != a0)) .n) ?_
 refine q3 ?_
 have h:=si h
 subst h
 exact DoneS.ret Sees.refl rfl rfl
theorem q129k (n : Nat) (a0 : Int) (a1 : Int) (r : Int) (h : q50k n a0 a1 = some r) : FnL Tryz.prog 90 [vi a0, vi a1] [] (vi r) [] := by
 dsimp only [q50k] at h
 refine fo [4] Tryz.call90 Tryz.func90 rfl ?_
 refine sk .a ?_
 refine sj ?_
 refine rk 1 (.k2 (.i 7 (vi a0) .n)) ?_
 refine bK h fun y1 hy1 h=>?_
 refine jc 8 [7] (q142k n a0 y1 hy1) ?_
 refine jk 1 (.d (.k2 (.i 5 (vb (a0 != a0)) .n))) ?_
 refine sj ?_
 refine rk 1 (.k3 (.i 9 (vi a1) .n)) ?_
 refine bK h fun y2 hy2 h=>?_
 refine jc 10 [9] (q142k n a1 y2 hy2) ?_
 refine jk 1 (.d (.k3 (.i 6 (vb (a1 != a1)) .n))) ?_
 refine q1 ?_
 refine sk (.k2 (.d (.k (.i 11 (vb (a0 != a0)) .n)))) ?_
 refine tc h (fun c1 h=>?_) (fun c1 h=>?_)
 ·refine q1 ?_
  refine sk (.i 12 (vb (a1 != a1)) .n) ?_
  refine tc h (fun c2 h=>?_) (fun c2 h=>?_)
  ·refine sk (.i 4 (vi 0) .n) ?_
   refine q3 ?_
   have h:=si h
   subst h
   exact DoneS.ret Sees.refl rfl rfl
  refine q2 ?_
  refine sk (.i 4 (vi (-1)) .n) ?_
  refine q3 ?_
  have h:=si h
  subst h
  exact DoneS.ret Sees.refl rfl rfl
 refine q2 ?_
 refine q1 ?_
 refine sk (.k2 (.i 13 (vb (a1 != a1)) .n)) ?_
 refine tc h (fun c3 h=>?_) (fun c3 h=>?_)
 ·refine sk (.i 4 (vi 1) .n) ?_
  refine q3 ?_
  have h:=si h
  subst h
  exact DoneS.ret Sees.refl rfl rfl
 refine q2 ?_
 refine q1 ?_
 refine sk (.k2 (.i 16 (vb (decide (a0 < a1))) .n)) ?_
 refine tc h (fun c4 h=>?_) (fun c4 h=>?_)
 ·refine sk (.i 4 (vi (-1)) .n) ?_
  refine q3 ?_
  have h:=si h
  subst h
  exact DoneS.ret Sees.refl rfl rfl
 refine q2 ?_
 refine q1 ?_
 refine sk (.i 19 (vb (decide (a1 < a0))) .n) ?_
 refine tc h (fun c5 h=>?_) (fun c5 h=>?_)
 ·refine sk (.i 4 (vi 1) .n) ?_
  refine q3 ?_
  have h:=si h
  subst h
  exact DoneS.ret Sees.refl rfl rfl
 refine q2 ?_
 refine sk (.i 4 (vi 0) .n) ?_
 refine q3 ?_
 have h:=si h
 subst h
 exact DoneS.ret Sees.refl rfl rfl
theorem q157k (n : Nat) (a0 : List Int) (r : Int) (h : q152k n a0 = some r) : FnL Tryz.prog 89 [.own 0 0 a0.length] [some (.row 1 (List.map vi a0))] (vi r) [some (.row 1 (List.map vi a0))] := by
 dsimp only [q152k] at h
 refine fob [2] Tryz.call89 Tryz.func89 rfl (.cons rfl .nil) ?_
 refine sk .a ?_
 refine sk (.k (.i 3 (vi 0) .n)) ?_
 refine TriE.seqK h (fun (_ : Unit)=>St.mk [(3,vi 0)] [some (.row 1 (List.map vi a0))]) ?_ ?_
 ·rintro ⟨⟩ h
  refine sk (.i 2 (vi 0) .n) ?_
  refine q3 ?_
  have h:=si h
  subst h
  exact DoneS.ret Sees.refl rfl rfl
 intro k1 h
 refine sk (.d (.k (.i 6 (.own 0 0 a0.length) (.i 7 (vi (a0.length : Int)) (.i 8 (vi 0) .n))))) ?_
 refine q4 ?_
 refine ts (.k3 (.i 8 (vi 0) .n)) ?_
 refine TriE.loopN h (fun (v1 : Nat)=>St.mk [(3,vi 0),(6,.own 0 0 a0.length),(7,vi (a0.length : Int)),(8,vi v1)] [some (.row 1 (List.map vi a0))]) rfl ?_
 clear h
 rintro back v1 h
 dsimp only [q141k] at h
 refine sj ?_
 refine jo 9 (.bin .lss false 8 7) (zbg (i:=v1) (j:=a0.length) rfl rfl) ?_
 refine jf (.d (.k4 (.i 9 (vb (decide (v1 < a0.length))) .n))) ?_
 refine q1 ?_
 refine tc h (fun c1 h=>?_) (fun c1 h=>?_)
 ·refine q2 ?_
  refine q7 ?_
  refine sj ?_
  refine jo 10 (.iaddr 1 6 8) (zat (j:=v1) rfl rfl rfl rfl c1) ?_
  refine jo 11 (.load false 1 10) (zaz (l:=a0) (e:=vi) (v:=vi (ix a0 v1)) rfl rfl c1 rfl) ?_
  refine jk 1 (.d2 (.k4 (.i 5 (vi (ix a0 v1)) .n))) ?_
  refine sk (.k4 (.k (.i 14 (vb ((ix a0 v1) != (0 : Int))) .n))) ?_
  refine tc h (fun c2 h=>?_) (fun c2 h=>?_)
  ·refine sk (.i 2 (vi (ix a0 v1)) .n) ?_
   refine q3 ?_
   have h:=si h
   subst h
   exact DoneS.ret Sees.refl rfl rfl
  refine q2 ?_
  refine q6 ?_
  refine cK h fun c3 h=>?_
  refine jo 16 (.bin .add false 8 (ki 1)) (zan (i:=v1) (j:=1) rfl rfl c3) ?_
  refine jk 1 (.d (.k3 (.i 8 (vi ((v1 + 1 : Nat) : Int)) .n))) ?_
  exact Vs.intro sy ⟨(v1 + 1), rfl, h⟩
 refine q5 ?_
 exact Vs.intro sy ⟨(), rfl, h⟩
theorem diary_Busy_f1_ok (n : Nat) (a0 : A2i) (a1 : A2i) (r : Int) (h : diary_Busy_f1 n a0 a1 = some r) : FnL Tryz.prog 88 [.agg [vi a0.a0, vi a0.a1], .agg [vi a1.a0, vi a1.a1]] [] (vi r) [] := by
 dsimp only [diary_Busy_f1] at h
 refine fo [4] Tryz.call88 Tryz.func88 rfl ?_
 refine sko (.i 2 (.ptr 0 0 0) (.i 3 (.ptr 1 0 0) .n)) [some (.row 2 [.agg [vi a0.a0,vi a0.a1]]),some (.row 2 [.agg [vi a1.a0,vi a1.a1]])] ?_
 refine q1 ?_
 refine ts .a ?_
 refine TriE.draw (by kernel_rfl) ?_
 refine dk 4 (.i 8 (vi a1.a0) (.i 7 (.ptr 1 0 0) (.i 6 (vi a0.a0) (.i 5 (.ptr 0 0 0) .a)))) ?_
 refine bK h fun y1 hy1 h=>?_
 refine dc (vi y1) 0 9 [6,8] (q129k n a0.a0 a1.a0 y1 hy1) [] rfl ObsRen.nil ObsRen.nil rfl (.inr ⟨rfl,rfl⟩) ?_
 refine dk 4 (.i 13 (vi a1.a1) (.i 12 (.ptr 1 0 1) (.i 11 (vi a0.a1) (.i 10 (.ptr 0 0 1) .a)))) ?_
 refine bK h fun y2 hy2 h=>?_
 refine dc (vi y2) 0 14 [11,13] (q129k n a0.a1 a1.a1 y2 hy2) [] rfl ObsRen.nil ObsRen.nil rfl (.inr ⟨rfl,rfl⟩) ?_
 refine dko 1 (.i 15 (.own 12 0 2) .a) [some (.row 2 [.agg [vi a0.a0,vi a0.a1]]),some (.row 2 [.agg [vi a1.a0,vi a1.a1]]),none,none,none,none,none,none,none,none,none,none,some (.row 1 [vi y1,vi y2])] ?_
 refine bK h fun y3 hy3 h=>?_
 refine dc (vi y3) 0 16 [15] (q157k n ([y1,y2] : List Int) y3 hy3) [12] rfl (.same (zaq zac _ _ _) .nil) (.same (zaq zac _ _ _) .nil) rfl (.inr ⟨rfl,rfl⟩) ?_
 refine dk 1 (.i 4 (vi y3) .a) ?_
 refine dfi (.k .n) [] ObRen.nil ?_
 refine q3 ?_
 have h:=si h
 subst h
 exact DoneS.ret Sees.refl rfl rfl
set_option maxHeartbeats 1000000 in
theorem q97k (n : Nat) (a0 : List A2i) (a1 : Int) (a2 : Int) (r : (List A2i)) (h : q6k n a0 a1 a2 = some r) : FnL Tryz.prog 132 [.own 0 0 a0.length, vi a1, vi a2, .fn (.func 88) [] []] [some (.row 2 (List.map zae a0))] (.tup []) [some (.row 2 (List.map zae r))] := by
 dsimp only [q6k] at h
 refine fob [] Tryz.call132 Tryz.func132 rfl (.cons rfl .nil) ?_
 refine sj ?_
 refine rk 1 (.k4 (.i 10 (vi a1) .n)) ?_
 refine cK h fun c1 h=>?_
 refine jo 11 (.bin .add false 10 (ki 1)) (r_add rfl rfl c1) ?_
 refine jk 1 (.d (.k4 (.i 8 (vi (a1 + 1)) .n))) ?_
 refine q4 ?_
 refine TriE.loopN h (fun (t : Int × (List A2i))=>match t with | (v6,v7)=>St.mk [(0,.own 0 0 v7.length),(1,vi a1),(2,vi a2),(3,.fn (.func 88) [] []),(8,vi v6)] [some (.row 2 (List.map zae v7))]) rfl ?_
 clear h
 rintro back ⟨v6,v7⟩ h
 dsimp only [q2k] at h
 refine q1 ?_
 refine sk (.k4 (.k (.i 14 (vb (decide (v6 < a2))) .n))) ?_
 refine tc h (fun c2 h=>?_) (fun c2 h=>?_)
 ·refine q2 ?_
  refine TriE.seqK h (fun (v12 : (List A2i))=>St.mk [(0,.own 0 0 v12.length),(1,vi a1),(2,vi a2),(3,.fn (.func 88) [] []),(8,vi v6)] [some (.row 2 (List.map zae v12))]) ?_ ?_
  ·rintro v12 h
   refine q6 ?_
   refine rk 1 (.k4 (.i 15 (vi v6) .n)) ?_
   refine cK h fun c15 h=>?_
   refine jo 16 (.bin .add false 15 (ki 1)) (r_add rfl rfl c15) ?_
   refine jk 1 (.d (.k4 (.i 8 (vi (v6 + 1)) .n))) ?_
   exact Vs.intro Sees.refl ⟨(v6 + 1, v12), rfl, h⟩
  intro k1 h
  refine q4 ?_
  refine sk (.k4 (.k (.i 9 (vi v6) .n))) ?_
  refine q4 ?_
  refine TriE.loopN h (fun (t : Int × (List A2i))=>match t with | (v9,v10)=>St.mk [(0,.own 0 0 v10.length),(1,vi a1),(2,vi a2),(3,.fn (.func 88) [] []),(8,vi v6),(9,vi v9)] [some (.row 2 (List.map zae v10))]) rfl ?_
  clear h
  rintro back ⟨v9,v10⟩ h
  dsimp only [q7k] at h
  refine q1 ?_
  refine q1 ?_
  refine ts .a ?_
  refine TriE.draw (by kernel_rfl) ?_
  refine dk 4 (.i 21 (vb (decide (a1 < v9))) (.i 20 (vb (decide (a1 < v9))) (.i 19 (vi a1) (.i 18 (vi v9) .a)))) ?_
  refine gd (decide (a1 < v9)) (.fn (.func 88) [] []) 22 (.mov 3) 21 true rfl (fun hg=>(.cons rfl .nil)) ?_
  refine gd (decide (a1 < v9)) (.own 0 0 v10.length) 23 (.mov 0) 21 true rfl (fun hg=>(.cons rfl .nil)) ?_
  refine gd (decide (a1 < v9)) (vi v9) 24 (.mov 9) 21 true rfl (fun hg=>(.cons rfl .nil)) ?_
  refine cK h fun c3 h=>?_
  refine gu (decide (a1 < v9)) 25 (.iaddr 2 23 24) 21 true rfl (fun hg=>(zat (j:=v9.toNat) rfl rfl rfl (zfe (gor c3 hg)) (zff (gor c3 hg)))) (fun hg=>(.cons hg (.cons hg .nil))) ?_
  refine cK h fun c4 h=>?_
  refine gu (decide (a1 < v9)) 26 (.load true 2 25) 21 true rfl (fun hg=>(zaz (l:=v10) (e:=zae) (v:=.agg [vi ((ix v10 v9.toNat).a0),vi ((ix v10 v9.toNat).a1)]) rfl rfl (gor c4 hg) rfl)) (fun hg=>(.cons hg .nil)) ?_
  refine gd (decide (a1 < v9)) (.own 0 0 v10.length) 27 (.mov 0) 21 true rfl (fun hg=>(.cons rfl .nil)) ?_
  refine gd (decide (a1 < v9)) (vi v9) 28 (.mov 9) 21 true rfl (fun hg=>(.cons rfl .nil)) ?_
  refine cK h fun c5 h=>?_
  refine gu (decide (a1 < v9)) 29 (.bin .sub false 28 (ki 1)) 21 true rfl (fun hg=>(r_sub rfl rfl (gor c5 hg))) (fun hg=>(.cons hg (.cons rfl .nil))) ?_
  refine cK h fun c6 h=>?_
  refine gu (decide (a1 < v9)) 30 (.iaddr 2 27 29) 21 true rfl (fun hg=>(zat (j:=(v9 - 1).toNat) rfl rfl rfl (zfe (gor c6 hg)) (zff (gor c6 hg)))) (fun hg=>(.cons hg (.cons hg .nil))) ?_
  refine cK h fun c7 h=>?_
  refine gu (decide (a1 < v9)) 31 (.load true 2 30) 21 true rfl (fun hg=>(zaz (l:=v10) (e:=zae) (v:=.agg [vi ((ix v10 ((v9 - 1).toNat)).a0),vi ((ix v10 ((v9 - 1).toNat)).a1)]) rfl rfl (gor c7 hg) rfl)) (fun hg=>(.cons hg .nil)) ?_
  refine bK h fun y11 hy11 h=>?_
  refine RegD.op (OpD.dyng (g:=decide (a1 < v9)) (y':=vi y11) (obx:=[]) _ _ _ (cy (IG 32 (.dyn 22 [26,31]) 21 true)) rfl rfl (fun hg=>diary_Busy_f1_ok n (ix v10 v9.toNat) (ix v10 ((v9 - 1).toNat)) y11 (zao hy11 hg)) [] (fun hg=>by kernel_rfl) (fun hg=>(.cons hg (.cons hg (.cons hg .nil)))) (by kernel_rfl) (by kernel_rfl) ObsRen.nil (by kernel_rfl) (by kernel_rfl) rfl) ?_
  refine gd (decide (a1 < v9)) (vb (decide (y11 < (0 : Int)))) 33 (.bin .lss false 32 (ki 0)) 21 true rfl (fun hg=>(.cons hg (.cons rfl .nil))) ?_
  refine RegD.op (OpD.and (cy (I0 34 (.pick 21 33 (.c (.p (.bool false)))))) rfl rfl (by first | exact zez | exact zfa | simp)) ?_
  refine dfi (.d4 (.d4 (.d4 (.d4 (.d (.k4 (.k2 (.i 34 (vb ((decide (a1 < v9)) && (decide (y11 < (0 : Int))))) .n)))))))) [0] (zam zas rfl .nil) ?_
  refine tc h (fun c8 h=>?_) (fun c8 h=>?_)
  ·refine q2 ?_
   refine q7 ?_
   refine ts (.k4 (.k2 .n)) ?_
   refine TriE.draw (by kernel_rfl) ?_
   refine dk 4 (.i 40 (vi v9) (.i 39 (.own 0 0 v10.length) (.i 38 (vi v9) (.i 37 (.own 0 0 v10.length) .a)))) ?_
   refine cK h fun c9 h=>?_
   refine dp 41 (.bin .sub false 40 (ki 1)) (r_sub rfl rfl c9) ?_
   refine dk 2 (.i 43 (vi v9) (.i 42 (.own 0 0 v10.length) .a)) ?_
   refine dp 44 (.bin .sub false 43 (ki 1)) (r_sub rfl rfl c9) ?_
   refine cK h fun c10 h=>?_
   refine dp 45 (.iaddr 2 42 44) (zat (j:=(v9 - 1).toNat) rfl rfl rfl (zfe c10) (zff c10)) ?_
   refine cK h fun c11 h=>?_
   refine dp 46 (.load true 2 45) (zaz (l:=v10) (e:=zae) (v:=.agg [vi ((ix v10 ((v9 - 1).toNat)).a0),vi ((ix v10 ((v9 - 1).toNat)).a1)]) rfl rfl c11 rfl) ?_
   refine dk 2 (.i 48 (vi v9) (.i 47 (.own 0 0 v10.length) .a)) ?_
   refine cK h fun c12 h=>?_
   refine dp 49 (.iaddr 2 47 48) (zat (j:=v9.toNat) rfl rfl rfl (zfe c12) (zff c12)) ?_
   refine cK h fun c13 h=>?_
   refine dp 50 (.load true 2 49) (zaz (l:=v10) (e:=zae) (v:=.agg [vi ((ix v10 v9.toNat).a0),vi ((ix v10 v9.toNat).a1)]) rfl rfl c13 rfl) ?_
   refine dp 51 (.iaddr 2 37 38) (zat (j:=v9.toNat) rfl rfl rfl (zfe c12) (zff c12)) ?_
   refine dm (.store 2 51 46) _ (ok_store_m (l:=v10) (e:=zae) (x':=(ix v10 ((v9 - 1).toNat))) (u:=.agg [vi ((ix v10 ((v9 - 1).toNat)).a0),vi ((ix v10 ((v9 - 1).toNat)).a1)]) rfl rfl rfl c13 rfl rfl) rfl rfl ?_
   refine dp 52 (.iaddr 2 39 41) (zat (j:=(v9 - 1).toNat) rfl rfl rfl (zfe c10) (zff c10)) ?_
   refine cK h fun c14 h=>?_
   refine dm (.store 2 52 50) _ (ok_store_m (l:=(List.set v10 v9.toNat (ix v10 ((v9 - 1).toNat)))) (e:=zae) (x':=(ix v10 v9.toNat)) (u:=.agg [vi ((ix v10 v9.toNat).a0),vi ((ix v10 v9.toNat).a1)]) rfl rfl rfl c14 rfl rfl) rfl rfl ?_
   refine dfi (.d4 (.d4 (.d4 (.d4 .a)))) [0] (zam zas rfl .nil) ?_
   refine q6 ?_
   refine rk 1 (.k4 (.k (.i 35 (vi v9) .n))) ?_
   refine jo 36 (.bin .sub false 35 (ki 1)) (r_sub rfl rfl c9) ?_
   refine jk 1 (.d (.k4 (.k (.i 9 (vi (v9 - 1)) .n)))) ?_
   exact Vs.intro (Sees.less (.cons (by simp only [List.length_set]; rfl) (.cons rfl (.cons rfl (.cons rfl (.cons rfl (.cons rfl .nil))))))) ⟨(v9 - 1, (List.set (List.set v10 v9.toNat (ix v10 ((v9 - 1).toNat))) ((v9 - 1).toNat) (ix v10 v9.toNat))), rfl, h⟩
  refine q5 ?_
  exact Vs.intro sy ⟨v10, rfl, h⟩
 refine q5 ?_
 have h:=si h
 subst h
 exact dn .n rfl rfl
theorem q114k (n : Nat) (a0 : List A2i) (a1 : Int) (a2 : Int) (a3 : Int) (r : (List A2i)) (h : q15k n a0 a1 a2 a3 = some r) : FnL Tryz.prog 111 [.own 0 0 a0.length, vi a1, vi a2, vi a3, .fn (.func 88) [] []] [some (.row 2 (List.map zae a0))] (.tup []) [some (.row 2 (List.map zae r))] := by
 dsimp only [q15k] at h
 refine fob [] Tryz.call111 Tryz.func111 rfl (.cons rfl .nil) ?_
 refine sk (.k4 (.k (.i 10 (vb true) .n))) ?_
 refine sk (.k4 (.k2 (.i 11 (vb true) .n))) ?_
 refine q4 ?_
 refine TriE.loopN h (fun (_ : Unit)=>St.mk [(0,.own 0 0 a0.length),(1,vi a1),(2,vi a2),(3,vi a3),(4,.fn (.func 88) [] []),(10,vb true),(11,vb true)] [some (.row 2 (List.map zae a0))]) rfl ?_
 clear h
 rintro back ⟨⟩ h
 dsimp only [q49k] at h
 refine q4 ?_
 refine sj ?_
 refine rk 2 (.k4 (.k3 (.i 21 (vi a2) (.i 22 (vi a1) .n)))) ?_
 refine cK h fun c1 h=>?_
 refine jo 23 (.bin .sub false 21 22) (r_sub rfl rfl c1) ?_
 refine jk 1 (.d (.k4 (.k3 (.i 12 (vi (a2 - a1)) .n)))) ?_
 refine q1 ?_
 refine sk (.k4 (.k4 (.i 25 (vb (decide ((a2 - a1) ≤ (12 : Int)))) .n))) ?_
 refine tc h (fun c2 h=>?_) (fun c2 h=>?_)
 ·refine sj ?_
  refine rk 4 (.i 26 (.own 0 0 a0.length) (.i 27 (vi a1) (.i 28 (vi a2) (.i 29 (.fn (.func 88) [] []) .n)))) ?_
  refine bK h fun y1 hy1 h=>?_
  refine jco (.tup []) 30 [26,27,28,29] (q97k n a0 a1 a2 y1 hy1) [0] rfl (.same (zaq zas _ _ _) .nil) (.same (zaq zas _ _ _) .nil) rfl ?_
  refine cK h fun c3 h=>?_
  refine RegJ.sees (S':=⟨[(26,.own 0 0 y1.length),(27,vi a1),(28,vi a2),(29,.fn (.func 88) [] []),(30,.tup [])],[some (.row 2 (List.map zae y1))]⟩) (Sees.cov (Cov.mk2 (rs:=[0]) (by decide) rfl rfl (.cons (.inl (by rw [show a0.length = y1.length from of_decide_eq_true c3]; rfl)) (.cons (.inl rfl) (.cons (.inl rfl) (.cons (.inl rfl) (.cons (.inl rfl) .nil))))) (zam zas rfl .nil))) ?_
  refine jf .n ?_
  refine q3 ?_
  have h:=si h
  subst h
  exact DoneS.ret Sees.refl rfl rfl
 refine q2 ?_
 refine q1 ?_
 refine sk (.k4 (.k4 (.i 32 (vb (a3 == (0 : Int))) .n))) ?_
 refine tc h (fun c4 h=>?_) (fun c4 h=>?_)
 ·refine sj ?_
  refine rk 4 (.i 33 (.own 0 0 a0.length) (.i 34 (vi a1) (.i 35 (vi a2) (.i 36 (.fn (.func 88) [] []) .n)))) ?_
  cases h
 refine q2 ?_
 refine q1 ?_
 refine sk (.k4 (.k4 (.i 39 (vb false) .n))) ?_
 refine TriE.cond (b:=false) rfl (fun c5=>?_) (fun c5=>?_)
 ·cases c5
 refine q2 ?_
 refine sj ?_
 refine rk 4 (.k4 (.k4 (.i 48 (.own 0 0 a0.length) (.i 49 (vi a1) (.i 50 (vi a2) (.i 51 (.fn (.func 88) [] []) .n)))))) ?_
 cases h
theorem q136k (n : Nat) (a0 : List A2i) (r : (List A2i)) (h : q53k n a0 = some r) : FnL Tryz.prog 87 [.own 0 0 a0.length, .fn (.func 88) [] []] [some (.row 2 (List.map zae a0))] (.tup []) [some (.row 2 (List.map zae r))] := by
 dsimp only [q53k] at h
 refine fob [] Tryz.call87 Tryz.func87 rfl (.cons rfl .nil) ?_
 refine sk (.k2 (.i 4 (vi (a0.length : Int)) .n)) ?_
 refine q6 ?_
 refine rk 4 (.d (.k (.i 7 (.own 0 0 a0.length) (.i 8 (vi (a0.length : Int)) (.i 10 (vk .u64 (IntKind.u64.wrap (a0.length : Int))) .n))))) ?_
 refine bK h fun y1 hy1 h=>?_
 refine jc 11 [10] (q155k n (IntKind.u64.wrap (a0.length : Int)) y1 hy1) ?_
 refine rk 1 (.d2 (.k2 (.i 11 (vi y1) (.i 12 (.fn (.func 88) [] []) .n)))) ?_
 refine bK h fun y2 hy2 h=>?_
 refine jco (.tup []) 13 [7,(ki 0),8,11,12] (q114k n a0 0 (a0.length : Int) y1 y2 hy2) [0] rfl (.same (zaq zas _ _ _) .nil) (.same (zaq zas _ _ _) .nil) rfl ?_
 refine cK h fun c1 h=>?_
 refine RegJ.sees (S':=⟨[(7,.own 0 0 y2.length),(8,vi (a0.length : Int)),(11,vi y1),(12,.fn (.func 88) [] []),(13,.tup [])],[some (.row 2 (List.map zae y2))]⟩) (Sees.cov (Cov.mk2 (rs:=[0]) (by decide) rfl rfl (.cons (.inl (by rw [show a0.length = y2.length from of_decide_eq_true c1]; rfl)) (.cons (.inl rfl) (.cons (.inl rfl) (.cons (.inl rfl) (.cons (.inl rfl) .nil))))) (zam zas rfl .nil))) ?_
 refine jf .n ?_
 have h:=si h
 subst h
 exact DoneS.normal Sees.refl rfl rfl
set_option maxHeartbeats 1000000 in
theorem diary_Busy_ok (n : Nat) (a0 : Diary) (a1 : List Item) (a2 : Str) (r : Int × (List A2i)) (h : diary_Busy n a0 a1 a2 = some r) : FnL Tryz.prog 41 [.agg [eS 1 vt a0.Pcs, eS 1 vt a0.Tc, eS 4 eRoad a0.Roads, eS 3 eGd a0.Gds, vi a0.Change, vi a0.Lasts], eS 7 eItem a1, vt a2] [] (.tup [eS 2 zae r.2, vi r.1]) [] := by
 dsimp only [diary_Busy] at h
 refine fo [6,7] Tryz.call41 Tryz.func41 rfl ?_
 refine sko (.d (.k2 (.i 3 (.ptr 0 0 0) .n))) [some (.row 6 [.agg [eS 1 vt a0.Pcs,eS 1 vt a0.Tc,eS 4 eRoad a0.Roads,eS 3 eGd a0.Gds,vi a0.Change,vi a0.Lasts]])] ?_
 refine q1 ?_
 refine TriE.seqK h (fun (v2 : Int)=>St.mk [(1,eS 7 eItem a1),(2,vt a2),(3,.ptr 0 0 0),(9,vi v2)] [some (.row 6 [.agg [eS 1 vt a0.Pcs,eS 1 vt a0.Tc,eS 4 eRoad a0.Roads,eS 3 eGd a0.Gds,vi a0.Change,vi a0.Lasts]])]) ?_ ?_
 ·rintro v2 h
  refine sk (.k4 (.i 22 (vb (v2 != (0 : Int))) .n)) ?_
  refine tc h (fun c1 h=>?_) (fun c1 h=>?_)
  ·refine sk (.i 6 .emp (.i 7 (vi v2) .n)) ?_
   refine q3 ?_
   have h:=si h
   subst h
   exact DoneS.ret (S' := ⟨[(6, eS 2 zae ([] : List A2i)), (7, vi v2)], []⟩) (Sees.trans (Sees.vco (fr' := [(6, eS 2 zae ([] : List A2i)), (7, vi v2)]) (.cons .sl (.cons .same .nil))) (sc [] (by decide) (by kernel_rfl) ObRen.nil rfl rfl)) rfl rfl
  refine q2 ?_
  refine sj ?_
  refine rk 2 (.k3 (.i 25 (.agg [eS 1 vt a0.Pcs,eS 1 vt a0.Tc,eS 4 eRoad a0.Roads,eS 3 eGd a0.Gds,vi a0.Change,vi a0.Lasts]) (.i 26 (vt a2) .n))) ?_
  refine bK h fun y3 hy3 h=>?_
  refine jc 27 [25,26] (zdr n a0 a2 y3 hy3) ?_
  refine jko 6 (.d (.k3 (.i 11 (vb y3.2.2.2) .n))) [some (.row 6 [.agg [eS 1 vt a0.Pcs,eS 1 vt a0.Tc,eS 4 eRoad a0.Roads,eS 3 eGd a0.Gds,vi a0.Change,vi a0.Lasts]]),some (.row 3 [.agg [vt y3.1,vt y3.2.1,vi y3.2.2.1]])] ?_
  refine q1 ?_
  refine sj ?_
  refine rk 3 (.k4 (.i 32 (vb (!y3.2.2.2)) .n)) ?_
  refine gj (.ptr 0 0 1) 33 (.faddr 1 3) 32 true rfl ?_
  refine gk (eS 1 vt a0.Tc) 34 (.load false 1 33) 32 true rfl (fun hg=>(.cons hg .nil)) ?_
  refine gj (vt a2) 35 (.mov 2) 32 true rfl ?_
  refine bK h fun y4 hy4 h=>?_
  refine gc 36 [34,35] 32 true rfl (fun hg=>q5k n a0.Tc a2 y4 (zao hy4 hg)) (fun hg=>(.cons rfl (.cons hg (.cons hg .nil)))) (fun hg=>by kernel_rfl) ?_
  refine gk (vb (!y4)) 37 (.un .not 36) 32 true rfl (fun hg=>(.cons hg .nil)) ?_
  refine pa 38 32 37 rfl rfl ?_
  refine jf (.d4 (.d2 (.k2 (.d (.k (.i 38 (vb ((!y3.2.2.2) && (!y4))) .n)))))) ?_
  refine tc h (fun c2 h=>?_) (fun c2 h=>?_)
  ·refine sk (.i 6 .emp (.i 7 (vi 6) .n)) ?_
   refine q3 ?_
   have h:=si h
   subst h
   exact DoneS.ret (S' := ⟨[(6, eS 2 zae ([] : List A2i)), (7, vi 6)], []⟩) (Sees.trans (Sees.vco (fr' := [(6, eS 2 zae ([] : List A2i)), (7, vi 6)]) (.cons .sl (.cons .same .nil))) (sc [] (by decide) (by kernel_rfl) ObRen.nil rfl rfl)) rfl rfl
  refine q2 ?_
  refine sk (.k3 (.i 12 .emp .n)) ?_
  refine TriE.seqK h (fun (v9 : (List A2i))=>St.mk [(12,.own 0 0 v9.length)] [some (.row 2 (List.map zae v9))]) ?_ ?_
  ·rintro v9 h
   refine sj ?_
   refine rk 1 (.k (.i 76 (.own 0 0 v9.length) .n)) ?_
   refine bK h fun y10 hy10 h=>?_
   refine jco (.tup []) 77 [76,(.c (.fn (.func 88) [] []))] (q136k n v9 y10 hy10) [0] rfl (.same (zaq zas _ _ _) .nil) (.same (zaq zas _ _ _) .nil) rfl ?_
   refine cK h fun c7 h=>?_
   refine RegJ.sees (S':=⟨[(12,.own 0 0 y10.length),(76,.own 0 0 y10.length),(77,.tup [])],[some (.row 2 (List.map zae y10))]⟩) (Sees.cov (Cov.mk2 (rs:=[0]) (by decide) rfl rfl (.cons (.inl (by rw [show v9.length = y10.length from of_decide_eq_true c7]; rfl)) (.cons (.inl (by rw [show v9.length = y10.length from of_decide_eq_true c7]; rfl)) (.cons (.inl rfl) .nil))) (zam zas rfl .nil))) ?_
   refine jf (.k .n) ?_
   refine sk (.i 6 (.own 0 0 y10.length) (.i 7 (vi 0) .n)) ?_
   refine q3 ?_
   have h:=si h
   subst h
   exact DoneS.ret (S' := ⟨[(6, eS 2 zae y10), (7, vi 0)], []⟩) (Sees.trans (Sees.freeze 0 (fr' := [(6, eS 2 zae y10), (7, vi 0)]) (ob' := [none]) rfl (frz_row eArr2_Int_frzE _) (.cons (zes rfl) (.cons (.refl _) .nil)) rfl) (sc [] (by decide) (by kernel_rfl) ObRen.nil rfl rfl)) rfl rfl
  intro k3 h
  refine sj ?_
  refine rk 1 (.d (.k3 (.i 39 (eS 7 eItem a1) .n))) ?_
  refine jo 40 (.len 0 39) (zad rfl) ?_
  refine jk 1 (.d (.k4 (.i 40 (vi (a1.length : Int)) (.i 41 (vi 0) .n)))) ?_
  refine q4 ?_
  refine TriE.sees (S':=⟨[(2,vt a2),(11,vb y3.2.2.2),(12,.own 0 0 ([] : List A2i).length),(39,eS 7 eItem a1),(40,vi (a1.length : Int)),(41,vi 0)],[some (.row 2 (List.map zae ([] : List A2i)))]⟩) (Sees.trans (Sees.co (fr':=[(2,vt a2),(11,vb y3.2.2.2),(12,.own 2 0 0),(39,eS 7 eItem a1),(40,vi (a1.length : Int)),(41,vi 0)]) (ob':=[some (.row 6 [.agg [eS 1 vt a0.Pcs,eS 1 vt a0.Tc,eS 4 eRoad a0.Roads,eS 3 eGd a0.Gds,vi a0.Change,vi a0.Lasts]]),some (.row 3 [.agg [vt y3.1,vt y3.2.1,vi y3.2.2.1]])]) (.cons .same (.cons .same (.cons .own (.cons .same (.cons .same (.cons .same .nil)))))) (.same (.same .nil)) 2) (sc [2] (by decide) (by kernel_rfl) (zam zas rfl .nil) rfl rfl)) ?_
  refine TriE.loopN h (fun (t : (List A2i) × Nat)=>match t with | (v6,v7)=>St.mk [(2,vt a2),(11,vb y3.2.2.2),(12,.own 0 0 v6.length),(39,eS 7 eItem a1),(40,vi (a1.length : Int)),(41,vi v7)] [some (.row 2 (List.map zae v6))]) rfl ?_
  clear h
  rintro back ⟨v6,v7⟩ h
  dsimp only [diary_Busy_L1] at h
  refine sj ?_
  refine jo 42 (.bin .lss false 41 40) (zbg (i:=v7) (j:=a1.length) rfl rfl) ?_
  refine jf (.d (.k4 (.k2 (.i 42 (vb (decide (v7 < a1.length))) .n)))) ?_
  refine q1 ?_
  refine tc h (fun c3 h=>?_) (fun c3 h=>?_)
  ·refine q2 ?_
   refine TriE.seqK h (fun (v8 : (List A2i))=>St.mk [(2,vt a2),(11,vb y3.2.2.2),(39,eS 7 eItem a1),(40,vi (a1.length : Int)),(41,vi v7),(12,.own 0 0 v8.length)] [some (.row 2 (List.map zae v8))]) ?_ ?_
   ·rintro v8 h
    refine q6 ?_
    refine cK h fun c6 h=>?_
    refine jo 75 (.bin .add false 41 (ki 1)) (zan (i:=v7) (j:=1) rfl rfl c6) ?_
    refine jk 1 (.d (.k4 (.d (.k (.i 41 (vi ((v7 + 1 : Nat) : Int)) .n))))) ?_
    exact Vs.intro sy ⟨(v8, v7 + 1), rfl, h⟩
   intro k2 h
   refine q4 ?_
   refine sj ?_
   refine jo 43 (.iaddr 7 39 41) (zab (j:=v7) rfl rfl rfl c3) ?_
   refine jo 44 (.load true 7 43) (zaa (v:=.agg [vi ((ix a1 v7).Kind),vi ((ix a1 v7).From),vi ((ix a1 v7).To),vt ((ix a1 v7).Grand),vt ((ix a1 v7).Place),vt ((ix a1 v7).Who),vi ((ix a1 v7).Deposit)]) rfl c3 rfl) ?_
   refine jko 2 (.d2 (.k4 (.k2 (.i 14 (.ptr 1 0 0) .n)))) [some (.row 2 (List.map zae v6)),some (.row 7 [.agg [vi ((ix a1 v7).Kind),vi ((ix a1 v7).From),vi ((ix a1 v7).To),vt ((ix a1 v7).Grand),vt ((ix a1 v7).Place),vt ((ix a1 v7).Who),vi ((ix a1 v7).Deposit)]])] ?_
   refine sj ?_
   refine rk 2 (.k4 (.k3 (.i 46 (vb y3.2.2.2) .n))) ?_
   refine gj (.ptr 1 0 3) 47 (.faddr 3 14) 46 true rfl ?_
   refine gk (vt ((ix a1 v7).Grand)) 48 (.load false 1 47) 46 true rfl (fun hg=>(.cons hg .nil)) ?_
   refine gj (vt a2) 49 (.mov 2) 46 true rfl ?_
   refine gk (vb (((ix a1 v7).Grand) == a2)) 50 (.bin .eql false 48 49) 46 true rfl (fun hg=>(.cons hg (.cons hg .nil))) ?_
   refine pa 51 46 50 rfl rfl ?_
   refine rk 1 (.d4 (.d (.k4 (.k3 (.i 47 (.cond y3.2.2.2 (.ptr 1 0 3)) (.i 48 (.cond y3.2.2.2 (vt ((ix a1 v7).Grand))) (.i 49 (.cond y3.2.2.2 (vt a2)) (.i 50 (.cond y3.2.2.2 (vb (((ix a1 v7).Grand) == a2))) (.i 52 (vb (y3.2.2.2 && (((ix a1 v7).Grand) == a2))) .n))))))))) ?_
   refine gj (vb y3.2.2.2) 53 (.mov 11) 52 false rfl ?_
   refine gk (vb (!y3.2.2.2)) 54 (.un .not 53) 52 false rfl (fun hg=>(.cons hg .nil)) ?_
   refine gk (vb (!y3.2.2.2)) 55 (.mov 54) 52 false rfl (fun hg=>(.cons hg .nil)) ?_
   refine gj (.ptr 1 0 0) 56 (.faddr 0 14) 55 true rfl ?_
   refine gk (vi ((ix a1 v7).Kind)) 57 (.load false 1 56) 55 true rfl (fun hg=>(.cons hg .nil)) ?_
   refine gk (vb (((ix a1 v7).Kind) == (0 : Int))) 58 (.bin .eql false 57 (ki 0)) 55 true rfl (fun hg=>(.cons hg (.cons rfl .nil))) ?_
   refine RegJ.op (Op1.andg (g:=!(y3.2.2.2 && (((ix a1 v7).Grand) == a2))) (cy (IG 59 (.pick 55 58 (.c (.p (.bool false)))) 52 false)) rfl rfl rfl (fun hg=>by first | exact hokA2 hg | exact hokA3 hg | exact zez | exact zfa | (rw [hg]; simp) | simp_all)) ?_
   refine gk (vb ((!y3.2.2.2) && (((ix a1 v7).Kind) == (0 : Int)))) 60 (.mov 59) 52 false rfl (fun hg=>(.cons hg .nil)) ?_
   refine gj (.ptr 1 0 5) 61 (.faddr 5 14) 60 true rfl ?_
   refine gk (vt ((ix a1 v7).Who)) 62 (.load false 1 61) 60 true rfl (fun hg=>(.cons hg .nil)) ?_
   refine gj (vt a2) 63 (.mov 2) 60 true rfl ?_
   refine gk (vb (((ix a1 v7).Who) == a2)) 64 (.bin .eql false 62 63) 60 true rfl (fun hg=>(.cons hg (.cons hg .nil))) ?_
   refine RegJ.op (Op1.andg (g:=!(y3.2.2.2 && (((ix a1 v7).Grand) == a2))) (cy (IG 65 (.pick 60 64 (.c (.p (.bool false)))) 52 false)) rfl rfl rfl (fun hg=>by first | exact hokA2 hg | exact hokA3 hg | exact zez | exact zfa | (rw [hg]; simp) | simp_all)) ?_
   refine po 66 52 65 rfl rfl ?_
   refine jf (.d4 (.d4 (.d4 (.d2 (.k4 (.k3 (.i 66 (vb ((y3.2.2.2 && (((ix a1 v7).Grand) == a2)) || (((!y3.2.2.2) && (((ix a1 v7).Kind) == (0 : Int))) && (((ix a1 v7).Who) == a2)))) .n))))))) ?_
   refine tc h (fun c4 h=>?_) (fun c4 h=>?_)
   ·refine q6 ?_
    refine rko 7 (.k2 (.d (.k3 (.i 67 (.own 0 0 v6.length) (.i 73 (.own 2 0 1) .n))))) [some (.row 2 (List.map zae v6)),some (.row 7 [.agg [vi ((ix a1 v7).Kind),vi ((ix a1 v7).From),vi ((ix a1 v7).To),vt ((ix a1 v7).Grand),vt ((ix a1 v7).Place),vt ((ix a1 v7).Who),vi ((ix a1 v7).Deposit)]]),some (.row 2 [.agg [vi ((ix a1 v7).From),vi ((ix a1 v7).To)]])] ?_
    refine cK h fun c5 h=>?_
    refine jx 74 (.app 2 16 67 73) _ (ok_app_own (l:=v6) (l2:=([(A2i.mk ((ix a1 v7).From) ((ix a1 v7).To))] : List A2i)) (e:=zae) (u:=.own 2 0 1) rfl rfl rfl rfl rfl c5) rfl rfl ?_
    refine jk 1 (.d (.k4 (.k (.i 12 (.own 3 0 ((v6 ++ ([(A2i.mk ((ix a1 v7).From) ((ix a1 v7).To))] : List A2i)).length)) .n)))) ?_
    exact Vs.intro (sc [3] (by decide) (by kernel_rfl) (zam zas rfl .nil) rfl rfl) ⟨(v6 ++ ([(A2i.mk ((ix a1 v7).From) ((ix a1 v7).To))] : List A2i)), rfl, h⟩
   refine q2 ?_
   exact Vs.intro (sc [0] (by decide) (by kernel_rfl) (zam zas rfl .nil) rfl rfl) ⟨v6, rfl, h⟩
  refine q5 ?_
  exact Vs.intro sy ⟨v6, rfl, h⟩
 intro k1 h
 refine q6 ?_
 refine rk 2 (.k3 (.i 16 (.agg [eS 1 vt a0.Pcs,eS 1 vt a0.Tc,eS 4 eRoad a0.Roads,eS 3 eGd a0.Gds,vi a0.Change,vi a0.Lasts]) (.i 17 (eS 7 eItem a1) .n))) ?_
 refine bK h fun y1 hy1 h=>?_
 rcases y1 with y1 | y1
 ·dsimp only at h
  refine jc 18 [16,17] (zck n a0 a1 (Sum.inl y1) hy1) ?_
  refine jk 5 (.d (.k3 (.i 9 (vi y1) .n))) ?_
  exact Vs.intro Sees.refl ⟨y1, rfl, h⟩
 dsimp only at h
 refine jco (.tup [.ptr 2 0 0,vi y1.1]) 18 [16,17] (zck n a0 a1 (Sum.inr y1) hy1) [] rfl ObsRen.nil (.same (zay zac (zag eA2 vi) _ _) (.cons rfl .nil)) rfl ?_
 refine jk 5 (.d (.k3 (.i 9 (vi y1.1) .n))) ?_
 exact Vs.intro (sc [0] (by decide) (by kernel_rfl) (.cons rfl .nil) rfl rfl) ⟨y1.1, rfl, h⟩
set_option maxHeartbeats 1000000 in
theorem diary_Deposits_ok (n : Nat) (a0 : Diary) (a1 : List Item) (a2 : Int) (r : Int × Int) (h : zeq n a0 a1 a2 = some r) : FnL Tryz.prog 42 [.agg [eS 1 vt a0.Pcs, eS 1 vt a0.Tc, eS 4 eRoad a0.Roads, eS 3 eGd a0.Gds, vi a0.Change, vi a0.Lasts], eS 7 eItem a1, vi a2] [] (.tup [vi r.2, vi r.1]) [] := by
 dsimp only [zeq] at h
 refine fo [6,7] Tryz.call42 Tryz.func42 rfl ?_
 refine sko (.d (.k2 (.i 3 (.ptr 0 0 0) .n))) [some (.row 6 [.agg [eS 1 vt a0.Pcs,eS 1 vt a0.Tc,eS 4 eRoad a0.Roads,eS 3 eGd a0.Gds,vi a0.Change,vi a0.Lasts]])] ?_
 refine q1 ?_
 refine TriE.seqK h (fun (v2 : Int)=>St.mk [(1,eS 7 eItem a1),(2,vi a2),(9,vi v2)] []) ?_ ?_
 ·rintro v2 h
  refine sk (.k3 (.i 20 (vb (v2 != (0 : Int))) .n)) ?_
  refine tc h (fun c1 h=>?_) (fun c1 h=>?_)
  ·refine sk (.i 6 (vi 0) (.i 7 (vi v2) .n)) ?_
   refine q3 ?_
   have h:=si h
   subst h
   exact DoneS.ret Sees.refl rfl rfl
  refine q2 ?_
  refine q1 ?_
  refine sj ?_
  refine rk 1 (.k2 (.i 22 (vi a2) .n)) ?_
  refine bK h fun y3 hy3 h=>?_
  refine jc 23 [22] (zcx n a2 y3 hy3) ?_
  refine jk 1 (.d (.k2 (.i 24 (vb (!((decide (0 ≤ a2)) && (decide (a2 ≤ 1000000))))) .n))) ?_
  refine tc h (fun c2 h=>?_) (fun c2 h=>?_)
  ·refine sk (.i 6 (vi 0) (.i 7 (vi 2) .n)) ?_
   refine q3 ?_
   have h:=si h
   subst h
   exact DoneS.ret Sees.refl rfl rfl
  refine q2 ?_
  refine sk (.k2 (.i 10 (vi 0) .n)) ?_
  refine TriE.seqK h (fun (v8 : Int)=>St.mk [(10,vi v8)] []) ?_ ?_
  ·rintro v8 h
   refine sk (.i 6 (vi v8) (.i 7 (vi 0) .n)) ?_
   refine q3 ?_
   have h:=si h
   subst h
   exact DoneS.ret Sees.refl rfl rfl
  intro k3 h
  refine sj ?_
  refine rk 1 (.d (.k2 (.i 25 (eS 7 eItem a1) .n))) ?_
  refine jo 26 (.len 0 25) (zad rfl) ?_
  refine jk 1 (.d (.k3 (.i 26 (vi (a1.length : Int)) (.i 27 (vi 0) .n)))) ?_
  refine q4 ?_
  refine ts (.k4 (.i 27 (vi 0) .n)) ?_
  refine TriE.loopN h (fun (t : Int × Nat)=>match t with | (v5,v6)=>St.mk [(2,vi a2),(10,vi v5),(25,eS 7 eItem a1),(26,vi (a1.length : Int)),(27,vi v6)] []) rfl ?_
  clear h
  rintro back ⟨v5,v6⟩ h
  dsimp only [zel] at h
  refine sj ?_
  refine jo 28 (.bin .lss false 27 26) (zbg (i:=v6) (j:=a1.length) rfl rfl) ?_
  refine jf (.d (.k4 (.k (.i 28 (vb (decide (v6 < a1.length))) .n)))) ?_
  refine q1 ?_
  refine tc h (fun c3 h=>?_) (fun c3 h=>?_)
  ·refine q2 ?_
   refine TriE.seqK h (fun (v7 : Int)=>St.mk [(2,vi a2),(25,eS 7 eItem a1),(26,vi (a1.length : Int)),(27,vi v6),(10,vi v7)] []) ?_ ?_
   ·rintro v7 h
    refine q6 ?_
    refine cK h fun c6 h=>?_
    refine jo 50 (.bin .add false 27 (ki 1)) (zan (i:=v6) (j:=1) rfl rfl c6) ?_
    refine jk 1 (.d (.k3 (.d (.k (.i 27 (vi ((v6 + 1 : Nat) : Int)) .n))))) ?_
    exact Vs.intro sy ⟨(v7, v6 + 1), rfl, h⟩
   intro k2 h
   refine q4 ?_
   refine sj ?_
   refine jo 29 (.iaddr 7 25 27) (zab (j:=v6) rfl rfl rfl c3) ?_
   refine jo 30 (.load true 7 29) (zaa (v:=.agg [vi ((ix a1 v6).Kind),vi ((ix a1 v6).From),vi ((ix a1 v6).To),vt ((ix a1 v6).Grand),vt ((ix a1 v6).Place),vt ((ix a1 v6).Who),vi ((ix a1 v6).Deposit)]) rfl c3 rfl) ?_
   refine jko 2 (.d2 (.k4 (.k (.i 12 (.ptr 0 0 0) .n)))) [some (.row 7 [.agg [vi ((ix a1 v6).Kind),vi ((ix a1 v6).From),vi ((ix a1 v6).To),vt ((ix a1 v6).Grand),vt ((ix a1 v6).Place),vt ((ix a1 v6).Who),vi ((ix a1 v6).Deposit)]])] ?_
   refine sj ?_
   refine rk 4 (.k4 (.k2 (.i 34 (vb (((ix a1 v6).Kind) == (3 : Int))) .n))) ?_
   refine gj (.ptr 0 0 1) 35 (.faddr 1 12) 34 true rfl ?_
   refine gk (vi ((ix a1 v6).From)) 36 (.load false 1 35) 34 true rfl (fun hg=>(.cons hg .nil)) ?_
   refine gj (vi a2) 37 (.mov 2) 34 true rfl ?_
   refine gk (vb (decide (((ix a1 v6).From) ≤ a2))) 38 (.bin .leq false 36 37) 34 true rfl (fun hg=>(.cons hg (.cons hg .nil))) ?_
   refine pa 39 34 38 rfl rfl ?_
   refine rk 1 (.d4 (.d (.k4 (.k2 (.i 35 (.cond (((ix a1 v6).Kind) == (3 : Int)) (.ptr 0 0 1)) (.i 36 (.cond (((ix a1 v6).Kind) == (3 : Int)) (vi ((ix a1 v6).From))) (.i 37 (.cond (((ix a1 v6).Kind) == (3 : Int)) (vi a2)) (.i 38 (.cond (((ix a1 v6).Kind) == (3 : Int)) (vb (decide (((ix a1 v6).From) ≤ a2)))) (.i 40 (vb ((((ix a1 v6).Kind) == (3 : Int)) && (decide (((ix a1 v6).From) ≤ a2)))) .n))))))))) ?_
   refine gj (vi a2) 41 (.mov 2) 40 true rfl ?_
   refine gj (.ptr 0 0 2) 42 (.faddr 2 12) 40 true rfl ?_
   refine gk (vi ((ix a1 v6).To)) 43 (.load false 1 42) 40 true rfl (fun hg=>(.cons hg .nil)) ?_
   refine gk (vb (decide (a2 < ((ix a1 v6).To)))) 44 (.bin .lss false 41 43) 40 true rfl (fun hg=>(.cons hg (.cons hg .nil))) ?_
   refine pa 45 40 44 rfl rfl ?_
   refine jf (.d4 (.d (.k4 (.k2 (.i 45 (vb (((((ix a1 v6).Kind) == (3 : Int)) && (decide (((ix a1 v6).From) ≤ a2))) && (decide (a2 < ((ix a1 v6).To))))) .n))))) ?_
   refine tc h (fun c4 h=>?_) (fun c4 h=>?_)
   ·refine q6 ?_
    refine rk 3 (.k (.d (.k3 (.i 46 (vi v5) (.i 48 (vi ((ix a1 v6).Deposit)) .n))))) ?_
    refine cK h fun c5 h=>?_
    refine jo 49 (.bin .add false 46 48) (r_add rfl rfl c5) ?_
    refine jk 1 (.d (.k4 (.i 10 (vi (v5 + ((ix a1 v6).Deposit))) .n))) ?_
    exact Vs.intro (sc [] (by decide) (by kernel_rfl) ObRen.nil rfl rfl) ⟨(v5 + ((ix a1 v6).Deposit)), rfl, h⟩
   refine q2 ?_
   exact Vs.intro (sc [] (by decide) (by kernel_rfl) ObRen.nil rfl rfl) ⟨v5, rfl, h⟩
  refine q5 ?_
  exact Vs.intro sy ⟨v5, rfl, h⟩
 intro k1 h
 refine q6 ?_
 refine rk 2 (.k2 (.i 14 (.agg [eS 1 vt a0.Pcs,eS 1 vt a0.Tc,eS 4 eRoad a0.Roads,eS 3 eGd a0.Gds,vi a0.Change,vi a0.Lasts]) (.i 15 (eS 7 eItem a1) .n))) ?_
 refine bK h fun y1 hy1 h=>?_
 rcases y1 with y1 | y1
 ·dsimp only at h
  refine jc 16 [14,15] (zck n a0 a1 (Sum.inl y1) hy1) ?_
  refine jk 5 (.d (.k2 (.i 9 (vi y1) .n))) ?_
  exact Vs.intro (sc [] (by decide) (by kernel_rfl) ObRen.nil rfl rfl) ⟨y1, rfl, h⟩
 dsimp only at h
 refine jco (.tup [.ptr 2 0 0,vi y1.1]) 16 [14,15] (zck n a0 a1 (Sum.inr y1) hy1) [] rfl ObsRen.nil (.same (zay zac (zag eA2 vi) _ _) (.cons rfl .nil)) rfl ?_
 refine jk 5 (.d (.k2 (.i 9 (vi y1.1) .n))) ?_
 exact Vs.intro (sc [] (by decide) (by kernel_rfl) ObRen.nil rfl rfl) ⟨y1.1, rfl, h⟩
set_option maxHeartbeats 1000000 in
theorem q149k (n : Nat) (a0 : Diary) (a1 : List Item) (a2 : Str) (r : (List A2i) × Bool) (h : q78k n a0 a1 a2 = some r) : FnL Tryz.prog 43 [.agg [eS 1 vt a0.Pcs, eS 1 vt a0.Tc, eS 4 eRoad a0.Roads, eS 3 eGd a0.Gds, vi a0.Change, vi a0.Lasts], eS 7 eItem a1, vt a2] [] (.tup [eS 2 zae r.1, vb r.2]) [] := by
 dsimp only [q78k] at h
 refine fo [6,7] Tryz.call43 Tryz.func43 rfl ?_
 refine sko (.d (.k2 (.i 3 (.ptr 0 0 0) .n))) [some (.row 6 [.agg [eS 1 vt a0.Pcs,eS 1 vt a0.Tc,eS 4 eRoad a0.Roads,eS 3 eGd a0.Gds,vi a0.Change,vi a0.Lasts]])] ?_
 refine sj ?_
 refine rk 2 (.k3 (.i 11 (.agg [eS 1 vt a0.Pcs,eS 1 vt a0.Tc,eS 4 eRoad a0.Roads,eS 3 eGd a0.Gds,vi a0.Change,vi a0.Lasts]) (.i 12 (vt a2) .n))) ?_
 refine bK h fun y1 hy1 h=>?_
 refine jc 13 [11,12] (q14k n a0 a2 y1 hy1) ?_
 refine jk 2 (.d (.k3 (.i 8 (vb (decide ((0 : Int) ≤ y1))) .n))) ?_
 refine q1 ?_
 refine sj ?_
 refine rk 3 (.k4 (.i 17 (vb (!(decide ((0 : Int) ≤ y1)))) .n)) ?_
 refine gj (.ptr 0 0 1) 18 (.faddr 1 3) 17 true rfl ?_
 refine gk (eS 1 vt a0.Tc) 19 (.load false 1 18) 17 true rfl (fun hg=>(.cons hg .nil)) ?_
 refine gj (vt a2) 20 (.mov 2) 17 true rfl ?_
 refine bK h fun y2 hy2 h=>?_
 refine gc 21 [19,20] 17 true rfl (fun hg=>q85k n a0.Tc a2 y2 (zao hy2 hg)) (fun hg=>(.cons rfl (.cons hg (.cons hg .nil)))) (fun hg=>by kernel_rfl) ?_
 refine gk (vb (!y2)) 22 (.un .not 21) 17 true rfl (fun hg=>(.cons hg .nil)) ?_
 refine pa 23 17 22 rfl rfl ?_
 refine jf (.d4 (.d2 (.k2 (.d (.k (.i 23 (vb ((!(decide ((0 : Int) ≤ y1))) && (!y2))) .n)))))) ?_
 refine tc h (fun c1 h=>?_) (fun c1 h=>?_)
 ·refine sk (.i 6 .emp (.i 7 (vb false) .n)) ?_
  refine q3 ?_
  have h:=si h
  subst h
  exact DoneS.ret (S' := ⟨[(6, eS 2 zae ([] : List A2i)), (7, vb false)], []⟩) (Sees.trans (Sees.vco (fr' := [(6, eS 2 zae ([] : List A2i)), (7, vb false)]) (.cons .sl (.cons .same .nil))) (sc [] (by decide) (by kernel_rfl) ObRen.nil rfl rfl)) rfl rfl
 refine q2 ?_
 refine sk (.k3 (.i 9 .emp .n)) ?_
 refine TriE.seqK h (fun (v7 : (List A2i))=>St.mk [(9,.own 0 0 v7.length)] [some (.row 2 (List.map zae v7))]) ?_ ?_
 ·rintro v7 h
  refine sk (.i 6 (.own 0 0 v7.length) (.i 7 (vb true) .n)) ?_
  refine q3 ?_
  have h:=si h
  subst h
  exact DoneS.ret (S' := ⟨[(6, eS 2 zae v7), (7, vb true)], []⟩) (Sees.trans (Sees.freeze 0 (fr' := [(6, eS 2 zae v7), (7, vb true)]) (ob' := [none]) rfl (frz_row eArr2_Int_frzE _) (.cons (zes rfl) (.cons (.refl _) .nil)) rfl) (sc [] (by decide) (by kernel_rfl) ObRen.nil rfl rfl)) rfl rfl
 intro k2 h
 refine sk (.k4 (.i 10 (vi 0) .n)) ?_
 refine q4 ?_
 refine TriE.sees (S':=⟨[(1,eS 7 eItem a1),(2,vt a2),(8,vb (decide ((0 : Int) ≤ y1))),(9,.own 0 0 ([] : List A2i).length),(10,vi 0)],[some (.row 2 (List.map zae ([] : List A2i)))]⟩) (Sees.trans (Sees.co (fr':=[(1,eS 7 eItem a1),(2,vt a2),(8,vb (decide ((0 : Int) ≤ y1))),(9,.own 1 0 0),(10,vi 0)]) (ob':=[some (.row 6 [.agg [eS 1 vt a0.Pcs,eS 1 vt a0.Tc,eS 4 eRoad a0.Roads,eS 3 eGd a0.Gds,vi a0.Change,vi a0.Lasts]])]) (.cons .same (.cons .same (.cons .same (.cons .own (.cons .same .nil))))) (.same .nil) 2) (sc [1] (by decide) (by kernel_rfl) (zam zas rfl .nil) rfl rfl)) ?_
 refine TriE.loopN h (fun (t : (List A2i) × Nat)=>match t with | (v4,v5)=>St.mk [(1,eS 7 eItem a1),(2,vt a2),(8,vb (decide ((0 : Int) ≤ y1))),(9,.own 0 0 v4.length),(10,vi v5)] [some (.row 2 (List.map zae v4))]) rfl ?_
 clear h
 rintro back ⟨v4,v5⟩ h
 dsimp only [q76k] at h
 refine q1 ?_
 refine sj ?_
 refine rk 2 (.k4 (.k (.i 24 (vi v5) (.i 25 (eS 7 eItem a1) .n)))) ?_
 refine jo 26 (.len 0 25) (zad rfl) ?_
 refine jo 27 (.bin .lss false 24 26) (zbg (i:=v5) (j:=a1.length) rfl rfl) ?_
 refine jf (.d2 (.k4 (.k (.i 27 (vb (decide (v5 < a1.length))) .n)))) ?_
 refine tc h (fun c2 h=>?_) (fun c2 h=>?_)
 ·refine q2 ?_
  refine TriE.seqK h (fun (v6 : (List A2i))=>St.mk [(1,eS 7 eItem a1),(2,vt a2),(8,vb (decide ((0 : Int) ≤ y1))),(10,vi v5),(9,.own 0 0 v6.length)] [some (.row 2 (List.map zae v6))]) ?_ ?_
  ·rintro v6 h
   refine q6 ?_
   refine rk 1 (.k3 (.d (.k (.i 28 (vi v5) .n)))) ?_
   refine cK h fun c5 h=>?_
   refine jo 29 (.bin .add false 28 (ki 1)) (zan (i:=v5) (j:=1) rfl rfl c5) ?_
   refine jk 1 (.d (.k4 (.i 10 (vi ((v5 + 1 : Nat) : Int)) .n))) ?_
   exact Vs.intro sy ⟨(v6, v5 + 1), rfl, h⟩
  intro k1 h
  refine q4 ?_
  refine sj ?_
  refine rk 2 (.k4 (.k (.i 31 (vb (decide ((0 : Int) ≤ y1))) .n))) ?_
  refine gj (eS 7 eItem a1) 32 (.mov 1) 31 true rfl ?_
  refine gj (vi v5) 33 (.mov 10) 31 true rfl ?_
  refine gv 34 (.iaddr 7 32 33) 31 true rfl (fun hg=>(zab (j:=v5) rfl rfl rfl c2)) (fun hg=>(.cons hg (.cons hg .nil))) ?_
  refine gk (.fptr 7 (List.map eItem a1) v5 3) 35 (.faddr 3 34) 31 true rfl (fun hg=>(.cons hg .nil)) ?_
  refine gv 36 (.load false 1 35) 31 true rfl (fun hg=>(zaa (v:=vt ((ix a1 v5).Grand)) rfl c2 rfl)) (fun hg=>(.cons hg .nil)) ?_
  refine gj (vt a2) 37 (.mov 2) 31 true rfl ?_
  refine gk (vb (((ix a1 v5).Grand) == a2)) 38 (.bin .eql false 36 37) 31 true rfl (fun hg=>(.cons hg (.cons hg .nil))) ?_
  refine pa 39 31 38 rfl rfl ?_
  refine rk 1 (.d4 (.d4 (.k4 (.k (.i 32 (.cond (decide ((0 : Int) ≤ y1)) (eS 7 eItem a1)) (.i 33 (.cond (decide ((0 : Int) ≤ y1)) (vi v5)) (.i 34 (.cond (decide ((0 : Int) ≤ y1)) (.fptr 7 (List.map eItem a1) v5 0)) (.i 35 (.cond (decide ((0 : Int) ≤ y1)) (.fptr 7 (List.map eItem a1) v5 3)) (.i 36 (.cond (decide ((0 : Int) ≤ y1)) (vt ((ix a1 v5).Grand))) (.i 37 (.cond (decide ((0 : Int) ≤ y1)) (vt a2)) (.i 38 (.cond (decide ((0 : Int) ≤ y1)) (vb (((ix a1 v5).Grand) == a2))) (.i 40 (vb ((decide ((0 : Int) ≤ y1)) && (((ix a1 v5).Grand) == a2))) .n)))))))))))) ?_
  refine gj (vb (decide ((0 : Int) ≤ y1))) 41 (.mov 8) 40 false rfl ?_
  refine gk (vb (!(decide ((0 : Int) ≤ y1)))) 42 (.un .not 41) 40 false rfl (fun hg=>(.cons hg .nil)) ?_
  refine gk (vb (!(decide ((0 : Int) ≤ y1)))) 43 (.mov 42) 40 false rfl (fun hg=>(.cons hg .nil)) ?_
  refine gj (eS 7 eItem a1) 44 (.mov 1) 43 true rfl ?_
  refine gj (vi v5) 45 (.mov 10) 43 true rfl ?_
  refine gv 46 (.iaddr 7 44 45) 43 true rfl (fun hg=>(zab (j:=v5) rfl rfl rfl c2)) (fun hg=>(.cons hg (.cons hg .nil))) ?_
  refine gk (.fptr 7 (List.map eItem a1) v5 0) 47 (.faddr 0 46) 43 true rfl (fun hg=>(.cons hg .nil)) ?_
  refine gv 48 (.load false 1 47) 43 true rfl (fun hg=>(zaa (v:=vi ((ix a1 v5).Kind)) rfl c2 rfl)) (fun hg=>(.cons hg .nil)) ?_
  refine gk (vb (((ix a1 v5).Kind) == (0 : Int))) 49 (.bin .eql false 48 (ki 0)) 43 true rfl (fun hg=>(.cons hg (.cons rfl .nil))) ?_
  refine RegJ.op (Op1.andg (g:=!((decide ((0 : Int) ≤ y1)) && (((ix a1 v5).Grand) == a2))) (cy (IG 50 (.pick 43 49 (.c (.p (.bool false)))) 40 false)) rfl rfl rfl (fun hg=>by first | exact hokA2 hg | exact hokA3 hg | exact zez | exact zfa | (rw [hg]; simp) | simp_all)) ?_
  refine gk (vb ((!(decide ((0 : Int) ≤ y1))) && (((ix a1 v5).Kind) == (0 : Int)))) 51 (.mov 50) 40 false rfl (fun hg=>(.cons hg .nil)) ?_
  refine gj (eS 7 eItem a1) 52 (.mov 1) 51 true rfl ?_
  refine gj (vi v5) 53 (.mov 10) 51 true rfl ?_
  refine gv 54 (.iaddr 7 52 53) 51 true rfl (fun hg=>(zab (j:=v5) rfl rfl rfl c2)) (fun hg=>(.cons hg (.cons hg .nil))) ?_
  refine gk (.fptr 7 (List.map eItem a1) v5 5) 55 (.faddr 5 54) 51 true rfl (fun hg=>(.cons hg .nil)) ?_
  refine gv 56 (.load false 1 55) 51 true rfl (fun hg=>(zaa (v:=vt ((ix a1 v5).Who)) rfl c2 rfl)) (fun hg=>(.cons hg .nil)) ?_
  refine gj (vt a2) 57 (.mov 2) 51 true rfl ?_
  refine gk (vb (((ix a1 v5).Who) == a2)) 58 (.bin .eql false 56 57) 51 true rfl (fun hg=>(.cons hg (.cons hg .nil))) ?_
  refine RegJ.op (Op1.andg (g:=!((decide ((0 : Int) ≤ y1)) && (((ix a1 v5).Grand) == a2))) (cy (IG 59 (.pick 51 58 (.c (.p (.bool false)))) 40 false)) rfl rfl rfl (fun hg=>by first | exact hokA2 hg | exact hokA3 hg | exact zez | exact zfa | (rw [hg]; simp) | simp_all)) ?_
  refine po 60 40 59 rfl rfl ?_
  refine jf (.d4 (.d4 (.d4 (.d4 (.d4 (.k4 (.k (.i 60 (vb (((decide ((0 : Int) ≤ y1)) && (((ix a1 v5).Grand) == a2)) || (((!(decide ((0 : Int) ≤ y1))) && (((ix a1 v5).Kind) == (0 : Int))) && (((ix a1 v5).Who) == a2)))) .n)))))))) ?_
  refine tc h (fun c3 h=>?_) (fun c3 h=>?_)
  ·refine ts (.k4 (.k .n)) ?_
   refine TriE.draw (by kernel_rfl) ?_
   refine dk 3 (.i 63 (vi v5) (.i 62 (eS 7 eItem a1) (.i 61 (.own 0 0 v4.length) .a))) ?_
   refine dp 64 (.iaddr 7 62 63) (zab (j:=v5) rfl rfl rfl c2) ?_
   refine dk 1 (.i 65 (.fptr 7 (List.map eItem a1) v5 1) .a) ?_
   refine dp 66 (.load false 1 65) (zaa (v:=vi ((ix a1 v5).From)) rfl c2 rfl) ?_
   refine dk 2 (.i 68 (vi v5) (.i 67 (eS 7 eItem a1) .a)) ?_
   refine dp 69 (.iaddr 7 67 68) (zab (j:=v5) rfl rfl rfl c2) ?_
   refine dk 1 (.i 70 (.fptr 7 (List.map eItem a1) v5 2) .a) ?_
   refine dp 71 (.load false 1 70) (zaa (v:=vi ((ix a1 v5).To)) rfl c2 rfl) ?_
   refine dko 2 (.i 73 (.own 13 0 1) (.i 72 (.agg [vi ((ix a1 v5).From),vi ((ix a1 v5).To)]) .a)) [some (.row 2 (List.map zae v4)),none,none,none,none,none,none,none,none,none,none,none,none,some (.row 2 [.agg [vi ((ix a1 v5).From),vi ((ix a1 v5).To)]])] ?_
   refine cK h fun c4 h=>?_
   refine dx 74 (.app 2 16 61 73) _ (ok_app_own (l:=v4) (l2:=([(A2i.mk ((ix a1 v5).From) ((ix a1 v5).To))] : List A2i)) (e:=zae) (u:=.own 13 0 1) rfl rfl rfl rfl rfl c4) rfl rfl ?_
   refine dk 1 (.i 9 (.own 14 0 ((v4 ++ ([(A2i.mk ((ix a1 v5).From) ((ix a1 v5).To))] : List A2i)).length)) .a) ?_
   refine dfi (.d4 (.d4 (.d4 (.d3 (.k3 (.d (.k (.i 9 (.own 0 0 ((v4 ++ ([(A2i.mk ((ix a1 v5).From) ((ix a1 v5).To))] : List A2i)).length)) .n)))))))) [14] (zam zas rfl .nil) ?_
   exact Vs.intro sy ⟨(v4 ++ ([(A2i.mk ((ix a1 v5).From) ((ix a1 v5).To))] : List A2i)), rfl, h⟩
  refine q2 ?_
  exact Vs.intro sy ⟨v4, rfl, h⟩
 refine q5 ?_
 exact Vs.intro sy ⟨v4, rfl, h⟩
theorem q132k (n : Nat) (a0 : List Item) (a1 : Int) (r : Int) (h : q24k n a0 a1 = some r) : FnL Tryz.prog 45 [eS 7 eItem a0, vi a1] [] (vi r) [] := by
 dsimp only [q24k] at h
 refine fo [4] Tryz.call45 Tryz.func45 rfl ?_
 refine sk .a ?_
 refine sk (.k2 (.i 5 (vi 0) .n)) ?_
 refine TriE.seqK h (fun (v5 : Int)=>St.mk [(5,vi v5)] []) ?_ ?_
 ·rintro v5 h
  refine sk (.i 4 (vi v5) .n) ?_
  refine q3 ?_
  have h:=si h
  subst h
  exact DoneS.ret Sees.refl rfl rfl
 intro k2 h
 refine sk (.k3 (.i 6 (vi 0) .n)) ?_
 refine q4 ?_
 refine ts (.k3 (.i 6 (vi 0) .n)) ?_
 refine TriE.loopN h (fun (t : Int × Nat)=>match t with | (v2,v3)=>St.mk [(0,eS 7 eItem a0),(1,vi a1),(5,vi v2),(6,vi v3)] []) rfl ?_
 clear h
 rintro back ⟨v2,v3⟩ h
 dsimp only [q44k] at h
 refine q1 ?_
 refine sj ?_
 refine rk 2 (.k4 (.i 7 (vi v3) (.i 8 (eS 7 eItem a0) .n))) ?_
 refine jo 9 (.len 0 8) (zad rfl) ?_
 refine jo 10 (.bin .lss false 7 9) (zbg (i:=v3) (j:=a0.length) rfl rfl) ?_
 refine jf (.d2 (.k4 (.i 10 (vb (decide (v3 < a0.length))) .n))) ?_
 refine tc h (fun c1 h=>?_) (fun c1 h=>?_)
 ·refine q2 ?_
  refine TriE.seqK h (fun (v4 : Int)=>St.mk [(0,eS 7 eItem a0),(1,vi a1),(6,vi v3),(5,vi v4)] []) ?_ ?_
  ·rintro v4 h
   refine q6 ?_
   refine rk 1 (.k2 (.d (.k (.i 11 (vi v3) .n)))) ?_
   refine cK h fun c4 h=>?_
   refine jo 12 (.bin .add false 11 (ki 1)) (zan (i:=v3) (j:=1) rfl rfl c4) ?_
   refine jk 1 (.d (.k3 (.i 6 (vi ((v3 + 1 : Nat) : Int)) .n))) ?_
   exact Vs.intro sy ⟨(v4, v3 + 1), rfl, h⟩
  intro k1 h
  refine q4 ?_
  refine sj ?_
  refine rk 2 (.k4 (.i 13 (eS 7 eItem a0) (.i 14 (vi v3) .n))) ?_
  refine jo 15 (.iaddr 7 13 14) (zab (j:=v3) rfl rfl rfl c1) ?_
  refine rk 1 (.d (.k4 (.i 16 (.fptr 7 (List.map eItem a0) v3 1) .n))) ?_
  refine jo 17 (.load false 1 16) (zaa (v:=vi ((ix a0 v3).From)) rfl c1 rfl) ?_
  refine rk 3 (.d (.k4 (.i 20 (vb (decide (((ix a0 v3).From) ≤ a1))) .n))) ?_
  refine gj (vi a1) 21 (.mov 1) 20 true rfl ?_
  refine gj (eS 7 eItem a0) 22 (.mov 0) 20 true rfl ?_
  refine gj (vi v3) 23 (.mov 6) 20 true rfl ?_
  refine gv 24 (.iaddr 7 22 23) 20 true rfl (fun hg=>(zab (j:=v3) rfl rfl rfl c1)) (fun hg=>(.cons hg (.cons hg .nil))) ?_
  refine gk (.fptr 7 (List.map eItem a0) v3 2) 25 (.faddr 2 24) 20 true rfl (fun hg=>(.cons hg .nil)) ?_
  refine gv 26 (.load false 1 25) 20 true rfl (fun hg=>(zaa (v:=vi ((ix a0 v3).To)) rfl c1 rfl)) (fun hg=>(.cons hg .nil)) ?_
  refine gk (vb (decide (a1 < ((ix a0 v3).To)))) 27 (.bin .lss false 21 26) 20 true rfl (fun hg=>(.cons hg (.cons hg .nil))) ?_
  refine pa 28 20 27 rfl rfl ?_
  refine jf (.d4 (.d4 (.k4 (.i 28 (vb ((decide (((ix a0 v3).From) ≤ a1)) && (decide (a1 < ((ix a0 v3).To))))) .n)))) ?_
  refine tc h (fun c2 h=>?_) (fun c2 h=>?_)
  ·refine q6 ?_
   refine rk 3 (.k2 (.d (.k (.i 29 (vi v2) (.i 30 (eS 7 eItem a0) (.i 31 (vi v3) .n)))))) ?_
   refine jo 32 (.iaddr 7 30 31) (zab (j:=v3) rfl rfl rfl c1) ?_
   refine rk 1 (.d (.k4 (.i 33 (.fptr 7 (List.map eItem a0) v3 6) .n))) ?_
   refine jo 34 (.load false 1 33) (zaa (v:=vi ((ix a0 v3).Deposit)) rfl c1 rfl) ?_
   refine cK h fun c3 h=>?_
   refine jo 35 (.bin .add false 29 34) (r_add rfl rfl c3) ?_
   refine jk 1 (.d2 (.k3 (.i 5 (vi (v2 + ((ix a0 v3).Deposit))) .n))) ?_
   exact Vs.intro Sees.refl ⟨(v2 + ((ix a0 v3).Deposit)), rfl, h⟩
  refine q2 ?_
  exact Vs.intro sy ⟨v2, rfl, h⟩
 refine q5 ?_
 exact Vs.intro sy ⟨v2, rfl, h⟩
set_option maxHeartbeats 1000000 in
theorem q135k (n : Nat) (a0 : Diary) (a1 : List Item) (a2 : Moment) (r : Str) (h : q31k n a0 a1 a2 = some r) : FnL Tryz.prog 47 [.agg [eS 1 vt a0.Pcs,eS 1 vt a0.Tc,eS 4 eRoad a0.Roads,eS 3 eGd a0.Gds,vi a0.Change,vi a0.Lasts],eS 7 eItem a1,.agg [vt a2.Grand,vi a2.Minute]] [] (vt r) []:=by
 dsimp only [q31k] at h
 refine FnL.ofS (ts:=[6]) Tryz.call47 Tryz.func47 rfl rfl (Nat.le_of_ble_eq_true rfl) (Nat.le_of_ble_eq_true rfl) (fun j h=>absurd h (Nat.not_lt_zero j)) ?_
 show TriE _ _ _ _ _ (St.mk [(0,.agg [eS 1 vt a0.Pcs,eS 1 vt a0.Tc,eS 4 eRoad a0.Roads,eS 3 eGd a0.Gds,vi a0.Change,vi a0.Lasts]),(1,eS 7 eItem a1),(2,.agg [vt a2.Grand,vi a2.Minute])] []) _
 refine q1 ?_
 refine TriE.run [(1,eS 7 eItem a1),(3,.ptr 0 0 0),(5,.ptr 1 0 0)] [some (.row 6 [.agg [eS 1 vt a0.Pcs,eS 1 vt a0.Tc,eS 4 eRoad a0.Roads,eS 3 eGd a0.Gds,vi a0.Change,vi a0.Lasts]]),some (.row 2 [.agg [vt a2.Grand,vi a2.Minute]])] (by kernel_rfl) ?_
 refine TriE.seqK h (fun (_ : Unit)=>St.mk [(1,eS 7 eItem a1),(3,.ptr 0 0 0),(5,.ptr 1 0 0)] [some (.row 6 [.agg [eS 1 vt a0.Pcs,eS 1 vt a0.Tc,eS 4 eRoad a0.Roads,eS 3 eGd a0.Gds,vi a0.Change,vi a0.Lasts]]),some (.row 2 [.agg [vt a2.Grand,vi a2.Minute]])]) ?_ ?_
 ·rintro ⟨⟩ h
  show TriE _ _ _ _ _ (St.mk [(1,eS 7 eItem a1),(3,.ptr 0 0 0),(5,.ptr 1 0 0)] [some (.row 6 [.agg [eS 1 vt a0.Pcs,eS 1 vt a0.Tc,eS 4 eRoad a0.Roads,eS 3 eGd a0.Gds,vi a0.Change,vi a0.Lasts]]),some (.row 2 [.agg [vt a2.Grand,vi a2.Minute]])]) _
  refine sj ?_
  refine RegJ.run 6 [(50,.agg [eS 1 vt a0.Pcs,eS 1 vt a0.Tc,eS 4 eRoad a0.Roads,eS 3 eGd a0.Gds,vi a0.Change,vi a0.Lasts]),(51,eS 7 eItem a1),(53,vt a2.Grand),(55,vi a2.Minute)] [some (.row 6 [.agg [eS 1 vt a0.Pcs,eS 1 vt a0.Tc,eS 4 eRoad a0.Roads,eS 3 eGd a0.Gds,vi a0.Change,vi a0.Lasts]]),some (.row 2 [.agg [vt a2.Grand,vi a2.Minute]])] (by kernel_rfl) ?_
  refine bK h fun y2 hy2 h=>?_
  refine RegJ.op (Op1.call (y':=vt y2) (obx:=[]) (oby:=[]) (ob2:=[some (.row 6 [.agg [eS 1 vt a0.Pcs,eS 1 vt a0.Tc,eS 4 eRoad a0.Roads,eS 3 eGd a0.Gds,vi a0.Change,vi a0.Lasts]]),some (.row 2 [.agg [vt a2.Grand,vi a2.Minute]])]) _ _ (cy (I0 56 (.call 91 [50,51,53,55]))) rfl (q104k n a0 a1 a2.Grand a2.Minute y2 hy2) [] (by kernel_rfl) (.cons rfl (.cons rfl (.cons rfl (.cons rfl (.cons rfl .nil))))) (by kernel_rfl) (by kernel_rfl) ObsRen.nil (by kernel_rfl) ObsRen.nil (by kernel_rfl)) ?_
  refine jrd 1 [(6,vt y2)] [some (.row 6 [.agg [eS 1 vt a0.Pcs,eS 1 vt a0.Tc,eS 4 eRoad a0.Roads,eS 3 eGd a0.Gds,vi a0.Change,vi a0.Lasts]]),some (.row 2 [.agg [vt a2.Grand,vi a2.Minute]])] (by kernel_rfl) rfl ?_
  refine q3 ?_
  have h:=Option.some.inj h
  subst h
  exact DoneS.ret (S':=⟨[(6,vt y2)],[]⟩) (sc [] (by decide) (by kernel_rfl) ObRen.nil rfl rfl) rfl rfl
 intro k1 h
 refine q1 ?_
 refine TriE.run [(1,eS 7 eItem a1),(3,.ptr 0 0 0),(5,.ptr 1 0 0),(7,vi 0)] [some (.row 6 [.agg [eS 1 vt a0.Pcs,eS 1 vt a0.Tc,eS 4 eRoad a0.Roads,eS 3 eGd a0.Gds,vi a0.Change,vi a0.Lasts]]),some (.row 2 [.agg [vt a2.Grand,vi a2.Minute]])] (by kernel_rfl) ?_
 refine q4 ?_
 refine TriE.sees (S':=⟨[(1,eS 7 eItem a1),(3,.ptr 0 0 0),(5,.ptr 1 0 0),(7,vi 0)],[some (.row 6 [.agg [eS 1 vt a0.Pcs,eS 1 vt a0.Tc,eS 4 eRoad a0.Roads,eS 3 eGd a0.Gds,vi a0.Change,vi a0.Lasts]]),some (.row 2 [.agg [vt a2.Grand,vi a2.Minute]])]⟩) sy ?_
 refine TriE.loopN h (fun (v1 : Nat)=>St.mk [(1,eS 7 eItem a1),(3,.ptr 0 0 0),(5,.ptr 1 0 0),(7,vi v1)] [some (.row 6 [.agg [eS 1 vt a0.Pcs,eS 1 vt a0.Tc,eS 4 eRoad a0.Roads,eS 3 eGd a0.Gds,vi a0.Change,vi a0.Lasts]]),some (.row 2 [.agg [vt a2.Grand,vi a2.Minute]])]) rfl ?_
 clear h
 rintro back v1 h
 dsimp only [q55k] at h
 show TriE _ _ _ _ _ (St.mk [(1,eS 7 eItem a1),(3,.ptr 0 0 0),(5,.ptr 1 0 0),(7,vi v1)] [some (.row 6 [.agg [eS 1 vt a0.Pcs,eS 1 vt a0.Tc,eS 4 eRoad a0.Roads,eS 3 eGd a0.Gds,vi a0.Change,vi a0.Lasts]]),some (.row 2 [.agg [vt a2.Grand,vi a2.Minute]])]) _
 refine q1 ?_
 refine sj ?_
 refine RegJ.run 2 [(1,eS 7 eItem a1),(3,.ptr 0 0 0),(5,.ptr 1 0 0),(7,vi v1),(8,vi v1),(9,eS 7 eItem a1)] [some (.row 6 [.agg [eS 1 vt a0.Pcs,eS 1 vt a0.Tc,eS 4 eRoad a0.Roads,eS 3 eGd a0.Gds,vi a0.Change,vi a0.Lasts]]),some (.row 2 [.agg [vt a2.Grand,vi a2.Minute]])] (by kernel_rfl) ?_
 refine jv (vi (a1.length : Int)) (cy (I0 10 (.len 0 9))) (zad rfl) rfl ?_
 refine jv (vb (decide (v1 < a1.length))) (cy (I0 11 (.bin .lss false 8 10))) (zbg (i:=v1) (j:=a1.length) rfl rfl) rfl ?_
 refine jd [(1,eS 7 eItem a1),(3,.ptr 0 0 0),(5,.ptr 1 0 0),(7,vi v1),(11,vb (decide (v1 < a1.length)))] (by kernel_rfl) rfl ?_
 refine TriE.cond (b:=decide (v1 < a1.length)) rfl (fun c1=>?_) (fun c1=>?_)
 ·have h:=cond_t h c1
  refine q2 ?_
  refine q7 ?_
  refine q1 ?_
  refine TriE.sees (Sees.less (fr':=[(1,eS 7 eItem a1),(3,.ptr 0 0 0),(5,.ptr 1 0 0),(7,vi v1)]) (.cons rfl (.cons rfl (.cons rfl (.cons rfl .nil))))) ?_
  refine TriE.draw (by kernel_rfl) ?_
  refine RegD.run 2 [(15,vi v1),(14,eS 7 eItem a1),(1,eS 7 eItem a1),(3,.ptr 0 0 0),(5,.ptr 1 0 0),(7,vi v1)] [some (.row 6 [.agg [eS 1 vt a0.Pcs,eS 1 vt a0.Tc,eS 4 eRoad a0.Roads,eS 3 eGd a0.Gds,vi a0.Change,vi a0.Lasts]]),some (.row 2 [.agg [vt a2.Grand,vi a2.Minute]]),none,none] (by kernel_rfl) ?_
  refine dv (.fptr 7 (List.map eItem a1) v1 0) (cy (I0 16 (.iaddr 7 14 15))) (zab (j:=v1) rfl rfl rfl c1) rfl ?_
  refine RegD.run 1 [(17,.fptr 7 (List.map eItem a1) v1 0),(16,.fptr 7 (List.map eItem a1) v1 0),(15,vi v1),(14,eS 7 eItem a1),(1,eS 7 eItem a1),(3,.ptr 0 0 0),(5,.ptr 1 0 0),(7,vi v1)] [some (.row 6 [.agg [eS 1 vt a0.Pcs,eS 1 vt a0.Tc,eS 4 eRoad a0.Roads,eS 3 eGd a0.Gds,vi a0.Change,vi a0.Lasts]]),some (.row 2 [.agg [vt a2.Grand,vi a2.Minute]]),none,none,none,none] (by kernel_rfl) ?_
  refine dv (vi ((ix a1 v1).Kind)) (cy (I0 18 (.load false 1 17))) (zaa (v:=vi ((ix a1 v1).Kind)) rfl c1 rfl) rfl ?_
  refine RegD.run 2 [(20,vb (((ix a1 v1).Kind) == (1 : Int))),(19,vb (((ix a1 v1).Kind) == (1 : Int))),(18,vi ((ix a1 v1).Kind)),(17,.fptr 7 (List.map eItem a1) v1 0),(16,.fptr 7 (List.map eItem a1) v1 0),(15,vi v1),(14,eS 7 eItem a1),(1,eS 7 eItem a1),(3,.ptr 0 0 0),(5,.ptr 1 0 0),(7,vi v1)] [some (.row 6 [.agg [eS 1 vt a0.Pcs,eS 1 vt a0.Tc,eS 4 eRoad a0.Roads,eS 3 eGd a0.Gds,vi a0.Change,vi a0.Lasts]]),some (.row 2 [.agg [vt a2.Grand,vi a2.Minute]]),none,none,none,none,none,none,none] (by kernel_rfl) ?_
  refine RegD.op (OpD.valk (g:=(((ix a1 v1).Kind) == (1 : Int))) (v:=eS 7 eItem a1) _ _ (cy (IG 21 (.mov 1) 20 true)) rfl (by kernel_rfl) (fun hg=>(.cons rfl .nil))) ?_
  refine RegD.op (OpD.valk (g:=(((ix a1 v1).Kind) == (1 : Int))) (v:=vi v1) _ _ (cy (IG 22 (.mov 7) 20 true)) rfl (by kernel_rfl) (fun hg=>(.cons rfl .nil))) ?_
  refine RegD.op (OpD.valg (g:=(((ix a1 v1).Kind) == (1 : Int))) (v:=.fptr 7 (List.map eItem a1) v1 0) _ _ (cy (IG 23 (.iaddr 7 21 22) 20 true)) rfl (fun hg=>(zab (j:=v1) rfl rfl rfl c1)) (fun hg=>(.cons hg (.cons hg .nil)))) ?_
  refine RegD.op (OpD.valk (g:=(((ix a1 v1).Kind) == (1 : Int))) (v:=.fptr 7 (List.map eItem a1) v1 3) _ _ (cy (IG 24 (.faddr 3 23) 20 true)) rfl (by kernel_rfl) (fun hg=>(.cons hg .nil))) ?_
  refine RegD.op (OpD.valg (g:=(((ix a1 v1).Kind) == (1 : Int))) (v:=vt ((ix a1 v1).Grand)) _ _ (cy (IG 25 (.load false 1 24) 20 true)) rfl (fun hg=>(zaa (v:=vt ((ix a1 v1).Grand)) rfl c1 rfl)) (fun hg=>(.cons hg .nil))) ?_
  refine RegD.op (OpD.valk (g:=(((ix a1 v1).Kind) == (1 : Int))) (v:=.ptr 1 0 0) _ _ (cy (IG 26 (.faddr 0 5) 20 true)) rfl (by kernel_rfl) (fun hg=>(.cons rfl .nil))) ?_
  refine RegD.op (OpD.valk (g:=(((ix a1 v1).Kind) == (1 : Int))) (v:=vt a2.Grand) _ _ (cy (IG 27 (.load false 1 26) 20 true)) rfl (by kernel_rfl) (fun hg=>(.cons hg .nil))) ?_
  refine RegD.op (OpD.valk (g:=(((ix a1 v1).Kind) == (1 : Int))) (v:=vb (((ix a1 v1).Grand) == a2.Grand)) _ _ (cy (IG 28 (.bin .eql false 25 27) 20 true)) rfl (by kernel_rfl) (fun hg=>(.cons hg (.cons hg .nil)))) ?_
  refine RegD.op (OpD.and (cy (I0 29 (.pick 20 28 (.c (.p (.bool false)))))) rfl rfl (by first | exact zez | exact zfa | simp)) ?_
  refine RegD.run 1 [(30,vb ((((ix a1 v1).Kind) == (1 : Int)) && (((ix a1 v1).Grand) == a2.Grand))),(29,vb ((((ix a1 v1).Kind) == (1 : Int)) && (((ix a1 v1).Grand) == a2.Grand))),(28,.cond (((ix a1 v1).Kind) == (1 : Int)) (vb (((ix a1 v1).Grand) == a2.Grand))),(27,.cond (((ix a1 v1).Kind) == (1 : Int)) (vt a2.Grand)),(26,.cond (((ix a1 v1).Kind) == (1 : Int)) (.ptr 1 0 0)),(25,.cond (((ix a1 v1).Kind) == (1 : Int)) (vt ((ix a1 v1).Grand))),(24,.cond (((ix a1 v1).Kind) == (1 : Int)) (.fptr 7 (List.map eItem a1) v1 3)),(23,.cond (((ix a1 v1).Kind) == (1 : Int)) (.fptr 7 (List.map eItem a1) v1 0)),(22,.cond (((ix a1 v1).Kind) == (1 : Int)) (vi v1)),(21,.cond (((ix a1 v1).Kind) == (1 : Int)) (eS 7 eItem a1)),(20,vb (((ix a1 v1).Kind) == (1 : Int))),(19,vb (((ix a1 v1).Kind) == (1 : Int))),(18,vi ((ix a1 v1).Kind)),(17,.fptr 7 (List.map eItem a1) v1 0),(16,.fptr 7 (List.map eItem a1) v1 0),(15,vi v1),(14,eS 7 eItem a1),(1,eS 7 eItem a1),(3,.ptr 0 0 0),(5,.ptr 1 0 0),(7,vi v1)] [some (.row 6 [.agg [eS 1 vt a0.Pcs,eS 1 vt a0.Tc,eS 4 eRoad a0.Roads,eS 3 eGd a0.Gds,vi a0.Change,vi a0.Lasts]]),some (.row 2 [.agg [vt a2.Grand,vi a2.Minute]]),none,none,none,none,none,none,none,none,none,none,none,none,none,none,none,none,none] (by kernel_rfl) ?_
  refine RegD.op (OpD.valk (g:=(((ix a1 v1).Kind) == (1 : Int)) && (((ix a1 v1).Grand) == a2.Grand)) (v:=eS 7 eItem a1) _ _ (cy (IG 31 (.mov 1) 30 true)) rfl (by kernel_rfl) (fun hg=>(.cons rfl .nil))) ?_
  refine RegD.op (OpD.valk (g:=(((ix a1 v1).Kind) == (1 : Int)) && (((ix a1 v1).Grand) == a2.Grand)) (v:=vi v1) _ _ (cy (IG 32 (.mov 7) 30 true)) rfl (by kernel_rfl) (fun hg=>(.cons rfl .nil))) ?_
  refine RegD.op (OpD.valg (g:=(((ix a1 v1).Kind) == (1 : Int)) && (((ix a1 v1).Grand) == a2.Grand)) (v:=.fptr 7 (List.map eItem a1) v1 0) _ _ (cy (IG 33 (.iaddr 7 31 32) 30 true)) rfl (fun hg=>(zab (j:=v1) rfl rfl rfl c1)) (fun hg=>(.cons hg (.cons hg .nil)))) ?_
  refine RegD.op (OpD.valk (g:=(((ix a1 v1).Kind) == (1 : Int)) && (((ix a1 v1).Grand) == a2.Grand)) (v:=.fptr 7 (List.map eItem a1) v1 1) _ _ (cy (IG 34 (.faddr 1 33) 30 true)) rfl (by kernel_rfl) (fun hg=>(.cons hg .nil))) ?_
  refine RegD.op (OpD.valg (g:=(((ix a1 v1).Kind) == (1 : Int)) && (((ix a1 v1).Grand) == a2.Grand)) (v:=vi ((ix a1 v1).From)) _ _ (cy (IG 35 (.load false 1 34) 30 true)) rfl (fun hg=>(zaa (v:=vi ((ix a1 v1).From)) rfl c1 rfl)) (fun hg=>(.cons hg .nil))) ?_
  refine RegD.op (OpD.valk (g:=(((ix a1 v1).Kind) == (1 : Int)) && (((ix a1 v1).Grand) == a2.Grand)) (v:=.ptr 1 0 1) _ _ (cy (IG 36 (.faddr 1 5) 30 true)) rfl (by kernel_rfl) (fun hg=>(.cons rfl .nil))) ?_
  refine RegD.op (OpD.valk (g:=(((ix a1 v1).Kind) == (1 : Int)) && (((ix a1 v1).Grand) == a2.Grand)) (v:=vi a2.Minute) _ _ (cy (IG 37 (.load false 1 36) 30 true)) rfl (by kernel_rfl) (fun hg=>(.cons hg .nil))) ?_
  refine RegD.op (OpD.valk (g:=(((ix a1 v1).Kind) == (1 : Int)) && (((ix a1 v1).Grand) == a2.Grand)) (v:=vb (decide (((ix a1 v1).From) ≤ a2.Minute))) _ _ (cy (IG 38 (.bin .leq false 35 37) 30 true)) rfl (by kernel_rfl) (fun hg=>(.cons hg (.cons hg .nil)))) ?_
  refine RegD.op (OpD.and (cy (I0 39 (.pick 30 38 (.c (.p (.bool false)))))) rfl rfl (by first | exact zez | exact zfa | simp)) ?_
  refine RegD.run 1 [(40,vb (((((ix a1 v1).Kind) == (1 : Int)) && (((ix a1 v1).Grand) == a2.Grand)) && (decide (((ix a1 v1).From) ≤ a2.Minute)))),(39,vb (((((ix a1 v1).Kind) == (1 : Int)) && (((ix a1 v1).Grand) == a2.Grand)) && (decide (((ix a1 v1).From) ≤ a2.Minute)))),(38,.cond ((((ix a1 v1).Kind) == (1 : Int)) && (((ix a1 v1).Grand) == a2.Grand)) (vb (decide (((ix a1 v1).From) ≤ a2.Minute)))),(37,.cond ((((ix a1 v1).Kind) == (1 : Int)) && (((ix a1 v1).Grand) == a2.Grand)) (vi a2.Minute)),(36,.cond ((((ix a1 v1).Kind) == (1 : Int)) && (((ix a1 v1).Grand) == a2.Grand)) (.ptr 1 0 1)),(35,.cond ((((ix a1 v1).Kind) == (1 : Int)) && (((ix a1 v1).Grand) == a2.Grand)) (vi ((ix a1 v1).From))),(34,.cond ((((ix a1 v1).Kind) == (1 : Int)) && (((ix a1 v1).Grand) == a2.Grand)) (.fptr 7 (List.map eItem a1) v1 1)),(33,.cond ((((ix a1 v1).Kind) == (1 : Int)) && (((ix a1 v1).Grand) == a2.Grand)) (.fptr 7 (List.map eItem a1) v1 0)),(32,.cond ((((ix a1 v1).Kind) == (1 : Int)) && (((ix a1 v1).Grand) == a2.Grand)) (vi v1)),(31,.cond ((((ix a1 v1).Kind) == (1 : Int)) && (((ix a1 v1).Grand) == a2.Grand)) (eS 7 eItem a1)),(30,vb ((((ix a1 v1).Kind) == (1 : Int)) && (((ix a1 v1).Grand) == a2.Grand))),(29,vb ((((ix a1 v1).Kind) == (1 : Int)) && (((ix a1 v1).Grand) == a2.Grand))),(28,.cond (((ix a1 v1).Kind) == (1 : Int)) (vb (((ix a1 v1).Grand) == a2.Grand))),(27,.cond (((ix a1 v1).Kind) == (1 : Int)) (vt a2.Grand)),(26,.cond (((ix a1 v1).Kind) == (1 : Int)) (.ptr 1 0 0)),(25,.cond (((ix a1 v1).Kind) == (1 : Int)) (vt ((ix a1 v1).Grand))),(24,.cond (((ix a1 v1).Kind) == (1 : Int)) (.fptr 7 (List.map eItem a1) v1 3)),(23,.cond (((ix a1 v1).Kind) == (1 : Int)) (.fptr 7 (List.map eItem a1) v1 0)),(22,.cond (((ix a1 v1).Kind) == (1 : Int)) (vi v1)),(21,.cond (((ix a1 v1).Kind) == (1 : Int)) (eS 7 eItem a1)),(20,vb (((ix a1 v1).Kind) == (1 : Int))),(19,vb (((ix a1 v1).Kind) == (1 : Int))),(18,vi ((ix a1 v1).Kind)),(17,.fptr 7 (List.map eItem a1) v1 0),(16,.fptr 7 (List.map eItem a1) v1 0),(15,vi v1),(14,eS 7 eItem a1),(1,eS 7 eItem a1),(3,.ptr 0 0 0),(5,.ptr 1 0 0),(7,vi v1)] [some (.row 6 [.agg [eS 1 vt a0.Pcs,eS 1 vt a0.Tc,eS 4 eRoad a0.Roads,eS 3 eGd a0.Gds,vi a0.Change,vi a0.Lasts]]),some (.row 2 [.agg [vt a2.Grand,vi a2.Minute]]),none,none,none,none,none,none,none,none,none,none,none,none,none,none,none,none,none,none,none,none,none,none,none,none,none,none,none] (by kernel_rfl) ?_
  refine RegD.op (OpD.valk (g:=((((ix a1 v1).Kind) == (1 : Int)) && (((ix a1 v1).Grand) == a2.Grand)) && (decide (((ix a1 v1).From) ≤ a2.Minute))) (v:=.ptr 1 0 1) _ _ (cy (IG 41 (.faddr 1 5) 40 true)) rfl (by kernel_rfl) (fun hg=>(.cons rfl .nil))) ?_
  refine RegD.op (OpD.valk (g:=((((ix a1 v1).Kind) == (1 : Int)) && (((ix a1 v1).Grand) == a2.Grand)) && (decide (((ix a1 v1).From) ≤ a2.Minute))) (v:=vi a2.Minute) _ _ (cy (IG 42 (.load false 1 41) 40 true)) rfl (by kernel_rfl) (fun hg=>(.cons hg .nil))) ?_
  refine RegD.op (OpD.valk (g:=((((ix a1 v1).Kind) == (1 : Int)) && (((ix a1 v1).Grand) == a2.Grand)) && (decide (((ix a1 v1).From) ≤ a2.Minute))) (v:=eS 7 eItem a1) _ _ (cy (IG 43 (.mov 1) 40 true)) rfl (by kernel_rfl) (fun hg=>(.cons rfl .nil))) ?_
  refine RegD.op (OpD.valk (g:=((((ix a1 v1).Kind) == (1 : Int)) && (((ix a1 v1).Grand) == a2.Grand)) && (decide (((ix a1 v1).From) ≤ a2.Minute))) (v:=vi v1) _ _ (cy (IG 44 (.mov 7) 40 true)) rfl (by kernel_rfl) (fun hg=>(.cons rfl .nil))) ?_
  refine RegD.op (OpD.valg (g:=((((ix a1 v1).Kind) == (1 : Int)) && (((ix a1 v1).Grand) == a2.Grand)) && (decide (((ix a1 v1).From) ≤ a2.Minute))) (v:=.fptr 7 (List.map eItem a1) v1 0) _ _ (cy (IG 45 (.iaddr 7 43 44) 40 true)) rfl (fun hg=>(zab (j:=v1) rfl rfl rfl c1)) (fun hg=>(.cons hg (.cons hg .nil)))) ?_
  refine RegD.op (OpD.valk (g:=((((ix a1 v1).Kind) == (1 : Int)) && (((ix a1 v1).Grand) == a2.Grand)) && (decide (((ix a1 v1).From) ≤ a2.Minute))) (v:=.fptr 7 (List.map eItem a1) v1 2) _ _ (cy (IG 46 (.faddr 2 45) 40 true)) rfl (by kernel_rfl) (fun hg=>(.cons hg .nil))) ?_
  refine RegD.op (OpD.valg (g:=((((ix a1 v1).Kind) == (1 : Int)) && (((ix a1 v1).Grand) == a2.Grand)) && (decide (((ix a1 v1).From) ≤ a2.Minute))) (v:=vi ((ix a1 v1).To)) _ _ (cy (IG 47 (.load false 1 46) 40 true)) rfl (fun hg=>(zaa (v:=vi ((ix a1 v1).To)) rfl c1 rfl)) (fun hg=>(.cons hg .nil))) ?_
  refine RegD.op (OpD.valk (g:=((((ix a1 v1).Kind) == (1 : Int)) && (((ix a1 v1).Grand) == a2.Grand)) && (decide (((ix a1 v1).From) ≤ a2.Minute))) (v:=vb (decide (a2.Minute < ((ix a1 v1).To)))) _ _ (cy (IG 48 (.bin .lss false 42 47) 40 true)) rfl (by kernel_rfl) (fun hg=>(.cons hg (.cons hg .nil)))) ?_
  refine RegD.op (OpD.and (cy (I0 49 (.pick 40 48 (.c (.p (.bool false)))))) rfl rfl (by first | exact zez | exact zfa | simp)) ?_
  refine RegD.done rfl (by kernel_rfl) (S':=⟨[(1,eS 7 eItem a1),(3,.ptr 0 0 0),(5,.ptr 1 0 0),(7,vi v1),(49,vb ((((((ix a1 v1).Kind) == (1 : Int)) && (((ix a1 v1).Grand) == a2.Grand)) && (decide (((ix a1 v1).From) ≤ a2.Minute))) && (decide (a2.Minute < ((ix a1 v1).To)))))],[some (.row 6 [.agg [eS 1 vt a0.Pcs,eS 1 vt a0.Tc,eS 4 eRoad a0.Roads,eS 3 eGd a0.Gds,vi a0.Change,vi a0.Lasts]]),some (.row 2 [.agg [vt a2.Grand,vi a2.Minute]])]⟩) (sc [0,1] (by decide) (by kernel_rfl) (.cons rfl (.cons rfl .nil)) rfl rfl) ?_
  refine TriE.cond (b:=(((((ix a1 v1).Kind) == (1 : Int)) && (((ix a1 v1).Grand) == a2.Grand)) && (decide (((ix a1 v1).From) ≤ a2.Minute))) && (decide (a2.Minute < ((ix a1 v1).To)))) rfl (fun c2=>?_) (fun c2=>?_)
  ·have h:=cond_t h c2
   refine q1 ?_
   refine TriE.run [(6,vt ([] : Str))] [some (.row 6 [.agg [eS 1 vt a0.Pcs,eS 1 vt a0.Tc,eS 4 eRoad a0.Roads,eS 3 eGd a0.Gds,vi a0.Change,vi a0.Lasts]]),some (.row 2 [.agg [vt a2.Grand,vi a2.Minute]])] (by kernel_rfl) ?_
   refine q3 ?_
   have h:=Option.some.inj h
   subst h
   exact DoneS.ret (S':=⟨[(6,vt ([] : Str))],[]⟩) (sc [] (by decide) (by kernel_rfl) ObRen.nil rfl rfl) rfl rfl
  have h:=cond_f h c2
  refine q2 ?_
  refine q6 ?_
  refine RegJ.run 1 [(1,eS 7 eItem a1),(3,.ptr 0 0 0),(5,.ptr 1 0 0),(12,vi v1)] [some (.row 6 [.agg [eS 1 vt a0.Pcs,eS 1 vt a0.Tc,eS 4 eRoad a0.Roads,eS 3 eGd a0.Gds,vi a0.Change,vi a0.Lasts]]),some (.row 2 [.agg [vt a2.Grand,vi a2.Minute]])] (by kernel_rfl) ?_
  refine cK h fun c3 h=>?_
  refine jv (vi ((v1 + 1 : Nat) : Int)) (cy (I0 13 (.bin .add false 12 (ki 1)))) (zan (i:=v1) (j:=1) rfl rfl c3) rfl ?_
  refine jrd 1 [(1,eS 7 eItem a1),(3,.ptr 0 0 0),(5,.ptr 1 0 0),(7,vi ((v1 + 1 : Nat) : Int))] [some (.row 6 [.agg [eS 1 vt a0.Pcs,eS 1 vt a0.Tc,eS 4 eRoad a0.Roads,eS 3 eGd a0.Gds,vi a0.Change,vi a0.Lasts]]),some (.row 2 [.agg [vt a2.Grand,vi a2.Minute]])] (by kernel_rfl) rfl ?_
  exact Vs.intro sy ⟨(v1 + 1),rfl,h⟩
 have h:=cond_f h c1
 refine q5 ?_
 exact Vs.intro sy ⟨(),rfl,h⟩
set_option maxHeartbeats 1000000 in
theorem q117k (n : Nat) (a0 : Diary) (a1 : List Item) (a2 : Moment) (r : Bool) (h : q43k n a0 a1 a2 = some r) : FnL Tryz.prog 9 [.agg [eS 1 vt a0.Pcs, eS 1 vt a0.Tc, eS 4 eRoad a0.Roads, eS 3 eGd a0.Gds, vi a0.Change, vi a0.Lasts], eS 7 eItem a1, .agg [vt a2.Grand, vi a2.Minute]] [] (vb r) [] := by
 dsimp only [q43k] at h
 refine fo [6] Tryz.call9 Tryz.func9 rfl ?_
 refine sko (.d (.k (.i 3 (.ptr 0 0 0) (.i 5 (.ptr 1 0 0) .n)))) [some (.row 6 [.agg [eS 1 vt a0.Pcs,eS 1 vt a0.Tc,eS 4 eRoad a0.Roads,eS 3 eGd a0.Gds,vi a0.Change,vi a0.Lasts]]),some (.row 2 [.agg [vt a2.Grand,vi a2.Minute]])] ?_
 refine q1 ?_
 refine sj ?_
 refine bK h fun y1 hy1 h=>?_
 refine jc 18 [] (q146k n y1 hy1) ?_
 refine jk 1 (.d (.k3 (.i 19 (vb (!y1)) .n))) ?_
 refine tc h (fun c1 h=>?_) (fun c1 h=>?_)
 ·refine sk (.i 6 (vb false) .n) ?_
  refine q3 ?_
  have h:=si h
  subst h
  exact DoneS.ret (S' := ⟨[(6, vb false)], []⟩) (sc [] (by decide) (by kernel_rfl) ObRen.nil rfl rfl) rfl rfl
 refine q2 ?_
 refine q1 ?_
 refine sj ?_
 refine rk 1 (.k3 (.i 20 (.agg [eS 1 vt a0.Pcs,eS 1 vt a0.Tc,eS 4 eRoad a0.Roads,eS 3 eGd a0.Gds,vi a0.Change,vi a0.Lasts]) .n)) ?_
 refine bK h fun y2 hy2 h=>?_
 refine jc 21 [20] (q145k n a0 y2 hy2) ?_
 refine rk 2 (.d (.k3 (.i 23 (vb (!y2)) .n))) ?_
 refine gj (eS 7 eItem a1) 24 (.mov 1) 23 false rfl ?_
 refine bK h fun y3 hy3 h=>?_
 refine gc 25 [24] 23 false rfl (fun hg=>q151k n a1 y3 (zao hy3 hg)) (fun hg=>(.cons rfl (.cons hg .nil))) (fun hg=>by kernel_rfl) ?_
 refine gk (vb (!y3)) 26 (.un .not 25) 23 false rfl (fun hg=>(.cons hg .nil)) ?_
 refine po 27 23 26 rfl rfl ?_
 refine rk 1 (.d4 (.k3 (.i 28 (vb ((!y2) || (!y3))) .n))) ?_
 refine gj (.ptr 1 0 0) 29 (.faddr 0 5) 28 false rfl ?_
 refine gk (vt a2.Grand) 30 (.load false 1 29) 28 false rfl (fun hg=>(.cons hg .nil)) ?_
 refine gv 31 (.len 1 30) 28 false rfl (fun hg=>(zdv rfl)) (fun hg=>(.cons hg .nil)) ?_
 refine gv 32 (.bin .gtr false 31 (ki 30)) 28 false rfl (fun hg=>(n_gtr (i:=a2.Grand.length) (j:=30) rfl rfl)) (fun hg=>(.cons hg (.cons rfl .nil))) ?_
 refine po 33 28 32 rfl rfl ?_
 refine jf (.d4 (.d (.k3 (.i 33 (vb (((!y2) || (!y3)) || (decide (30 < a2.Grand.length)))) .n)))) ?_
 refine tc h (fun c2 h=>?_) (fun c2 h=>?_)
 ·refine sk (.i 6 (vb true) .n) ?_
  refine q3 ?_
  have h:=si h
  subst h
  exact DoneS.ret (S' := ⟨[(6, vb true)], []⟩) (sc [] (by decide) (by kernel_rfl) ObRen.nil rfl rfl) rfl rfl
 refine q2 ?_
 refine q1 ?_
 refine ts (.k3 .n) ?_
 refine TriE.draw (by kernel_rfl) ?_
 refine dk 1 (.i 35 (.agg [eS 1 vt a0.Pcs,eS 1 vt a0.Tc,eS 4 eRoad a0.Roads,eS 3 eGd a0.Gds,vi a0.Change,vi a0.Lasts]) .a) ?_
 refine bK h fun y4 hy4 h=>?_
 refine dc (.agg [eS 1 vt a0.Pcs,eS 1 vt a0.Tc,eS 4 eRoad a0.Roads,eS 3 eGd a0.Gds,vi a0.Change,vi a0.Lasts]) 0 36 [35] (q95k n a0 y4 hy4) [] rfl ObsRen.nil ObsRen.nil rfl (.inr ⟨rfl,rfl⟩) ?_
 refine dk 1 (.i 37 (eS 7 eItem a1) .a) ?_
 refine bK h fun y5 hy5 h=>?_
 refine dc (eS 7 eItem a1) 0 38 [37] (q79k n a1 y5 hy5) [] rfl ObsRen.nil ObsRen.nil rfl (.inr ⟨rfl,rfl⟩) ?_
 refine dk 1 (.i 39 (.agg [vt a2.Grand,vi a2.Minute]) .a) ?_
 refine bK h fun y6 hy6 h=>?_
 refine dc (.tup [vt y6.2,vi y6.1]) 0 40 [36,38,39] (diary_PlaceOf_ok n a0 a1 a2 y6 hy6) [] rfl ObsRen.nil ObsRen.nil rfl (.inr ⟨rfl,rfl⟩) ?_
 refine dk 5 (.i 8 (vi y6.1) (.i 7 (vt y6.2) (.i 42 (vi y6.1) (.i 41 (vt y6.2) (.i 34 (.tup [vt y6.2,vi y6.1]) .a))))) ?_
 refine dfi (ob':=[some (.row 6 [.agg [eS 1 vt a0.Pcs,eS 1 vt a0.Tc,eS 4 eRoad a0.Roads,eS 3 eGd a0.Gds,vi a0.Change,vi a0.Lasts]]),some (.row 2 [.agg [vt a2.Grand,vi a2.Minute]])]) (.d4 (.d4 (.d3 (.k3 (.i 7 (vt y6.2) (.i 8 (vi y6.1) .n)))))) [0,1] (.cons rfl (.cons rfl .nil)) ?_
 refine q1 ?_
 refine ts .a ?_
 refine TriE.draw (by kernel_rfl) ?_
 refine dk 1 (.i 44 (.agg [eS 1 vt a0.Pcs,eS 1 vt a0.Tc,eS 4 eRoad a0.Roads,eS 3 eGd a0.Gds,vi a0.Change,vi a0.Lasts]) .a) ?_
 refine bK h fun y7 hy7 h=>?_
 refine dc (.agg [eS 1 vt a0.Pcs,eS 1 vt a0.Tc,eS 4 eRoad a0.Roads,eS 3 eGd a0.Gds,vi a0.Change,vi a0.Lasts]) 0 45 [44] (q95k n a0 y7 hy7) [] rfl ObsRen.nil ObsRen.nil rfl (.inr ⟨rfl,rfl⟩) ?_
 refine dk 1 (.i 46 (eS 7 eItem a1) .a) ?_
 refine bK h fun y8 hy8 h=>?_
 refine dc (eS 7 eItem a1) 0 47 [46] (q79k n a1 y8 hy8) [] rfl ObsRen.nil ObsRen.nil rfl (.inr ⟨rfl,rfl⟩) ?_
 refine dk 2 (.i 49 (vt a2.Grand) (.i 48 (.ptr 1 0 0) .a)) ?_
 refine bK h fun y9 hy9 h=>?_
 refine dc (.tup [eS 2 zae y9.2,vi y9.1]) 0 50 [45,47,49] (diary_Busy_ok n a0 a1 a2.Grand y9 hy9) [] rfl ObsRen.nil ObsRen.nil rfl (.inr ⟨rfl,rfl⟩) ?_
 refine dk 5 (.i 10 (vi y9.1) (.i 9 (eS 2 zae y9.2) (.i 52 (vi y9.1) (.i 51 (eS 2 zae y9.2) (.i 43 (.tup [eS 2 zae y9.2,vi y9.1]) .a))))) ?_
 refine dfi (ob':=[some (.row 6 [.agg [eS 1 vt a0.Pcs,eS 1 vt a0.Tc,eS 4 eRoad a0.Roads,eS 3 eGd a0.Gds,vi a0.Change,vi a0.Lasts]]),some (.row 2 [.agg [vt a2.Grand,vi a2.Minute]])]) (.d4 (.d4 (.d4 (.k4 (.k (.i 9 (eS 2 zae y9.2) (.i 10 (vi y9.1) .n))))))) [0,1] (.cons rfl (.cons rfl .nil)) ?_
 refine q1 ?_
 refine ts .a ?_
 refine TriE.draw (by kernel_rfl) ?_
 refine dk 1 (.i 54 (.agg [eS 1 vt a0.Pcs,eS 1 vt a0.Tc,eS 4 eRoad a0.Roads,eS 3 eGd a0.Gds,vi a0.Change,vi a0.Lasts]) .a) ?_
 refine bK h fun y10 hy10 h=>?_
 refine dc (.agg [eS 1 vt a0.Pcs,eS 1 vt a0.Tc,eS 4 eRoad a0.Roads,eS 3 eGd a0.Gds,vi a0.Change,vi a0.Lasts]) 0 55 [54] (q95k n a0 y10 hy10) [] rfl ObsRen.nil ObsRen.nil rfl (.inr ⟨rfl,rfl⟩) ?_
 refine dk 1 (.i 56 (eS 7 eItem a1) .a) ?_
 refine bK h fun y11 hy11 h=>?_
 refine dc (eS 7 eItem a1) 0 57 [56] (q79k n a1 y11 hy11) [] rfl ObsRen.nil ObsRen.nil rfl (.inr ⟨rfl,rfl⟩) ?_
 refine dk 2 (.i 59 (vi a2.Minute) (.i 58 (.ptr 1 0 1) .a)) ?_
 refine bK h fun y12 hy12 h=>?_
 refine dc (.tup [vi y12.2,vi y12.1]) 0 60 [55,57,59] (diary_Deposits_ok n a0 a1 a2.Minute y12 hy12) [] rfl ObsRen.nil ObsRen.nil rfl (.inr ⟨rfl,rfl⟩) ?_
 refine dk 5 (.i 12 (vi y12.1) (.i 11 (vi y12.2) (.i 62 (vi y12.1) (.i 61 (vi y12.2) (.i 53 (.tup [vi y12.2,vi y12.1]) .a))))) ?_
 refine dfi (ob':=[some (.row 6 [.agg [eS 1 vt a0.Pcs,eS 1 vt a0.Tc,eS 4 eRoad a0.Roads,eS 3 eGd a0.Gds,vi a0.Change,vi a0.Lasts]]),some (.row 2 [.agg [vt a2.Grand,vi a2.Minute]])]) (.d4 (.d4 (.d4 (.k4 (.k3 (.i 11 (vi y12.2) (.i 12 (vi y12.1) .n))))))) [0,1] (.cons rfl (.cons rfl .nil)) ?_
 refine q1 ?_
 refine sj ?_
 refine rk 2 (.k4 (.k4 (.k (.i 64 (.agg [eS 1 vt a0.Pcs,eS 1 vt a0.Tc,eS 4 eRoad a0.Roads,eS 3 eGd a0.Gds,vi a0.Change,vi a0.Lasts]) (.i 65 (eS 7 eItem a1) .n))))) ?_
 refine bK h fun y13 hy13 h=>?_
 refine jc 66 [64,65] (q138k n a0 a1 y13 hy13) ?_
 refine jk 5 (.d (.k4 (.k4 (.k (.i 14 (vi y13.1) .n))))) ?_
 refine sk (.k4 (.k4 (.k2 (.i 70 (vb (y13.1 != (0 : Int))) .n)))) ?_
 refine tc h (fun c3 h=>?_) (fun c3 h=>?_)
 ·refine sj ?_
  refine rk 4 (.d3 (.k (.d (.k4 (.k (.i 74 (vb (y6.1 == y13.1)) .n)))))) ?_
  refine gj (vi y9.1) 75 (.mov 10) 74 true rfl ?_
  refine gj (vi y13.1) 76 (.mov 14) 74 true rfl ?_
  refine gk (vb (y9.1 == y13.1)) 77 (.bin .eql false 75 76) 74 true rfl (fun hg=>(.cons hg (.cons hg .nil))) ?_
  refine pa 78 74 77 rfl rfl ?_
  refine rk 1 (.d4 (.k2 (.d (.k3 (.i 79 (vb ((y6.1 == y13.1) && (y9.1 == y13.1))) .n))))) ?_
  refine gj (vi y12.1) 80 (.mov 12) 79 true rfl ?_
  refine gj (vi y13.1) 81 (.mov 14) 79 true rfl ?_
  refine gk (vb (y12.1 == y13.1)) 82 (.bin .eql false 80 81) 79 true rfl (fun hg=>(.cons hg (.cons hg .nil))) ?_
  refine pa 83 79 82 rfl rfl ?_
  refine rk 1 (.d4 (.k3 (.i 84 (vb (((y6.1 == y13.1) && (y9.1 == y13.1)) && (y12.1 == y13.1))) .n))) ?_
  refine gj (vt y6.2) 85 (.mov 7) 84 true rfl ?_
  refine gk (vb (y6.2 == ([] : Str))) 86 (.bin .eql false 85 (.c (.p (.string ⟨#[]⟩)))) 84 true rfl (fun hg=>(.cons hg (.cons rfl .nil))) ?_
  refine pa 87 84 86 rfl rfl ?_
  refine rk 1 (.d4 (.k2 (.i 88 (vb ((((y6.1 == y13.1) && (y9.1 == y13.1)) && (y12.1 == y13.1)) && (y6.2 == ([] : Str)))) .n))) ?_
  refine gj (eS 2 zae y9.2) 89 (.mov 9) 88 true rfl ?_
  refine gv 90 (.len 0 89) 88 true rfl (fun hg=>(zad rfl)) (fun hg=>(.cons hg .nil)) ?_
  refine gj (vi y12.2) 91 (.mov 11) 88 true rfl ?_
  refine cK h fun c4 h=>?_
  refine gv 92 (.bin .add false 90 91) 88 true rfl (fun hg=>(r_add rfl rfl (gor c4 hg))) (fun hg=>(.cons hg (.cons hg .nil))) ?_
  refine gk (vb ((((y9.2.length : Nat) : Int) + y12.2) == (0 : Int))) 93 (.bin .eql false 92 (ki 0)) 88 true rfl (fun hg=>(.cons hg (.cons rfl .nil))) ?_
  refine pa 94 88 93 rfl rfl ?_
  refine jk 1 (.i 6 (vb (((((y6.1 == y13.1) && (y9.1 == y13.1)) && (y12.1 == y13.1)) && (y6.2 == ([] : Str))) && ((((y9.2.length : Nat) : Int) + y12.2) == (0 : Int)))) .n) ?_
  refine q3 ?_
  have h:=si h
  subst h
  exact DoneS.ret (S' := ⟨[(6, vb (((((y6.1 == y13.1) && (y9.1 == y13.1)) && (y12.1 == y13.1)) && (y6.2 == ([] : Str))) && ((((y9.2.length : Nat) : Int) + y12.2) == (0 : Int))))], []⟩) (sc [] (by decide) (by kernel_rfl) ObRen.nil rfl rfl) rfl rfl
 refine q2 ?_
 refine sj ?_
 refine rk 4 (.k4 (.k4 (.k (.i 96 (.agg [eS 1 vt a0.Pcs,eS 1 vt a0.Tc,eS 4 eRoad a0.Roads,eS 3 eGd a0.Gds,vi a0.Change,vi a0.Lasts]) (.i 97 (eS 7 eItem a1) (.i 99 (vt a2.Grand) .n)))))) ?_
 refine bK h fun y14 hy14 h=>?_
 refine jc 100 [96,97,99] (q149k n a0 a1 a2.Grand y14 hy14) ?_
 refine jk 5 (.d (.k4 (.k4 (.k (.i 15 (eS 2 zae y14.1) (.i 16 (vb y14.2) .n)))))) ?_
 refine q1 ?_
 refine sj ?_
 refine rk 3 (.k4 (.k4 (.k3 (.i 105 (vb (!y14.2)) .n)))) ?_
 refine gj (vi y9.1) 106 (.mov 10) 105 true rfl ?_
 refine gk (vb (y9.1 != (6 : Int))) 107 (.bin .neq false 106 (ki 6)) 105 true rfl (fun hg=>(.cons hg (.cons rfl .nil))) ?_
 refine pa 108 105 107 rfl rfl ?_
 refine rk 1 (.d3 (.k4 (.k4 (.k3 (.i 109 (vb ((!y14.2) && (y9.1 != (6 : Int)))) .n))))) ?_
 refine gj (vb y14.2) 110 (.mov 16) 109 false rfl ?_
 refine gk (vb y14.2) 111 (.mov 110) 109 false rfl (fun hg=>(.cons hg .nil)) ?_
 refine gj (vi y9.1) 112 (.mov 10) 111 true rfl ?_
 refine gk (vb (y9.1 != (0 : Int))) 113 (.bin .neq false 112 (ki 0)) 111 true rfl (fun hg=>(.cons hg (.cons rfl .nil))) ?_
 refine RegJ.op (Op1.andg (g:=!((!y14.2) && (y9.1 != (6 : Int)))) (cy (IG 114 (.pick 111 113 (.c (.p (.bool false)))) 109 false)) rfl rfl rfl (fun hg=>by first | exact hokA2 hg | exact hokA3 hg | exact zez | exact zfa | (rw [hg]; simp) | simp_all)) ?_
 refine po 115 109 114 rfl rfl ?_
 refine rk 1 (.d4 (.d2 (.k4 (.k2 (.d (.k3 (.i 116 (vb (((!y14.2) && (y9.1 != (6 : Int))) || (y14.2 && (y9.1 != (0 : Int))))) .n))))))) ?_
 refine gj (eS 2 zae y9.2) 117 (.mov 9) 116 false rfl ?_
 refine gv 118 (.len 0 117) 116 false rfl (fun hg=>(zad rfl)) (fun hg=>(.cons hg .nil)) ?_
 refine gj (eS 2 zae y14.1) 119 (.mov 15) 116 false rfl ?_
 refine gv 120 (.len 0 119) 116 false rfl (fun hg=>(zad rfl)) (fun hg=>(.cons hg .nil)) ?_
 refine gv 121 (.bin .neq false 118 120) 116 false rfl (fun hg=>(n_neq (i:=y9.2.length) (j:=y14.1.length) rfl rfl)) (fun hg=>(.cons hg (.cons hg .nil))) ?_
 refine po 122 116 121 rfl rfl ?_
 refine jf (.d4 (.d2 (.k4 (.k4 (.k (.i 122 (vb ((((!y14.2) && (y9.1 != (6 : Int))) || (y14.2 && (y9.1 != (0 : Int)))) || (!decide (y9.2.length = y14.1.length)))) .n)))))) ?_
 refine tc h (fun c5 h=>?_) (fun c5 h=>?_)
 ·refine sk (.i 6 (vb false) .n) ?_
  refine q3 ?_
  have h:=si h
  subst h
  exact DoneS.ret (S' := ⟨[(6, vb false)], []⟩) (sc [] (by decide) (by kernel_rfl) ObRen.nil rfl rfl) rfl rfl
 refine q2 ?_
 refine TriE.seqK h (fun (_ : Unit)=>St.mk [(1,eS 7 eItem a1),(3,.ptr 0 0 0),(5,.ptr 1 0 0),(7,vt y6.2),(8,vi y6.1),(11,vi y12.2),(12,vi y12.1)] [some (.row 6 [.agg [eS 1 vt a0.Pcs,eS 1 vt a0.Tc,eS 4 eRoad a0.Roads,eS 3 eGd a0.Gds,vi a0.Change,vi a0.Lasts]]),some (.row 2 [.agg [vt a2.Grand,vi a2.Minute]])]) ?_ ?_
 ·rintro ⟨⟩ h
  refine TriE.seqK h (fun (_ : Unit)=>St.mk [(1,eS 7 eItem a1),(3,.ptr 0 0 0),(5,.ptr 1 0 0),(7,vt y6.2),(8,vi y6.1)] [some (.row 6 [.agg [eS 1 vt a0.Pcs,eS 1 vt a0.Tc,eS 4 eRoad a0.Roads,eS 3 eGd a0.Gds,vi a0.Change,vi a0.Lasts]]),some (.row 2 [.agg [vt a2.Grand,vi a2.Minute]])]) ?_ ?_
  ·rintro ⟨⟩ h
   refine q7 ?_
   refine sj ?_
   refine rk 3 (.k4 (.k (.i 159 (.agg [eS 1 vt a0.Pcs,eS 1 vt a0.Tc,eS 4 eRoad a0.Roads,eS 3 eGd a0.Gds,vi a0.Change,vi a0.Lasts]) (.i 161 (vt a2.Grand) .n)))) ?_
   refine bK h fun y18 hy18 h=>?_
   refine jc 162 [159,161] (q14k n a0 a2.Grand y18 hy18) ?_
   refine jk 2 (.d (.k4 (.k (.i 158 (vb (decide (y18 < (0 : Int)))) .n)))) ?_
   refine tc h (fun c13 h=>?_) (fun c13 h=>?_)
   ·refine sj ?_
    refine rk 3 (.d3 (.k (.i 166 (vb (y6.1 == (6 : Int))) .n))) ?_
    refine gj (vt y6.2) 167 (.mov 7) 166 true rfl ?_
    refine gk (vb (y6.2 == ([] : Str))) 168 (.bin .eql false 167 (.c (.p (.string ⟨#[]⟩)))) 166 true rfl (fun hg=>(.cons hg (.cons rfl .nil))) ?_
    refine pa 169 166 168 rfl rfl ?_
    refine jk 1 (.i 6 (vb ((y6.1 == (6 : Int)) && (y6.2 == ([] : Str)))) .n) ?_
    refine q3 ?_
    have h:=si h
    subst h
    exact DoneS.ret (S' := ⟨[(6, vb ((y6.1 == (6 : Int)) && (y6.2 == ([] : Str))))], []⟩) (sc [] (by decide) (by kernel_rfl) ObRen.nil rfl rfl) rfl rfl
   refine sj ?_
   refine rk 2 (.k4 (.k (.i 172 (vi a2.Minute) .n))) ?_
   refine bK h fun y19 hy19 h=>?_
   refine jc 173 [172] (q45k n a2.Minute y19 hy19) ?_
   refine jk 2 (.d (.k4 (.k (.i 170 (vb (!((decide (0 ≤ a2.Minute)) && (decide (a2.Minute ≤ 1000000))))) .n)))) ?_
   refine tc h (fun c14 h=>?_) (fun c14 h=>?_)
   ·refine sj ?_
    refine rk 3 (.d3 (.k (.i 177 (vb (y6.1 == (2 : Int))) .n))) ?_
    refine gj (vt y6.2) 178 (.mov 7) 177 true rfl ?_
    refine gk (vb (y6.2 == ([] : Str))) 179 (.bin .eql false 178 (.c (.p (.string ⟨#[]⟩)))) 177 true rfl (fun hg=>(.cons hg (.cons rfl .nil))) ?_
    refine pa 180 177 179 rfl rfl ?_
    refine jk 1 (.i 6 (vb ((y6.1 == (2 : Int)) && (y6.2 == ([] : Str)))) .n) ?_
    refine q3 ?_
    have h:=si h
    subst h
    exact DoneS.ret (S' := ⟨[(6, vb ((y6.1 == (2 : Int)) && (y6.2 == ([] : Str))))], []⟩) (sc [] (by decide) (by kernel_rfl) ObRen.nil rfl rfl) rfl rfl
   refine q2 ?_
   refine sj ?_
   refine rk 3 (.k4 (.i 183 (vb (y6.1 == (0 : Int))) .n)) ?_
   refine gj (vt y6.2) 184 (.mov 7) 183 true rfl ?_
   refine gj (.agg [eS 1 vt a0.Pcs,eS 1 vt a0.Tc,eS 4 eRoad a0.Roads,eS 3 eGd a0.Gds,vi a0.Change,vi a0.Lasts]) 185 (.load true 6 3) 183 true rfl ?_
   refine gj (eS 7 eItem a1) 186 (.mov 1) 183 true rfl ?_
   refine gj (.agg [vt a2.Grand,vi a2.Minute]) 187 (.load true 2 5) 183 true rfl ?_
   refine bK h fun y20 hy20 h=>?_
   refine gc 188 [185,186,187] 183 true rfl (fun hg=>q135k n a0 a1 a2 y20 (zao hy20 hg)) (fun hg=>(.cons rfl (.cons hg (.cons hg (.cons hg .nil))))) (fun hg=>by kernel_rfl) ?_
   refine gk (vb (y6.2 == y20)) 189 (.bin .eql false 184 188) 183 true rfl (fun hg=>(.cons hg (.cons hg .nil))) ?_
   refine pa 190 183 189 rfl rfl ?_
   refine jk 1 (.i 6 (vb ((y6.1 == (0 : Int)) && (y6.2 == y20))) .n) ?_
   refine q3 ?_
   have h:=si h
   subst h
   exact DoneS.ret (S' := ⟨[(6, vb ((y6.1 == (0 : Int)) && (y6.2 == y20)))], []⟩) (sc [] (by decide) (by kernel_rfl) ObRen.nil rfl rfl) rfl rfl
  intro k2 h
  refine sj ?_
  refine rk 2 (.k4 (.k3 (.i 139 (vi a2.Minute) .n))) ?_
  refine bK h fun y16 hy16 h=>?_
  refine jc 140 [139] (q45k n a2.Minute y16 hy16) ?_
  refine jk 1 (.d (.k4 (.k3 (.i 141 (vb (!((decide (0 ≤ a2.Minute)) && (decide (a2.Minute ≤ 1000000))))) .n)))) ?_
  refine tc h (fun c10 h=>?_) (fun c10 h=>?_)
  ·refine sj ?_
   refine rk 3 (.k4 (.k2 (.i 144 (vb (y12.1 != (2 : Int))) .n))) ?_
   refine gj (vi y12.2) 145 (.mov 11) 144 false rfl ?_
   refine gk (vb (y12.2 != (0 : Int))) 146 (.bin .neq false 145 (ki 0)) 144 false rfl (fun hg=>(.cons hg (.cons rfl .nil))) ?_
   refine po 147 144 146 rfl rfl ?_
   refine jf (.d3 (.k4 (.k (.i 147 (vb ((y12.1 != (2 : Int)) || (y12.2 != (0 : Int)))) .n)))) ?_
   refine tc h (fun c11 h=>?_) (fun c11 h=>?_)
   ·refine sk (.i 6 (vb false) .n) ?_
    refine q3 ?_
    have h:=si h
    subst h
    exact DoneS.ret (S' := ⟨[(6, vb false)], []⟩) (sc [] (by decide) (by kernel_rfl) ObRen.nil rfl rfl) rfl rfl
   refine q2 ?_
   exact Vs.intro sy ⟨(), rfl, h⟩
  refine sj ?_
  refine rk 3 (.k4 (.k2 (.i 150 (vb (y12.1 != (0 : Int))) .n))) ?_
  refine gj (vi y12.2) 151 (.mov 11) 150 false rfl ?_
  refine gj (eS 7 eItem a1) 152 (.mov 1) 150 false rfl ?_
  refine gj (.ptr 1 0 1) 153 (.faddr 1 5) 150 false rfl ?_
  refine gk (vi a2.Minute) 154 (.load false 1 153) 150 false rfl (fun hg=>(.cons hg .nil)) ?_
  refine bK h fun y17 hy17 h=>?_
  refine gc 155 [152,154] 150 false rfl (fun hg=>q132k n a1 a2.Minute y17 (zao hy17 hg)) (fun hg=>(.cons rfl (.cons hg (.cons hg .nil)))) (fun hg=>by kernel_rfl) ?_
  refine gk (vb (y12.2 != y17)) 156 (.bin .neq false 151 155) 150 false rfl (fun hg=>(.cons hg (.cons hg .nil))) ?_
  refine po 157 150 156 rfl rfl ?_
  refine jf (.d4 (.d3 (.k4 (.k (.i 157 (vb ((y12.1 != (0 : Int)) || (y12.2 != y17))) .n))))) ?_
  refine tc h (fun c12 h=>?_) (fun c12 h=>?_)
  ·refine sk (.i 6 (vb false) .n) ?_
   refine q3 ?_
   have h:=si h
   subst h
   exact DoneS.ret (S' := ⟨[(6, vb false)], []⟩) (sc [] (by decide) (by kernel_rfl) ObRen.nil rfl rfl) rfl rfl
  refine q2 ?_
  exact Vs.intro sy ⟨(), rfl, h⟩
 intro k1 h
 refine sk (.k4 (.k4 (.k (.i 17 (vi 0) .n)))) ?_
 refine q4 ?_
 refine ts (.k4 (.k4 (.k (.i 17 (vi 0) .n)))) ?_
 refine TriE.loopN h (fun (v15 : Nat)=>St.mk [(1,eS 7 eItem a1),(3,.ptr 0 0 0),(5,.ptr 1 0 0),(7,vt y6.2),(8,vi y6.1),(9,eS 2 zae y9.2),(11,vi y12.2),(12,vi y12.1),(15,eS 2 zae y14.1),(17,vi v15)] [some (.row 6 [.agg [eS 1 vt a0.Pcs,eS 1 vt a0.Tc,eS 4 eRoad a0.Roads,eS 3 eGd a0.Gds,vi a0.Change,vi a0.Lasts]]),some (.row 2 [.agg [vt a2.Grand,vi a2.Minute]])]) rfl ?_
 clear h
 rintro back v15 h
 dsimp only [q12k] at h
 refine q1 ?_
 refine sj ?_
 refine rk 2 (.k4 (.k4 (.k2 (.i 123 (vi v15) (.i 124 (eS 2 zae y9.2) .n))))) ?_
 refine jo 125 (.len 0 124) (zad rfl) ?_
 refine jo 126 (.bin .lss false 123 125) (zbg (i:=v15) (j:=y9.2.length) rfl rfl) ?_
 refine jf (.d2 (.k4 (.k4 (.k2 (.i 126 (vb (decide (v15 < y9.2.length))) .n))))) ?_
 refine tc h (fun c6 h=>?_) (fun c6 h=>?_)
 ·refine q2 ?_
  refine q7 ?_
  refine q1 ?_
  refine ts (.k4 (.k4 (.k2 .n))) ?_
  refine TriE.draw (by kernel_rfl) ?_
  refine dk 2 (.i 130 (vi v15) (.i 129 (eS 2 zae y9.2) .a)) ?_
  refine dp 131 (.iaddr 2 129 130) (zab (j:=v15) rfl rfl rfl c6) ?_
  refine dp 132 (.load true 2 131) (zaa (v:=.agg [vi ((ix y9.2 v15).a0),vi ((ix y9.2 v15).a1)]) rfl c6 rfl) ?_
  refine dk 2 (.i 134 (vi v15) (.i 133 (eS 2 zae y14.1) .a)) ?_
  refine cK h fun c7 h=>?_
  refine dp 135 (.iaddr 2 133 134) (zab (j:=v15) rfl rfl rfl c7) ?_
  refine dp 136 (.load true 2 135) (zaa (v:=.agg [vi ((ix y14.1 v15).a0),vi ((ix y14.1 v15).a1)]) rfl c7 rfl) ?_
  refine RegD.op (OpD.aggeq (cs:=[vi ((ix y9.2 v15).a0),vi ((ix y9.2 v15).a1)]) (ds:=[vi ((ix y14.1 v15).a0),vi ((ix y14.1 v15).a1)]) (b:=(((ix y9.2 v15).a0) == ((ix y14.1 v15).a0)) && ((((ix y9.2 v15).a1) == ((ix y14.1 v15).a1)) && true)) true (cy (I0 137 (.bin .neq false 132 136))) rfl rfl rfl (by kernel_rfl) (.cons rfl (.cons rfl .nil))) ?_
  refine RegD.done rfl (by kernel_rfl) (S':=⟨[(1,eS 7 eItem a1),(3,.ptr 0 0 0),(5,.ptr 1 0 0),(7,vt y6.2),(8,vi y6.1),(9,eS 2 zae y9.2),(11,vi y12.2),(12,vi y12.1),(15,eS 2 zae y14.1),(17,vi v15),(137,vb (!((((ix y9.2 v15).a0) == ((ix y14.1 v15).a0)) && ((((ix y9.2 v15).a1) == ((ix y14.1 v15).a1)) && true))))],[some (.row 6 [.agg [eS 1 vt a0.Pcs,eS 1 vt a0.Tc,eS 4 eRoad a0.Roads,eS 3 eGd a0.Gds,vi a0.Change,vi a0.Lasts]]),some (.row 2 [.agg [vt a2.Grand,vi a2.Minute]])]⟩) (sc [0,1] (by decide) (by kernel_rfl) (.cons rfl (.cons rfl .nil)) rfl rfl) ?_
  refine tc h (fun c8 h=>?_) (fun c8 h=>?_)
  ·refine sk (.i 6 (vb false) .n) ?_
   refine q3 ?_
   have h:=si h
   subst h
   exact DoneS.ret (S' := ⟨[(6, vb false)], []⟩) (sc [] (by decide) (by kernel_rfl) ObRen.nil rfl rfl) rfl rfl
  refine q2 ?_
  refine q6 ?_
  refine rk 1 (.k4 (.k4 (.k (.i 127 (vi v15) .n)))) ?_
  refine cK h fun c9 h=>?_
  refine jo 128 (.bin .add false 127 (ki 1)) (zan (i:=v15) (j:=1) rfl rfl c9) ?_
  refine jk 1 (.d (.k4 (.k4 (.k (.i 17 (vi ((v15 + 1 : Nat) : Int)) .n))))) ?_
  exact Vs.intro sy ⟨(v15 + 1), rfl, h⟩
 refine q5 ?_
 exact Vs.intro sy ⟨(), rfl, h⟩
end Go.Proofs.YtpmkdgnhllhaeaaGreat.As
