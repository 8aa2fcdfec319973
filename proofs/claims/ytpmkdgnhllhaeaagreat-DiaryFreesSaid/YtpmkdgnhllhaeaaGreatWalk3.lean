/- The code computes what the plain functions say, part 3: no condition. -/
import Derived.Test.YtpmkdgnhllhaeaaGreatWalk2
namespace Go.Proofs.YtpmkdgnhllhaeaaGreat.As
open Go Go.Proofs
set_option maxRecDepth 4000
set_option maxHeartbeats 1000000 in
theorem agrafferef09_breaks_ok (n : Nat) (a0 : Diary) (a1 : List Item) (a2 : Item) (r : Int) (h : agrafferef09_breaks n a0 a1 a2 = some r) : FnL Tryz.prog 55 [.agg [eS 1 vt a0.Places, eS 1 vt a0.Technicians, eS 4 eRoad a0.Roads, eS 3 eGrand a0.Grands, vi a0.Change, vi a0.Lasts], eS 7 eItem a1, .agg [vi a2.Kind, vi a2.From, vi a2.To, vt a2.Grand, vt a2.Place, vt a2.Who, vi a2.Deposit]] [] (vi r) [] := by
 dsimp only [agrafferef09_breaks] at h
 refine fo [6] Tryz.call55 Tryz.func55 rfl ?_
 refine sko (.d (.k (.i 3 (.ptr 0 0 0) (.i 5 (.ptr 1 0 0) .n)))) [some (.row 6 [.agg [eS 1 vt a0.Places,eS 1 vt a0.Technicians,eS 4 eRoad a0.Roads,eS 3 eGrand a0.Grands,vi a0.Change,vi a0.Lasts]]),some (.row 7 [.agg [vi a2.Kind,vi a2.From,vi a2.To,vt a2.Grand,vt a2.Place,vt a2.Who,vi a2.Deposit]])] ?_
 refine TriE.seqK h (fun (_ : Unit)=>St.mk [(1,eS 7 eItem a1),(3,.ptr 0 0 0),(5,.ptr 1 0 0)] [some (.row 6 [.agg [eS 1 vt a0.Places,eS 1 vt a0.Technicians,eS 4 eRoad a0.Roads,eS 3 eGrand a0.Grands,vi a0.Change,vi a0.Lasts]]),some (.row 7 [.agg [vi a2.Kind,vi a2.From,vi a2.To,vt a2.Grand,vt a2.Place,vt a2.Who,vi a2.Deposit]])]) ?_ ?_
 ·rintro ⟨⟩ h
  refine sj ?_
  refine rk 6 (.k3 (.i 40 (.agg [eS 1 vt a0.Places,eS 1 vt a0.Technicians,eS 4 eRoad a0.Roads,eS 3 eGrand a0.Grands,vi a0.Change,vi a0.Lasts]) (.i 41 (eS 7 eItem a1) (.i 43 (vt a2.Grand) (.i 45 (vi a2.From) .n))))) ?_
  refine bK h fun y2 hy2 h=>?_
  refine jc 46 [40,41,43,45] (agrafferef09_Stands_ok n a0 a1 a2.Grand a2.From y2 hy2) ?_
  refine jk 1 (.d (.k3 (.i 8 (vt y2) .n))) ?_
  refine q1 ?_
  refine sj ?_
  refine rk 4 (.k4 (.i 50 (vb (a2.Kind != (1 : Int))) .n)) ?_
  refine gj (vt y2) 51 (.mov 8) 50 true rfl ?_
  refine gj (.ptr 1 0 4) 52 (.faddr 4 5) 50 true rfl ?_
  refine gk (vt a2.Place) 53 (.load false 1 52) 50 true rfl (fun hg=>(.cons hg .nil)) ?_
  refine gk (vb (!(y2 == a2.Place))) 54 (.bin .neq false 51 53) 50 true rfl (fun hg=>(.cons hg (.cons hg .nil))) ?_
  refine pa 55 50 54 rfl rfl ?_
  refine jf (.d4 (.d (.k4 (.i 55 (vb ((a2.Kind != (1 : Int)) && (!(y2 == a2.Place)))) .n)))) ?_
  refine tc h (fun c5 h=>?_) (fun c5 h=>?_)
  ·refine sk (.i 6 (vi 13) .n) ?_
   refine q3 ?_
   have h:=si h
   subst h
   exact DoneS.ret (S' := ⟨[(6, vi 13)], []⟩) (sc [] (by decide) (by kernel_rfl) ObRen.nil rfl rfl) rfl rfl
  refine q2 ?_
  refine TriE.seqK h (fun (_ : Unit)=>St.mk [(1,eS 7 eItem a1),(3,.ptr 0 0 0),(5,.ptr 1 0 0)] [some (.row 6 [.agg [eS 1 vt a0.Places,eS 1 vt a0.Technicians,eS 4 eRoad a0.Roads,eS 3 eGrand a0.Grands,vi a0.Change,vi a0.Lasts]]),some (.row 7 [.agg [vi a2.Kind,vi a2.From,vi a2.To,vt a2.Grand,vt a2.Place,vt a2.Who,vi a2.Deposit]])]) ?_ ?_
  ·rintro ⟨⟩ h
   refine TriE.seqK h (fun (_ : Unit)=>St.mk [(1,eS 7 eItem a1),(3,.ptr 0 0 0),(5,.ptr 1 0 0)] [some (.row 6 [.agg [eS 1 vt a0.Places,eS 1 vt a0.Technicians,eS 4 eRoad a0.Roads,eS 3 eGrand a0.Grands,vi a0.Change,vi a0.Lasts]]),some (.row 7 [.agg [vi a2.Kind,vi a2.From,vi a2.To,vt a2.Grand,vt a2.Place,vt a2.Who,vi a2.Deposit]])]) ?_ ?_
   ·rintro ⟨⟩ h
    refine q1 ?_
    refine sj ?_
    refine rk 4 (.k3 (.i 131 (vb (a2.Kind == (2 : Int))) .n)) ?_
    refine gj (.agg [eS 1 vt a0.Places,eS 1 vt a0.Technicians,eS 4 eRoad a0.Roads,eS 3 eGrand a0.Grands,vi a0.Change,vi a0.Lasts]) 132 (.load true 6 3) 131 true rfl ?_
    refine gj (eS 7 eItem a1) 133 (.mov 1) 131 true rfl ?_
    refine gj (.agg [vi a2.Kind,vi a2.From,vi a2.To,vt a2.Grand,vt a2.Place,vt a2.Who,vi a2.Deposit]) 134 (.load true 7 5) 131 true rfl ?_
    refine bK h fun y8 hy8 h=>?_
    refine gc 135 [132,133,134] 131 true rfl (fun hg=>agrafferef09_Rests_ok n a0 a1 a2 y8 (gcall_some hy8 hg)) (fun hg=>(.cons rfl (.cons hg (.cons hg (.cons hg .nil))))) (fun hg=>by kernel_rfl) ?_
    refine gk (vb (decide (y8 < (0 : Int)))) 136 (.bin .lss false 135 (ki 0)) 131 true rfl (fun hg=>(.cons hg (.cons rfl .nil))) ?_
    refine pa 137 131 136 rfl rfl ?_
    refine jf (.i 137 (vb ((a2.Kind == (2 : Int)) && (decide (y8 < (0 : Int))))) .n) ?_
    refine tc h (fun c19 h=>?_) (fun c19 h=>?_)
    ·refine sk (.i 6 (vi 26) .n) ?_
     refine q3 ?_
     have h:=si h
     subst h
     exact DoneS.ret (S' := ⟨[(6, vi 26)], []⟩) (sc [] (by decide) (by kernel_rfl) ObRen.nil rfl rfl) rfl rfl
    refine q2 ?_
    refine sk (.i 6 (vi 0) .n) ?_
    refine q3 ?_
    have h:=si h
    subst h
    exact DoneS.ret (S' := ⟨[(6, vi 0)], []⟩) (sc [] (by decide) (by kernel_rfl) ObRen.nil rfl rfl) rfl rfl
   intro k4 h
   refine sk (.k3 (.i 10 (vi 0) .n)) ?_
   refine q4 ?_
   refine ts (.k3 (.i 10 (vi 0) .n)) ?_
   refine TriE.loopN h (fun (v6 : Nat)=>St.mk [(1,eS 7 eItem a1),(3,.ptr 0 0 0),(5,.ptr 1 0 0),(10,vi v6)] [some (.row 6 [.agg [eS 1 vt a0.Places,eS 1 vt a0.Technicians,eS 4 eRoad a0.Roads,eS 3 eGrand a0.Grands,vi a0.Change,vi a0.Lasts]]),some (.row 7 [.agg [vi a2.Kind,vi a2.From,vi a2.To,vt a2.Grand,vt a2.Place,vt a2.Who,vi a2.Deposit]])]) rfl ?_
   clear h
   rintro back v6 h
   dsimp only [agrafferef09_breaks_L2] at h
   refine q1 ?_
   refine sj ?_
   refine rk 2 (.k4 (.i 86 (vi v6) (.i 87 (eS 7 eItem a1) .n))) ?_
   refine jo 88 (.len 0 87) (ok_len_m rfl) ?_
   refine jo 89 (.bin .lss false 86 88) (n_lss (i:=v6) (j:=a1.length) rfl rfl) ?_
   refine rk 1 (.d2 (.k4 (.i 90 (vb (decide (v6 < a1.length))) .n))) ?_
   refine gj (.ptr 1 0 0) 91 (.faddr 0 5) 90 true rfl ?_
   refine gk (vi a2.Kind) 92 (.load false 1 91) 90 true rfl (fun hg=>(.cons hg .nil)) ?_
   refine gk (vb (a2.Kind == (0 : Int))) 93 (.bin .eql false 92 (ki 0)) 90 true rfl (fun hg=>(.cons hg (.cons rfl .nil))) ?_
   refine pa 94 90 93 rfl rfl ?_
   refine jf (.d4 (.k4 (.i 94 (vb ((decide (v6 < a1.length)) && (a2.Kind == (0 : Int)))) .n))) ?_
   refine tc h (fun c13 h=>?_) (fun c13 h=>?_)
   ·refine q2 ?_
    refine TriE.seqK h (fun (_ : Unit)=>St.mk [(1,eS 7 eItem a1),(3,.ptr 0 0 0),(5,.ptr 1 0 0),(10,vi v6)] [some (.row 6 [.agg [eS 1 vt a0.Places,eS 1 vt a0.Technicians,eS 4 eRoad a0.Roads,eS 3 eGrand a0.Grands,vi a0.Change,vi a0.Lasts]]),some (.row 7 [.agg [vi a2.Kind,vi a2.From,vi a2.To,vt a2.Grand,vt a2.Place,vt a2.Who,vi a2.Deposit]])]) ?_ ?_
    ·rintro ⟨⟩ h
     refine q6 ?_
     refine rk 1 (.k3 (.i 95 (vi v6) .n)) ?_
     refine cK h fun c18 h=>?_
     refine jo 96 (.bin .add false 95 (ki 1)) (r_addn (i:=v6) (j:=1) rfl rfl c18) ?_
     refine jk 1 (.d (.k3 (.i 10 (vi ((v6 + 1 : Nat) : Int)) .n))) ?_
     exact Vs.intro sy ⟨(v6 + 1), rfl, h⟩
    intro k3 h
    refine q4 ?_
    refine sj ?_
    refine rk 2 (.k4 (.i 97 (eS 7 eItem a1) (.i 98 (vi v6) .n))) ?_
    refine cK h fun c14 h=>?_
    refine jo 99 (.iaddr 7 97 98) (ok_iaddr_m (j:=v6) rfl rfl rfl c14) ?_
    refine jo 100 (.load true 7 99) (ok_load_fm (v:=.agg [vi ((ix a1 v6).Kind),vi ((ix a1 v6).From),vi ((ix a1 v6).To),vt ((ix a1 v6).Grand),vt ((ix a1 v6).Place),vt ((ix a1 v6).Who),vi ((ix a1 v6).Deposit)]) rfl c14 rfl) ?_
    refine jko 2 (.d2 (.k4 (.i 11 (.ptr 2 0 0) .n))) [some (.row 6 [.agg [eS 1 vt a0.Places,eS 1 vt a0.Technicians,eS 4 eRoad a0.Roads,eS 3 eGrand a0.Grands,vi a0.Change,vi a0.Lasts]]),some (.row 7 [.agg [vi a2.Kind,vi a2.From,vi a2.To,vt a2.Grand,vt a2.Place,vt a2.Who,vi a2.Deposit]]),some (.row 7 [.agg [vi ((ix a1 v6).Kind),vi ((ix a1 v6).From),vi ((ix a1 v6).To),vt ((ix a1 v6).Grand),vt ((ix a1 v6).Place),vt ((ix a1 v6).Who),vi ((ix a1 v6).Deposit)]])] ?_
    refine q1 ?_
    refine sj ?_
    refine rk 4 (.k4 (.k (.i 104 (vb (((ix a1 v6).Kind) != (0 : Int))) .n))) ?_
    refine gj (.ptr 2 0 5) 105 (.faddr 5 11) 104 false rfl ?_
    refine gk (vt ((ix a1 v6).Who)) 106 (.load false 1 105) 104 false rfl (fun hg=>(.cons hg .nil)) ?_
    refine gj (.ptr 1 0 5) 107 (.faddr 5 5) 104 false rfl ?_
    refine gk (vt a2.Who) 108 (.load false 1 107) 104 false rfl (fun hg=>(.cons hg .nil)) ?_
    refine gk (vb (!(((ix a1 v6).Who) == a2.Who))) 109 (.bin .neq false 106 108) 104 false rfl (fun hg=>(.cons hg (.cons hg .nil))) ?_
    refine po 110 104 109 rfl rfl ?_
    refine jf (.d4 (.d2 (.k4 (.k (.i 110 (vb ((((ix a1 v6).Kind) != (0 : Int)) || (!(((ix a1 v6).Who) == a2.Who)))) .n))))) ?_
    refine tc h (fun c15 h=>?_) (fun c15 h=>?_)
    ·refine q5 ?_
     exact Vs.intro (sc [0, 1] (by decide) (by kernel_rfl) (.cons rfl (.cons rfl .nil)) rfl rfl) ⟨(), rfl, h⟩
    refine q2 ?_
    refine sj ?_
    refine rk 5 (.k4 (.k (.i 111 (.agg [eS 1 vt a0.Places,eS 1 vt a0.Technicians,eS 4 eRoad a0.Roads,eS 3 eGrand a0.Grands,vi a0.Change,vi a0.Lasts]) (.i 113 (vt ((ix a1 v6).Place)) (.i 115 (vt a2.Place) .n))))) ?_
    refine bK h fun y7 hy7 h=>?_
    refine jc 116 [111,113,115,(ki 1)] (agrafferef09_Distance_ok n a0 ((ix a1 v6).Place) a2.Place 1 y7 hy7) ?_
    refine jk 1 (.d (.k4 (.k (.i 12 (vi y7) .n)))) ?_
    refine sj ?_
    refine rk 3 (.k4 (.k2 (.i 119 (vb (decide (y7 < (0 : Int)))) .n))) ?_
    refine gj (.ptr 1 0 1) 120 (.faddr 1 5) 119 false rfl ?_
    refine gk (vi a2.From) 121 (.load false 1 120) 119 false rfl (fun hg=>(.cons hg .nil)) ?_
    refine gj (.ptr 2 0 2) 122 (.faddr 2 11) 119 false rfl ?_
    refine gk (vi ((ix a1 v6).To)) 123 (.load false 1 122) 119 false rfl (fun hg=>(.cons hg .nil)) ?_
    refine gj (vi y7) 124 (.mov 12) 119 false rfl ?_
    refine cK h fun c16 h=>?_
    refine gv 125 (.bin .add false 123 124) 119 false rfl (fun hg=>(r_add rfl rfl (gor c16 hg))) (fun hg=>(.cons hg (.cons hg .nil))) ?_
    refine gk (vb (decide (a2.From < (((ix a1 v6).To) + y7)))) 126 (.bin .lss false 121 125) 119 false rfl (fun hg=>(.cons hg (.cons hg .nil))) ?_
    refine po 127 119 126 rfl rfl ?_
    refine jf (.d4 (.d4 (.k4 (.i 127 (vb ((decide (y7 < (0 : Int))) || (decide (a2.From < (((ix a1 v6).To) + y7))))) .n)))) ?_
    refine tc h (fun c17 h=>?_) (fun c17 h=>?_)
    ·refine sk (.i 6 (vi 16) .n) ?_
     refine q3 ?_
     have h:=si h
     subst h
     exact DoneS.ret (S' := ⟨[(6, vi 16)], []⟩) (sc [] (by decide) (by kernel_rfl) ObRen.nil rfl rfl) rfl rfl
    refine q2 ?_
    exact Vs.intro (sc [0, 1] (by decide) (by kernel_rfl) (.cons rfl (.cons rfl .nil)) rfl rfl) ⟨(), rfl, h⟩
   refine q5 ?_
   exact Vs.intro sy ⟨(), rfl, h⟩
  intro k2 h
  refine sk (.k4 (.i 58 (vb (a2.Kind == (1 : Int))) .n)) ?_
  refine tc h (fun c6 h=>?_) (fun c6 h=>?_)
  ·refine q1 ?_
   refine sk (.k4 (.i 62 (vb (y2 == a2.Place)) .n)) ?_
   refine tc h (fun c7 h=>?_) (fun c7 h=>?_)
   ·refine sk (.i 6 (vi 24) .n) ?_
    refine q3 ?_
    have h:=si h
    subst h
    exact DoneS.ret (S' := ⟨[(6, vi 24)], []⟩) (sc [] (by decide) (by kernel_rfl) ObRen.nil rfl rfl) rfl rfl
   refine q2 ?_
   refine q1 ?_
   refine ts (.k4 .n) ?_
   refine TriE.draw (by kernel_rfl) ?_
   refine dk 9 (.i 71 (vt a2.Grand) (.i 70 (.ptr 1 0 3) (.i 69 (.agg [eS 1 vt a0.Places,eS 1 vt a0.Technicians,eS 4 eRoad a0.Roads,eS 3 eGrand a0.Grands,vi a0.Change,vi a0.Lasts]) (.i 68 (eS 3 eGrand a0.Grands) (.i 67 (.ptr 0 0 3) (.i 66 (vt a2.Place) (.i 65 (.ptr 1 0 4) (.i 64 (vt y2) (.i 63 (.agg [eS 1 vt a0.Places,eS 1 vt a0.Technicians,eS 4 eRoad a0.Roads,eS 3 eGrand a0.Grands,vi a0.Change,vi a0.Lasts]) .a))))))))) ?_
   refine bK h fun y3 hy3 h=>?_
   refine dc (vi y3) 0 72 [69,71] (agrafferef09_GrandAt_ok n a0 a2.Grand y3 hy3) [] rfl ObsRen.nil ObsRen.nil rfl (.inr ⟨rfl,rfl⟩) ?_
   refine cK h fun c8 h=>?_
   refine dp 73 (.iaddr 3 68 72) (ok_iaddr_m (j:=y3.toNat) rfl rfl (inB_to c8) (inB_lt c8)) ?_
   refine dk 1 (.i 74 (.fptr 3 (List.map eGrand a0.Grands) y3.toNat 2) .a) ?_
   refine cK h fun c9 h=>?_
   refine dp 75 (.load false 1 74) (ok_load_fm (v:=vi ((ix a0.Grands y3.toNat).Width)) rfl c9 rfl) ?_
   refine bK h fun y4 hy4 h=>?_
   refine dc (vi y4) 0 76 [63,64,66,75] (agrafferef09_Distance_ok n a0 y2 a2.Place ((ix a0.Grands y3.toNat).Width) y4 hy4) [] rfl ObsRen.nil ObsRen.nil rfl (.inr ⟨rfl,rfl⟩) ?_
   refine dk 1 (.i 9 (vi y4) .a) ?_
   refine dfi (ob':=[some (.row 6 [.agg [eS 1 vt a0.Places,eS 1 vt a0.Technicians,eS 4 eRoad a0.Roads,eS 3 eGrand a0.Grands,vi a0.Change,vi a0.Lasts]]),some (.row 7 [.agg [vi a2.Kind,vi a2.From,vi a2.To,vt a2.Grand,vt a2.Place,vt a2.Who,vi a2.Deposit]])]) (.d4 (.d4 (.d4 (.d3 (.k3 (.i 9 (vi y4) .n)))))) [0,1] (.cons rfl (.cons rfl .nil)) ?_
   refine q1 ?_
   refine sk (.k4 (.i 78 (vb (decide (y4 < (0 : Int)))) .n)) ?_
   refine tc h (fun c10 h=>?_) (fun c10 h=>?_)
   ·refine sk (.i 6 (vi 12) .n) ?_
    refine q3 ?_
    have h:=si h
    subst h
    exact DoneS.ret (S' := ⟨[(6, vi 12)], []⟩) (sc [] (by decide) (by kernel_rfl) ObRen.nil rfl rfl) rfl rfl
   refine q2 ?_
   refine sj ?_
   refine rk 5 (.k3 (.i 79 (vi y4) (.i 81 (vi a2.To) (.i 83 (vi a2.From) .n)))) ?_
   refine cK h fun c11 h=>?_
   refine jo 84 (.bin .sub false 81 83) (r_sub rfl rfl c11) ?_
   refine jk 1 (.d (.k3 (.i 85 (vb (decide ((a2.To - a2.From) < y4))) .n))) ?_
   refine tc h (fun c12 h=>?_) (fun c12 h=>?_)
   ·refine sk (.i 6 (vi 18) .n) ?_
    refine q3 ?_
    have h:=si h
    subst h
    exact DoneS.ret (S' := ⟨[(6, vi 18)], []⟩) (sc [] (by decide) (by kernel_rfl) ObRen.nil rfl rfl) rfl rfl
   refine q2 ?_
   exact Vs.intro sy ⟨(), rfl, h⟩
  refine q2 ?_
  exact Vs.intro sy ⟨(), rfl, h⟩
 intro k1 h
 refine sk (.k3 (.i 7 (vi 0) .n)) ?_
 refine q4 ?_
 refine ts (.k3 (.i 7 (vi 0) .n)) ?_
 refine TriE.loopN h (fun (v1 : Nat)=>St.mk [(1,eS 7 eItem a1),(3,.ptr 0 0 0),(5,.ptr 1 0 0),(7,vi v1)] [some (.row 6 [.agg [eS 1 vt a0.Places,eS 1 vt a0.Technicians,eS 4 eRoad a0.Roads,eS 3 eGrand a0.Grands,vi a0.Change,vi a0.Lasts]]),some (.row 7 [.agg [vi a2.Kind,vi a2.From,vi a2.To,vt a2.Grand,vt a2.Place,vt a2.Who,vi a2.Deposit]])]) rfl ?_
 clear h
 rintro back v1 h
 dsimp only [agrafferef09_breaks_L1] at h
 refine q1 ?_
 refine sj ?_
 refine rk 2 (.k4 (.i 13 (vi v1) (.i 14 (eS 7 eItem a1) .n))) ?_
 refine jo 15 (.len 0 14) (ok_len_m rfl) ?_
 refine jo 16 (.bin .lss false 13 15) (n_lss (i:=v1) (j:=a1.length) rfl rfl) ?_
 refine jf (.d2 (.k4 (.i 16 (vb (decide (v1 < a1.length))) .n))) ?_
 refine tc h (fun c1 h=>?_) (fun c1 h=>?_)
 ·refine q2 ?_
  refine q7 ?_
  refine q1 ?_
  refine ts (.k4 .n) ?_
  refine TriE.draw (by kernel_rfl) ?_
  refine dk 2 (.i 20 (vi v1) (.i 19 (eS 7 eItem a1) .a)) ?_
  refine dp 21 (.iaddr 7 19 20) (ok_iaddr_m (j:=v1) rfl rfl rfl c1) ?_
  refine dk 1 (.i 22 (.fptr 7 (List.map eItem a1) v1 3) .a) ?_
  refine dp 23 (.load false 1 22) (ok_load_fm (v:=vt ((ix a1 v1).Grand)) rfl c1 rfl) ?_
  refine dk 4 (.i 27 (vb (((ix a1 v1).Grand) == a2.Grand)) (.i 26 (vb (((ix a1 v1).Grand) == a2.Grand)) (.i 25 (vt a2.Grand) (.i 24 (.ptr 1 0 3) .a)))) ?_
  refine gd (((ix a1 v1).Grand) == a2.Grand) (.ptr 1 0 1) 28 (.faddr 1 5) 27 true rfl (fun hg=>(.cons rfl .nil)) ?_
  refine gd (((ix a1 v1).Grand) == a2.Grand) (vi a2.From) 29 (.load false 1 28) 27 true rfl (fun hg=>(.cons hg .nil)) ?_
  refine gd (((ix a1 v1).Grand) == a2.Grand) (eS 7 eItem a1) 30 (.mov 1) 27 true rfl (fun hg=>(.cons rfl .nil)) ?_
  refine gd (((ix a1 v1).Grand) == a2.Grand) (vi v1) 31 (.mov 7) 27 true rfl (fun hg=>(.cons rfl .nil)) ?_
  refine gu (((ix a1 v1).Grand) == a2.Grand) 32 (.iaddr 7 30 31) 27 true rfl (fun hg=>(ok_iaddr_m (j:=v1) rfl rfl rfl c1)) (fun hg=>(.cons hg (.cons hg .nil))) ?_
  refine gd (((ix a1 v1).Grand) == a2.Grand) (.fptr 7 (List.map eItem a1) v1 2) 33 (.faddr 2 32) 27 true rfl (fun hg=>(.cons hg .nil)) ?_
  refine gu (((ix a1 v1).Grand) == a2.Grand) 34 (.load false 1 33) 27 true rfl (fun hg=>(ok_load_fm (v:=vi ((ix a1 v1).To)) rfl c1 rfl)) (fun hg=>(.cons hg .nil)) ?_
  refine gd (((ix a1 v1).Grand) == a2.Grand) (.ptr 0 0 4) 35 (.faddr 4 3) 27 true rfl (fun hg=>(.cons rfl .nil)) ?_
  refine gd (((ix a1 v1).Grand) == a2.Grand) (vi a0.Change) 36 (.load false 1 35) 27 true rfl (fun hg=>(.cons hg .nil)) ?_
  refine cK h fun c2 h=>?_
  refine gu (((ix a1 v1).Grand) == a2.Grand) 37 (.bin .add false 34 36) 27 true rfl (fun hg=>(r_add rfl rfl (gor c2 hg))) (fun hg=>(.cons hg (.cons hg .nil))) ?_
  refine gd (((ix a1 v1).Grand) == a2.Grand) (vb (decide (a2.From < (((ix a1 v1).To) + a0.Change)))) 38 (.bin .lss false 29 37) 27 true rfl (fun hg=>(.cons hg (.cons hg .nil))) ?_
  refine RegD.op (OpD.and (cy (I0 39 (.pick 27 38 (.c (.p (.bool false)))))) rfl rfl (by first | exact hokA1 | exact hokA0 | simp)) ?_
  refine dfi (ob':=[some (.row 6 [.agg [eS 1 vt a0.Places,eS 1 vt a0.Technicians,eS 4 eRoad a0.Roads,eS 3 eGrand a0.Grands,vi a0.Change,vi a0.Lasts]]),some (.row 7 [.agg [vi a2.Kind,vi a2.From,vi a2.To,vt a2.Grand,vt a2.Place,vt a2.Who,vi a2.Deposit]])]) (.d4 (.d4 (.d4 (.d4 (.d4 (.d (.k4 (.i 39 (vb ((((ix a1 v1).Grand) == a2.Grand) && (decide (a2.From < (((ix a1 v1).To) + a0.Change))))) .n)))))))) [0,1] (.cons rfl (.cons rfl .nil)) ?_
  refine tc h (fun c3 h=>?_) (fun c3 h=>?_)
  ·refine sk (.i 6 (vi 17) .n) ?_
   refine q3 ?_
   have h:=si h
   subst h
   exact DoneS.ret (S' := ⟨[(6, vi 17)], []⟩) (sc [] (by decide) (by kernel_rfl) ObRen.nil rfl rfl) rfl rfl
  refine q2 ?_
  refine q6 ?_
  refine rk 1 (.k3 (.i 17 (vi v1) .n)) ?_
  refine cK h fun c4 h=>?_
  refine jo 18 (.bin .add false 17 (ki 1)) (r_addn (i:=v1) (j:=1) rfl rfl c4) ?_
  refine jk 1 (.d (.k3 (.i 7 (vi ((v1 + 1 : Nat) : Int)) .n))) ?_
  exact Vs.intro sy ⟨(v1 + 1), rfl, h⟩
 refine q5 ?_
 exact Vs.intro sy ⟨(), rfl, h⟩
set_option maxHeartbeats 1000000 in
theorem agrafferef09_Accept_ok (n : Nat) (a0 : Diary) (a1 : List Item) (r : Int × Int) (h : agrafferef09_Accept n a0 a1 = some r) : FnL Tryz.prog 16 [.agg [eS 1 vt a0.Places, eS 1 vt a0.Technicians, eS 4 eRoad a0.Roads, eS 3 eGrand a0.Grands, vi a0.Change, vi a0.Lasts], eS 7 eItem a1] [] (.tup [vi r.2, vi r.1]) [] := by
 dsimp only [agrafferef09_Accept] at h
 refine fo [4,5] Tryz.call16 Tryz.func16 rfl ?_
 refine sko (.d (.k (.i 2 (.ptr 0 0 0) .n))) [some (.row 6 [.agg [eS 1 vt a0.Places,eS 1 vt a0.Technicians,eS 4 eRoad a0.Roads,eS 3 eGrand a0.Grands,vi a0.Change,vi a0.Lasts]])] ?_
 refine q1 ?_
 refine sj ?_
 refine rk 1 (.k2 (.i 10 (.agg [eS 1 vt a0.Places,eS 1 vt a0.Technicians,eS 4 eRoad a0.Roads,eS 3 eGrand a0.Grands,vi a0.Change,vi a0.Lasts]) .n)) ?_
 refine bK h fun y1 hy1 h=>?_
 refine jc 11 [10] (agrafferef09_CheckDiary_ok n a0 y1 hy1) ?_
 refine jk 1 (.d (.k2 (.i 6 (vi y1) .n))) ?_
 refine sk (.k3 (.i 13 (vb (y1 != (0 : Int))) .n)) ?_
 refine tc h (fun c1 h=>?_) (fun c1 h=>?_)
 ·refine sk (.i 4 (vi 0) (.i 5 (vi y1) .n)) ?_
  refine q3 ?_
  have h:=si h
  subst h
  exact DoneS.ret (S' := ⟨[(4, vi 0), (5, vi y1)], []⟩) (sc [] (by decide) (by kernel_rfl) ObRen.nil rfl rfl) rfl rfl
 refine q2 ?_
 refine q1 ?_
 refine sj ?_
 refine rk 1 (.k2 (.i 15 (eS 7 eItem a1) .n)) ?_
 refine jo 16 (.len 0 15) (ok_len_m rfl) ?_
 refine jo 17 (.bin .gtr false 16 (ki 100)) (n_gtr (i:=a1.length) (j:=100) rfl rfl) ?_
 refine jf (.d2 (.k2 (.i 17 (vb (decide (100 < a1.length))) .n))) ?_
 refine tc h (fun c2 h=>?_) (fun c2 h=>?_)
 ·refine sk (.i 4 (vi 0) (.i 5 (vi 8) .n)) ?_
  refine q3 ?_
  have h:=si h
  subst h
  exact DoneS.ret (S' := ⟨[(4, vi 0), (5, vi 8)], []⟩) (sc [] (by decide) (by kernel_rfl) ObRen.nil rfl rfl) rfl rfl
 refine q2 ?_
 refine TriE.seqK h (fun (_ : Unit)=>St.mk [] []) ?_ ?_
 ·rintro ⟨⟩ h
  refine sk (.i 4 (vi (-1)) (.i 5 (vi 0) .n)) ?_
  refine q3 ?_
  have h:=si h
  subst h
  exact DoneS.ret Sees.refl rfl rfl
 intro k1 h
 refine sk (.k2 (.i 7 (vi 0) .n)) ?_
 refine q4 ?_
 refine ts (.k2 (.i 7 (vi 0) .n)) ?_
 refine TriE.loopN h (fun (v4 : Nat)=>St.mk [(1,eS 7 eItem a1),(2,.ptr 0 0 0),(7,vi v4)] [some (.row 6 [.agg [eS 1 vt a0.Places,eS 1 vt a0.Technicians,eS 4 eRoad a0.Roads,eS 3 eGrand a0.Grands,vi a0.Change,vi a0.Lasts]])]) rfl ?_
 clear h
 rintro back v4 h
 dsimp only [agrafferef09_Accept_L1] at h
 refine q1 ?_
 refine sj ?_
 refine rk 2 (.k3 (.i 18 (vi v4) (.i 19 (eS 7 eItem a1) .n))) ?_
 refine jo 20 (.len 0 19) (ok_len_m rfl) ?_
 refine jo 21 (.bin .lss false 18 20) (n_lss (i:=v4) (j:=a1.length) rfl rfl) ?_
 refine jf (.d2 (.k3 (.i 21 (vb (decide (v4 < a1.length))) .n))) ?_
 refine tc h (fun c3 h=>?_) (fun c3 h=>?_)
 ·refine q2 ?_
  refine q7 ?_
  refine q1 ?_
  refine q1 ?_
  refine ts (.k3 .n) ?_
  refine TriE.draw (by kernel_rfl) ?_
  refine dk 3 (.i 26 (vi v4) (.i 25 (eS 7 eItem a1) (.i 24 (.agg [eS 1 vt a0.Places,eS 1 vt a0.Technicians,eS 4 eRoad a0.Roads,eS 3 eGrand a0.Grands,vi a0.Change,vi a0.Lasts]) .a))) ?_
  refine dp 27 (.iaddr 7 25 26) (ok_iaddr_m (j:=v4) rfl rfl rfl c3) ?_
  refine dp 28 (.load true 7 27) (ok_load_fm (v:=.agg [vi ((ix a1 v4).Kind),vi ((ix a1 v4).From),vi ((ix a1 v4).To),vt ((ix a1 v4).Grand),vt ((ix a1 v4).Place),vt ((ix a1 v4).Who),vi ((ix a1 v4).Deposit)]) rfl c3 rfl) ?_
  refine bK h fun y5 hy5 h=>?_
  refine dc (vi y5) 0 29 [24,28] (agrafferef09_CheckItem_ok n a0 (ix a1 v4) y5 hy5) [] rfl ObsRen.nil ObsRen.nil rfl (.inr ⟨rfl,rfl⟩) ?_
  refine dk 1 (.i 8 (vi y5) .a) ?_
  refine dfi (ob':=[some (.row 6 [.agg [eS 1 vt a0.Places,eS 1 vt a0.Technicians,eS 4 eRoad a0.Roads,eS 3 eGrand a0.Grands,vi a0.Change,vi a0.Lasts]])]) (.d4 (.d3 (.k3 (.i 8 (vi y5) .n)))) [0] (.cons rfl .nil) ?_
  refine sk (.k4 (.i 31 (vb (y5 != (0 : Int))) .n)) ?_
  refine tc h (fun c4 h=>?_) (fun c4 h=>?_)
  ·refine sk (.i 4 (vi v4) (.i 5 (vi y5) .n)) ?_
   refine q3 ?_
   have h:=si h
   subst h
   exact DoneS.ret (S' := ⟨[(4, vi v4), (5, vi y5)], []⟩) (sc [] (by decide) (by kernel_rfl) ObRen.nil rfl rfl) rfl rfl
  refine q2 ?_
  refine q1 ?_
  refine q1 ?_
  refine ts (.k3 .n) ?_
  refine TriE.draw (by kernel_rfl) ?_
  refine dk 1 (.i 34 (vi v4) .a) ?_
  refine dp 35 (.bin .gtr false 34 (ki 0)) (n_gtr (i:=v4) (j:=0) rfl rfl) ?_
  refine dk 1 (.i 36 (vb (decide (0 < v4))) .a) ?_
  refine gd (decide (0 < v4)) (eS 7 eItem a1) 37 (.mov 1) 36 true rfl (fun hg=>(.cons rfl .nil)) ?_
  refine gd (decide (0 < v4)) (vi v4) 38 (.mov 7) 36 true rfl (fun hg=>(.cons rfl .nil)) ?_
  refine gu (decide (0 < v4)) 39 (.iaddr 7 37 38) 36 true rfl (fun hg=>(ok_iaddr_m (j:=v4) rfl rfl rfl c3)) (fun hg=>(.cons hg (.cons hg .nil))) ?_
  refine gd (decide (0 < v4)) (.fptr 7 (List.map eItem a1) v4 1) 40 (.faddr 1 39) 36 true rfl (fun hg=>(.cons hg .nil)) ?_
  refine gu (decide (0 < v4)) 41 (.load false 1 40) 36 true rfl (fun hg=>(ok_load_fm (v:=vi ((ix a1 v4).From)) rfl c3 rfl)) (fun hg=>(.cons hg .nil)) ?_
  refine gd (decide (0 < v4)) (eS 7 eItem a1) 42 (.mov 1) 36 true rfl (fun hg=>(.cons rfl .nil)) ?_
  refine gd (decide (0 < v4)) (vi v4) 43 (.mov 7) 36 true rfl (fun hg=>(.cons rfl .nil)) ?_
  refine cK h fun c5 h=>?_
  refine gu (decide (0 < v4)) 44 (.bin .sub false 43 (ki 1)) 36 true rfl (fun hg=>(r_sub rfl rfl (gor c5 hg))) (fun hg=>(.cons hg (.cons rfl .nil))) ?_
  refine cK h fun c6 h=>?_
  refine gu (decide (0 < v4)) 45 (.iaddr 7 42 44) 36 true rfl (fun hg=>(ok_iaddr_m (j:=((v4 : Int) - 1).toNat) rfl rfl (inB_to (gor c6 hg)) (inB_lt (gor c6 hg)))) (fun hg=>(.cons hg (.cons hg .nil))) ?_
  refine gd (decide (0 < v4)) (.fptr 7 (List.map eItem a1) (((v4 : Int) - 1).toNat) 1) 46 (.faddr 1 45) 36 true rfl (fun hg=>(.cons hg .nil)) ?_
  refine cK h fun c7 h=>?_
  refine gu (decide (0 < v4)) 47 (.load false 1 46) 36 true rfl (fun hg=>(ok_load_fm (v:=vi ((ix a1 (((v4 : Int) - 1).toNat)).From)) rfl (gor c7 hg) rfl)) (fun hg=>(.cons hg .nil)) ?_
  refine gd (decide (0 < v4)) (vb (decide (((ix a1 v4).From) < ((ix a1 (((v4 : Int) - 1).toNat)).From)))) 48 (.bin .lss false 41 47) 36 true rfl (fun hg=>(.cons hg (.cons hg .nil))) ?_
  refine RegD.op (OpD.and (cy (I0 49 (.pick 36 48 (.c (.p (.bool false)))))) rfl rfl (by first | exact hokA1 | exact hokA0 | simp)) ?_
  refine dfi (ob':=[some (.row 6 [.agg [eS 1 vt a0.Places,eS 1 vt a0.Technicians,eS 4 eRoad a0.Roads,eS 3 eGrand a0.Grands,vi a0.Change,vi a0.Lasts]])]) (.d4 (.d4 (.d4 (.d4 (.k3 (.i 49 (vb ((decide (0 < v4)) && (decide (((ix a1 v4).From) < ((ix a1 (((v4 : Int) - 1).toNat)).From))))) .n)))))) [0] (.cons rfl .nil) ?_
  refine tc h (fun c8 h=>?_) (fun c8 h=>?_)
  ·refine sk (.i 4 (vi v4) (.i 5 (vi 9) .n)) ?_
   refine q3 ?_
   have h:=si h
   subst h
   exact DoneS.ret (S' := ⟨[(4, vi v4), (5, vi 9)], []⟩) (sc [] (by decide) (by kernel_rfl) ObRen.nil rfl rfl) rfl rfl
  refine q2 ?_
  refine q1 ?_
  refine ts (.k3 .n) ?_
  refine TriE.draw (by kernel_rfl) ?_
  refine dk 3 (.i 53 (vi v4) (.i 52 (eS 7 eItem a1) (.i 51 (.agg [eS 1 vt a0.Places,eS 1 vt a0.Technicians,eS 4 eRoad a0.Roads,eS 3 eGrand a0.Grands,vi a0.Change,vi a0.Lasts]) .a))) ?_
  refine cK h fun c9 h=>?_
  refine dp 54 (.slc 7 52 none (some 53) none) (ok_slc_hi (j:=v4) rfl rfl rfl c9) ?_
  refine dk 2 (.i 56 (vi v4) (.i 55 (eS 7 eItem a1) .a)) ?_
  refine dp 57 (.iaddr 7 55 56) (ok_iaddr_m (j:=v4) rfl rfl rfl c3) ?_
  refine dp 58 (.load true 7 57) (ok_load_fm (v:=.agg [vi ((ix a1 v4).Kind),vi ((ix a1 v4).From),vi ((ix a1 v4).To),vt ((ix a1 v4).Grand),vt ((ix a1 v4).Place),vt ((ix a1 v4).Who),vi ((ix a1 v4).Deposit)]) rfl c3 rfl) ?_
  refine bK h fun y6 hy6 h=>?_
  refine dc (vi y6) 0 59 [51,54,58] (agrafferef09_breaks_ok n a0 (List.take v4 a1) (ix a1 v4) y6 hy6) [] rfl ObsRen.nil ObsRen.nil rfl (.inr ⟨rfl,rfl⟩) ?_
  refine dk 1 (.i 9 (vi y6) .a) ?_
  refine dfi (ob':=[some (.row 6 [.agg [eS 1 vt a0.Places,eS 1 vt a0.Technicians,eS 4 eRoad a0.Roads,eS 3 eGrand a0.Grands,vi a0.Change,vi a0.Lasts]])]) (.d4 (.d4 (.d2 (.k3 (.i 9 (vi y6) .n))))) [0] (.cons rfl .nil) ?_
  refine sk (.k4 (.i 61 (vb (y6 != (0 : Int))) .n)) ?_
  refine tc h (fun c10 h=>?_) (fun c10 h=>?_)
  ·refine sk (.i 4 (vi v4) (.i 5 (vi y6) .n)) ?_
   refine q3 ?_
   have h:=si h
   subst h
   exact DoneS.ret (S' := ⟨[(4, vi v4), (5, vi y6)], []⟩) (sc [] (by decide) (by kernel_rfl) ObRen.nil rfl rfl) rfl rfl
  refine q2 ?_
  refine q6 ?_
  refine rk 1 (.k2 (.i 22 (vi v4) .n)) ?_
  refine cK h fun c11 h=>?_
  refine jo 23 (.bin .add false 22 (ki 1)) (r_addn (i:=v4) (j:=1) rfl rfl c11) ?_
  refine jk 1 (.d (.k2 (.i 7 (vi ((v4 + 1 : Nat) : Int)) .n))) ?_
  exact Vs.intro sy ⟨(v4 + 1), rfl, h⟩
 refine q5 ?_
 exact Vs.intro (sc [] (by decide) (by kernel_rfl) ObRen.nil rfl rfl) ⟨(), rfl, h⟩
theorem agraffelaw09_items_2_ok (n : Nat) (a0 : List Item) (r : Unit) (h : agraffelaw09_items_2 n a0 = some r) : FnL Tryz.prog 15 [eS 7 eItem a0] [] (eS 7 eItem a0) [] := by
 dsimp only [agraffelaw09_items_2] at h
 refine fo [2] Tryz.call15 Tryz.func15 rfl ?_
 refine sk .a ?_
 refine sj ?_
 refine rk 2 (.i 3 .emp (.i 4 (eS 7 eItem a0) .n)) ?_
 refine cK h fun c1 h=>?_
 refine jx 5 (.app 7 80 3 4) _ (ok_app_emp (e:=eItem) (l:=a0) (u:=eS 7 eItem a0) rfl rfl els_sl c1) rfl rfl ?_
 refine jk 1 (.i 2 (.own 0 0 a0.length) .n) ?_
 refine q3 ?_
 have h:=si h
 subst h
 exact DoneS.ret (S' := ⟨[(2, eS 7 eItem a0)], []⟩) (Sees.trans (Sees.freeze 0 (fr' := [(2, eS 7 eItem a0)]) (ob' := [none]) rfl (frz_row eItem_frzE _) (.cons (frz_full rfl) .nil) rfl) (sc [] (by decide) (by kernel_rfl) ObRen.nil rfl rfl)) rfl rfl
set_option maxHeartbeats 1000000 in
theorem agrafferef09_With_ok (n : Nat) (a0 : List Item) (a1 : Item) (r : (List Item)) (h : agrafferef09_With n a0 a1 = some r) : FnL Tryz.prog 65 [eS 7 eItem a0, .agg [vi a1.Kind, vi a1.From, vi a1.To, vt a1.Grand, vt a1.Place, vt a1.Who, vi a1.Deposit]] [] (eS 7 eItem r) [] := by
 dsimp only [agrafferef09_With] at h
 refine fo [4] Tryz.call65 Tryz.func65 rfl ?_
 refine sko (.k (.i 3 (.ptr 0 0 0) .n)) [some (.row 7 [.agg [vi a1.Kind,vi a1.From,vi a1.To,vt a1.Grand,vt a1.Place,vt a1.Who,vi a1.Deposit]])] ?_
 refine sk (.k2 (.i 5 (vi 0) .n)) ?_
 refine TriE.seqK h (fun (v2 : Nat)=>St.mk [(0,eS 7 eItem a0),(3,.ptr 0 0 0),(5,vi v2)] [some (.row 7 [.agg [vi a1.Kind,vi a1.From,vi a1.To,vt a1.Grand,vt a1.Place,vt a1.Who,vi a1.Deposit]])]) ?_ ?_
 ·rintro v2 h
  refine q1 ?_
  refine ts .a ?_
  refine TriE.draw (by kernel_rfl) ?_
  refine dk 3 (.i 24 (vi v2) (.i 23 (eS 7 eItem a0) (.i 22 .emp .a))) ?_
  refine cK h fun c3 h=>?_
  refine dp 25 (.slc 7 23 none (some 24) none) (ok_slc_hi (j:=v2) rfl rfl rfl c3) ?_
  refine cK h fun c4 h=>?_
  refine dx 26 (.app 7 80 22 25) _ (ok_app_emp (e:=eItem) (l:=(List.take v2 a0)) (u:=eS 7 eItem (List.take v2 a0)) rfl rfl els_sl c4) rfl rfl ?_
  refine dko 2 (.i 28 (.own 7 0 1) (.i 27 (.agg [vi a1.Kind,vi a1.From,vi a1.To,vt a1.Grand,vt a1.Place,vt a1.Who,vi a1.Deposit]) .a)) [some (.row 7 [.agg [vi a1.Kind,vi a1.From,vi a1.To,vt a1.Grand,vt a1.Place,vt a1.Who,vi a1.Deposit]]),none,none,none,none,some (.row 7 (List.map eItem (List.take v2 a0))),none,some (.row 7 [.agg [vi a1.Kind,vi a1.From,vi a1.To,vt a1.Grand,vt a1.Place,vt a1.Who,vi a1.Deposit]])] ?_
  refine cK h fun c5 h=>?_
  refine dx 29 (.app 7 80 26 28) _ (ok_app_own (l:=(List.take v2 a0)) (l2:=([a1] : List Item)) (e:=eItem) (u:=.own 7 0 1) rfl rfl rfl rfl rfl c5) rfl rfl ?_
  refine dk 2 (.i 31 (vi v2) (.i 30 (eS 7 eItem a0) .a)) ?_
  refine dp 32 (.slc 7 30 (some 31) none none) (ok_slc_lo (j:=v2) rfl rfl rfl c3) ?_
  refine cK h fun c6 h=>?_
  refine dx 33 (.app 7 80 29 32) _ (ok_app_own (l:=((List.take v2 a0) ++ ([a1] : List Item))) (l2:=(List.drop v2 a0)) (e:=eItem) (u:=eS 7 eItem (List.drop v2 a0)) rfl rfl rfl rfl els_sl c6) rfl rfl ?_
  refine dk 1 (.i 4 (.own 12 0 ((((List.take v2 a0) ++ ([a1] : List Item)) ++ (List.drop v2 a0)).length)) .a) ?_
  refine dfi (.i 4 (.own 0 0 ((((List.take v2 a0) ++ ([a1] : List Item)) ++ (List.drop v2 a0)).length)) .n) [12] (obRen_row eItem_frz rfl .nil) ?_
  refine q3 ?_
  have h:=si h
  subst h
  exact DoneS.ret (S' := ⟨[(4, eS 7 eItem (((List.take v2 a0) ++ ([a1] : List Item)) ++ (List.drop v2 a0)))], []⟩) (Sees.trans (Sees.freeze 0 (fr' := [(4, eS 7 eItem (((List.take v2 a0) ++ ([a1] : List Item)) ++ (List.drop v2 a0)))]) (ob' := [none]) rfl (frz_row eItem_frzE _) (.cons (frz_full rfl) .nil) rfl) (sc [] (by decide) (by kernel_rfl) ObRen.nil rfl rfl)) rfl rfl
 intro k1 h
 refine q4 ?_
 refine ts (.k2 (.i 5 (vi 0) .n)) ?_
 refine TriE.loopN h (fun (v1 : Nat)=>St.mk [(0,eS 7 eItem a0),(3,.ptr 0 0 0),(5,vi v1)] [some (.row 7 [.agg [vi a1.Kind,vi a1.From,vi a1.To,vt a1.Grand,vt a1.Place,vt a1.Who,vi a1.Deposit]])]) rfl ?_
 clear h
 rintro back v1 h
 dsimp only [agrafferef09_With_L1] at h
 refine q1 ?_
 refine q1 ?_
 refine ts .a ?_
 refine TriE.draw (by kernel_rfl) ?_
 refine dk 2 (.i 7 (eS 7 eItem a0) (.i 6 (vi v1) .a)) ?_
 refine dp 8 (.len 0 7) (ok_len_m rfl) ?_
 refine dp 9 (.bin .lss false 6 8) (n_lss (i:=v1) (j:=a0.length) rfl rfl) ?_
 refine dk 1 (.i 10 (vb (decide (v1 < a0.length))) .a) ?_
 refine gd (decide (v1 < a0.length)) (eS 7 eItem a0) 11 (.mov 0) 10 true rfl (fun hg=>(.cons rfl .nil)) ?_
 refine gd (decide (v1 < a0.length)) (vi v1) 12 (.mov 5) 10 true rfl (fun hg=>(.cons rfl .nil)) ?_
 refine gu (decide (v1 < a0.length)) 13 (.iaddr 7 11 12) 10 true rfl (fun hg=>(ok_iaddr_m (j:=v1) rfl rfl rfl hg)) (fun hg=>(.cons hg (.cons hg .nil))) ?_
 refine gd (decide (v1 < a0.length)) (.fptr 7 (List.map eItem a0) v1 1) 14 (.faddr 1 13) 10 true rfl (fun hg=>(.cons hg .nil)) ?_
 refine gu (decide (v1 < a0.length)) 15 (.load false 1 14) 10 true rfl (fun hg=>(ok_load_fm (v:=vi ((ix a0 v1).From)) rfl hg rfl)) (fun hg=>(.cons hg .nil)) ?_
 refine gd (decide (v1 < a0.length)) (.ptr 0 0 1) 16 (.faddr 1 3) 10 true rfl (fun hg=>(.cons rfl .nil)) ?_
 refine gd (decide (v1 < a0.length)) (vi a1.From) 17 (.load false 1 16) 10 true rfl (fun hg=>(.cons hg .nil)) ?_
 refine gd (decide (v1 < a0.length)) (vb (decide (((ix a0 v1).From) ≤ a1.From))) 18 (.bin .leq false 15 17) 10 true rfl (fun hg=>(.cons hg (.cons hg .nil))) ?_
 refine RegD.op (OpD.and (cy (I0 19 (.pick 10 18 (.c (.p (.bool false)))))) rfl rfl (by first | exact hokA1 | exact hokA0 | simp)) ?_
 refine dfi (ob':=[some (.row 7 [.agg [vi a1.Kind,vi a1.From,vi a1.To,vt a1.Grand,vt a1.Place,vt a1.Who,vi a1.Deposit]])]) (.d4 (.d4 (.d4 (.d2 (.k3 (.i 19 (vb ((decide (v1 < a0.length)) && (decide (((ix a0 v1).From) ≤ a1.From)))) .n)))))) [0] (.cons rfl .nil) ?_
 refine tc h (fun c1 h=>?_) (fun c1 h=>?_)
 ·refine q2 ?_
  refine q4 ?_
  refine q6 ?_
  refine rk 1 (.k2 (.i 20 (vi v1) .n)) ?_
  refine cK h fun c2 h=>?_
  refine jo 21 (.bin .add false 20 (ki 1)) (r_addn (i:=v1) (j:=1) rfl rfl c2) ?_
  refine jk 1 (.d (.k2 (.i 5 (vi ((v1 + 1 : Nat) : Int)) .n))) ?_
  exact Vs.intro sy ⟨(v1 + 1), rfl, h⟩
 refine q5 ?_
 exact Vs.intro sy ⟨v1, rfl, h⟩
theorem agrafferef09_Add_ok (n : Nat) (a0 : Diary) (a1 : List Item) (a2 : Item) (r : Int × (List Item)) (h : agrafferef09_Add n a0 a1 a2 = some r) : FnL Tryz.prog 23 [.agg [eS 1 vt a0.Places, eS 1 vt a0.Technicians, eS 4 eRoad a0.Roads, eS 3 eGrand a0.Grands, vi a0.Change, vi a0.Lasts], eS 7 eItem a1, .agg [vi a2.Kind, vi a2.From, vi a2.To, vt a2.Grand, vt a2.Place, vt a2.Who, vi a2.Deposit]] [] (.tup [eS 7 eItem r.2, vi r.1]) [] := by
 dsimp only [agrafferef09_Add] at h
 refine fo [6,7] Tryz.call23 Tryz.func23 rfl ?_
 refine sko (.d (.k (.i 3 (.ptr 0 0 0) (.i 5 (.ptr 1 0 0) .n)))) [some (.row 6 [.agg [eS 1 vt a0.Places,eS 1 vt a0.Technicians,eS 4 eRoad a0.Roads,eS 3 eGrand a0.Grands,vi a0.Change,vi a0.Lasts]]),some (.row 7 [.agg [vi a2.Kind,vi a2.From,vi a2.To,vt a2.Grand,vt a2.Place,vt a2.Who,vi a2.Deposit]])] ?_
 refine q1 ?_
 refine sj ?_
 refine rk 2 (.k3 (.i 14 (.agg [eS 1 vt a0.Places,eS 1 vt a0.Technicians,eS 4 eRoad a0.Roads,eS 3 eGrand a0.Grands,vi a0.Change,vi a0.Lasts]) (.i 15 (eS 7 eItem a1) .n))) ?_
 refine bK h fun y1 hy1 h=>?_
 refine jc 16 [14,15] (agrafferef09_Accept_ok n a0 a1 y1 hy1) ?_
 refine jk 5 (.d (.k3 (.i 9 (vi y1.1) .n))) ?_
 refine sk (.k4 (.i 20 (vb (y1.1 != (0 : Int))) .n)) ?_
 refine tc h (fun c1 h=>?_) (fun c1 h=>?_)
 ·refine sk (.i 6 .emp (.i 7 (vi y1.1) .n)) ?_
  refine q3 ?_
  have h:=si h
  subst h
  exact DoneS.ret (S' := ⟨[(6, eS 7 eItem ([] : List Item)), (7, vi y1.1)], []⟩) (Sees.trans (Sees.vco (fr' := [(6, eS 7 eItem ([] : List Item)), (7, vi y1.1)]) (.cons .sl (.cons .same .nil))) (sc [] (by decide) (by kernel_rfl) ObRen.nil rfl rfl)) rfl rfl
 refine q2 ?_
 refine q1 ?_
 refine sj ?_
 refine rk 1 (.k3 (.i 22 (eS 7 eItem a1) .n)) ?_
 refine jo 23 (.len 0 22) (ok_len_m rfl) ?_
 refine jo 24 (.bin .geq false 23 (ki 100)) (n_geq (i:=a1.length) (j:=100) rfl rfl) ?_
 refine jf (.d2 (.k3 (.i 24 (vb (decide (100 ≤ a1.length))) .n))) ?_
 refine tc h (fun c2 h=>?_) (fun c2 h=>?_)
 ·refine sk (.i 6 .emp (.i 7 (vi 8) .n)) ?_
  refine q3 ?_
  have h:=si h
  subst h
  exact DoneS.ret (S' := ⟨[(6, eS 7 eItem ([] : List Item)), (7, vi 8)], []⟩) (Sees.trans (Sees.vco (fr' := [(6, eS 7 eItem ([] : List Item)), (7, vi 8)]) (.cons .sl (.cons .same .nil))) (sc [] (by decide) (by kernel_rfl) ObRen.nil rfl rfl)) rfl rfl
 refine q2 ?_
 refine sj ?_
 refine rk 2 (.d (.k (.i 25 (eS 7 eItem a1) (.i 26 (.agg [vi a2.Kind,vi a2.From,vi a2.To,vt a2.Grand,vt a2.Place,vt a2.Who,vi a2.Deposit]) .n)))) ?_
 refine bK h fun y2 hy2 h=>?_
 refine jc 27 [25,26] (agrafferef09_With_ok n a1 a2 y2 hy2) ?_
 refine jk 1 (.d (.k (.i 10 (eS 7 eItem y2) .n))) ?_
 refine q1 ?_
 refine sj ?_
 refine rk 2 (.d (.k (.i 29 (.agg [eS 1 vt a0.Places,eS 1 vt a0.Technicians,eS 4 eRoad a0.Roads,eS 3 eGrand a0.Grands,vi a0.Change,vi a0.Lasts]) (.i 30 (eS 7 eItem y2) .n)))) ?_
 refine bK h fun y3 hy3 h=>?_
 refine jc 31 [29,30] (agrafferef09_Accept_ok n a0 y2 y3 hy3) ?_
 refine jk 5 (.d (.k (.i 12 (vi y3.1) .n))) ?_
 refine sk (.k2 (.i 35 (vb (y3.1 != (0 : Int))) .n)) ?_
 refine tc h (fun c3 h=>?_) (fun c3 h=>?_)
 ·refine sk (.i 6 .emp (.i 7 (vi y3.1) .n)) ?_
  refine q3 ?_
  have h:=si h
  subst h
  exact DoneS.ret (S' := ⟨[(6, eS 7 eItem ([] : List Item)), (7, vi y3.1)], []⟩) (Sees.trans (Sees.vco (fr' := [(6, eS 7 eItem ([] : List Item)), (7, vi y3.1)]) (.cons .sl (.cons .same .nil))) (sc [] (by decide) (by kernel_rfl) ObRen.nil rfl rfl)) rfl rfl
 refine q2 ?_
 refine sk (.i 6 (eS 7 eItem y2) (.i 7 (vi 0) .n)) ?_
 refine q3 ?_
 have h:=si h
 subst h
 exact DoneS.ret (S' := ⟨[(6, eS 7 eItem y2), (7, vi 0)], []⟩) (sc [] (by decide) (by kernel_rfl) ObRen.nil rfl rfl) rfl rfl
set_option maxHeartbeats 1000000 in
theorem agraffelaw09_near_ok (n : Nat) (a0 : Diary) (a1 : List Item) (a2 : Item) (r : Bool) (h : agraffelaw09_near n a0 a1 a2 = some r) : FnL Tryz.prog 18 [.agg [eS 1 vt a0.Places, eS 1 vt a0.Technicians, eS 4 eRoad a0.Roads, eS 3 eGrand a0.Grands, vi a0.Change, vi a0.Lasts], eS 7 eItem a1, .agg [vi a2.Kind, vi a2.From, vi a2.To, vt a2.Grand, vt a2.Place, vt a2.Who, vi a2.Deposit]] [] (vb r) [] := by
 dsimp only [agraffelaw09_near] at h
 refine fo [6] Tryz.call18 Tryz.func18 rfl ?_
 refine sko (.d (.k (.i 3 (.ptr 0 0 0) (.i 5 (.ptr 1 0 0) .n)))) [some (.row 6 [.agg [eS 1 vt a0.Places,eS 1 vt a0.Technicians,eS 4 eRoad a0.Roads,eS 3 eGrand a0.Grands,vi a0.Change,vi a0.Lasts]]),some (.row 7 [.agg [vi a2.Kind,vi a2.From,vi a2.To,vt a2.Grand,vt a2.Place,vt a2.Who,vi a2.Deposit]])] ?_
 refine TriE.seqK h (fun (_ : Unit)=>St.mk [(1,eS 7 eItem a1),(3,.ptr 0 0 0),(5,.ptr 1 0 0)] [some (.row 6 [.agg [eS 1 vt a0.Places,eS 1 vt a0.Technicians,eS 4 eRoad a0.Roads,eS 3 eGrand a0.Grands,vi a0.Change,vi a0.Lasts]]),some (.row 7 [.agg [vi a2.Kind,vi a2.From,vi a2.To,vt a2.Grand,vt a2.Place,vt a2.Who,vi a2.Deposit]])]) ?_ ?_
 ·rintro ⟨⟩ h
  refine TriE.seqK h (fun (_ : Unit)=>St.mk [(3,.ptr 0 0 0),(5,.ptr 1 0 0)] [some (.row 6 [.agg [eS 1 vt a0.Places,eS 1 vt a0.Technicians,eS 4 eRoad a0.Roads,eS 3 eGrand a0.Grands,vi a0.Change,vi a0.Lasts]]),some (.row 7 [.agg [vi a2.Kind,vi a2.From,vi a2.To,vt a2.Grand,vt a2.Place,vt a2.Who,vi a2.Deposit]])]) ?_ ?_
  ·rintro ⟨⟩ h
   refine sj ?_
   refine rk 4 (.d (.k (.i 38 (vb (decide (a0.Change ≤ (30 : Int)))) .n))) ?_
   refine gj (.ptr 1 0 2) 39 (.faddr 2 5) 38 true rfl ?_
   refine gk (vi a2.To) 40 (.load false 1 39) 38 true rfl (fun hg=>(.cons hg .nil)) ?_
   refine gk (vb (decide (a2.To ≤ (200 : Int)))) 41 (.bin .leq false 40 (ki 200)) 38 true rfl (fun hg=>(.cons hg (.cons rfl .nil))) ?_
   refine pa 42 38 41 rfl rfl ?_
   refine jk 1 (.i 6 (vb ((decide (a0.Change ≤ (30 : Int))) && (decide (a2.To ≤ (200 : Int))))) .n) ?_
   refine q3 ?_
   have h:=si h
   subst h
   exact DoneS.ret (S' := ⟨[(6, vb ((decide (a0.Change ≤ (30 : Int))) && (decide (a2.To ≤ (200 : Int)))))], []⟩) (sc [] (by decide) (by kernel_rfl) ObRen.nil rfl rfl) rfl rfl
  intro k2 h
  refine sk (.k3 (.i 8 (vi 0) .n)) ?_
  refine q4 ?_
  refine ts (.k3 (.i 8 (vi 0) .n)) ?_
  refine TriE.loopN h (fun (v2 : Nat)=>St.mk [(1,eS 7 eItem a1),(3,.ptr 0 0 0),(5,.ptr 1 0 0),(8,vi v2)] [some (.row 6 [.agg [eS 1 vt a0.Places,eS 1 vt a0.Technicians,eS 4 eRoad a0.Roads,eS 3 eGrand a0.Grands,vi a0.Change,vi a0.Lasts]]),some (.row 7 [.agg [vi a2.Kind,vi a2.From,vi a2.To,vt a2.Grand,vt a2.Place,vt a2.Who,vi a2.Deposit]])]) rfl ?_
  clear h
  rintro back v2 h
  dsimp only [agraffelaw09_near_L2] at h
  refine q1 ?_
  refine sj ?_
  refine rk 2 (.k4 (.i 23 (vi v2) (.i 24 (eS 7 eItem a1) .n))) ?_
  refine jo 25 (.len 0 24) (ok_len_m rfl) ?_
  refine jo 26 (.bin .lss false 23 25) (n_lss (i:=v2) (j:=a1.length) rfl rfl) ?_
  refine jf (.d2 (.k4 (.i 26 (vb (decide (v2 < a1.length))) .n))) ?_
  refine tc h (fun c4 h=>?_) (fun c4 h=>?_)
  ·refine q2 ?_
   refine q7 ?_
   refine sj ?_
   refine rk 2 (.k4 (.i 29 (eS 7 eItem a1) (.i 30 (vi v2) .n))) ?_
   refine jo 31 (.iaddr 7 29 30) (ok_iaddr_m (j:=v2) rfl rfl rfl c4) ?_
   refine rk 1 (.d (.k4 (.i 32 (.fptr 7 (List.map eItem a1) v2 2) .n))) ?_
   refine jo 33 (.load false 1 32) (ok_load_fm (v:=vi ((ix a1 v2).To)) rfl c4 rfl) ?_
   refine jk 1 (.d (.k4 (.i 34 (vb (decide ((200 : Int) < ((ix a1 v2).To)))) .n))) ?_
   refine tc h (fun c5 h=>?_) (fun c5 h=>?_)
   ·refine sk (.i 6 (vb false) .n) ?_
    refine q3 ?_
    have h:=si h
    subst h
    exact DoneS.ret (S' := ⟨[(6, vb false)], []⟩) (sc [] (by decide) (by kernel_rfl) ObRen.nil rfl rfl) rfl rfl
   refine q2 ?_
   refine q6 ?_
   refine rk 1 (.k3 (.i 27 (vi v2) .n)) ?_
   refine cK h fun c6 h=>?_
   refine jo 28 (.bin .add false 27 (ki 1)) (r_addn (i:=v2) (j:=1) rfl rfl c6) ?_
   refine jk 1 (.d (.k3 (.i 8 (vi ((v2 + 1 : Nat) : Int)) .n))) ?_
   exact Vs.intro sy ⟨(v2 + 1), rfl, h⟩
  refine q5 ?_
  exact Vs.intro sy ⟨(), rfl, h⟩
 intro k1 h
 refine sk (.k3 (.i 7 (vi 0) .n)) ?_
 refine q4 ?_
 refine ts (.k3 (.i 7 (vi 0) .n)) ?_
 refine TriE.loopN h (fun (v1 : Nat)=>St.mk [(1,eS 7 eItem a1),(3,.ptr 0 0 0),(5,.ptr 1 0 0),(7,vi v1)] [some (.row 6 [.agg [eS 1 vt a0.Places,eS 1 vt a0.Technicians,eS 4 eRoad a0.Roads,eS 3 eGrand a0.Grands,vi a0.Change,vi a0.Lasts]]),some (.row 7 [.agg [vi a2.Kind,vi a2.From,vi a2.To,vt a2.Grand,vt a2.Place,vt a2.Who,vi a2.Deposit]])]) rfl ?_
 clear h
 rintro back v1 h
 dsimp only [agraffelaw09_near_L1] at h
 refine q1 ?_
 refine sj ?_
 refine rk 3 (.k4 (.i 9 (vi v1) (.i 11 (eS 4 eRoad a0.Roads) .n))) ?_
 refine jo 12 (.len 0 11) (ok_len_m rfl) ?_
 refine jo 13 (.bin .lss false 9 12) (n_lss (i:=v1) (j:=a0.Roads.length) rfl rfl) ?_
 refine jf (.d2 (.k4 (.i 13 (vb (decide (v1 < a0.Roads.length))) .n))) ?_
 refine tc h (fun c1 h=>?_) (fun c1 h=>?_)
 ·refine q2 ?_
  refine q7 ?_
  refine sj ?_
  refine rk 3 (.k4 (.i 17 (eS 4 eRoad a0.Roads) (.i 18 (vi v1) .n))) ?_
  refine jo 19 (.iaddr 4 17 18) (ok_iaddr_m (j:=v1) rfl rfl rfl c1) ?_
  refine rk 1 (.d (.k4 (.i 20 (.fptr 4 (List.map eRoad a0.Roads) v1 2) .n))) ?_
  refine jo 21 (.load false 1 20) (ok_load_fm (v:=vi ((ix a0.Roads v1).Minutes)) rfl c1 rfl) ?_
  refine jk 1 (.d (.k4 (.i 22 (vb (decide ((30 : Int) < ((ix a0.Roads v1).Minutes)))) .n))) ?_
  refine tc h (fun c2 h=>?_) (fun c2 h=>?_)
  ·refine sk (.i 6 (vb false) .n) ?_
   refine q3 ?_
   have h:=si h
   subst h
   exact DoneS.ret (S' := ⟨[(6, vb false)], []⟩) (sc [] (by decide) (by kernel_rfl) ObRen.nil rfl rfl) rfl rfl
  refine q2 ?_
  refine q6 ?_
  refine rk 1 (.k3 (.i 14 (vi v1) .n)) ?_
  refine cK h fun c3 h=>?_
  refine jo 15 (.bin .add false 14 (ki 1)) (r_addn (i:=v1) (j:=1) rfl rfl c3) ?_
  refine jk 1 (.d (.k3 (.i 7 (vi ((v1 + 1 : Nat) : Int)) .n))) ?_
  exact Vs.intro sy ⟨(v1 + 1), rfl, h⟩
 refine q5 ?_
 exact Vs.intro sy ⟨(), rfl, h⟩
set_option maxHeartbeats 1000000 in
theorem agrafferef09_Horizon_ok (n : Nat) (a0 : Diary) (a1 : List Item) (r : Int) (h : agrafferef09_Horizon n a0 a1 = some r) : FnL Tryz.prog 64 [.agg [eS 1 vt a0.Places, eS 1 vt a0.Technicians, eS 4 eRoad a0.Roads, eS 3 eGrand a0.Grands, vi a0.Change, vi a0.Lasts], eS 7 eItem a1] [] (vi r) [] := by
 dsimp only [agrafferef09_Horizon] at h
 refine fo [4] Tryz.call64 Tryz.func64 rfl ?_
 refine sko (.d (.k (.i 2 (.ptr 0 0 0) .n))) [some (.row 6 [.agg [eS 1 vt a0.Places,eS 1 vt a0.Technicians,eS 4 eRoad a0.Roads,eS 3 eGrand a0.Grands,vi a0.Change,vi a0.Lasts]])] ?_
 refine q1 ?_
 refine ts .a ?_
 refine TriE.draw (by kernel_rfl) ?_
 refine dk 4 (.i 6 (vi a0.Change) (.i 5 (vi 0) (.i 10 (vi a0.Change) (.i 9 (.ptr 0 0 4) .a)))) ?_
 refine dfi (ob':=[some (.row 6 [.agg [eS 1 vt a0.Places,eS 1 vt a0.Technicians,eS 4 eRoad a0.Roads,eS 3 eGrand a0.Grands,vi a0.Change,vi a0.Lasts]])]) (.d4 (.k2 (.i 5 (vi 0) (.i 6 (vi a0.Change) .n)))) [0] (.cons rfl .nil) ?_
 refine TriE.seqK h (fun (v3 : Int)=>St.mk [(2,.ptr 0 0 0),(5,vi v3),(6,vi a0.Change)] [some (.row 6 [.agg [eS 1 vt a0.Places,eS 1 vt a0.Technicians,eS 4 eRoad a0.Roads,eS 3 eGrand a0.Grands,vi a0.Change,vi a0.Lasts]])]) ?_ ?_
 ·rintro v3 h
  refine TriE.seqK h (fun (v6 : Int)=>St.mk [(5,vi v3),(6,vi v6)] []) ?_ ?_
  ·rintro v6 h
   refine sj ?_
   refine rk 2 (.i 39 (vi v3) (.i 40 (vi v6) .n)) ?_
   refine cK h fun c6 h=>?_
   refine jo 41 (.bin .add false 39 40) (r_add rfl rfl c6) ?_
   refine cK h fun c7 h=>?_
   refine jo 42 (.bin .add false 41 (ki 1)) (r_add rfl rfl c7) ?_
   refine jk 1 (.i 4 (vi ((v3 + v6) + 1)) .n) ?_
   refine q3 ?_
   have h:=si h
   subst h
   exact DoneS.ret Sees.refl rfl rfl
  intro k2 h
  refine sk (.k3 (.i 8 (vi 0) .n)) ?_
  refine q4 ?_
  refine ts (.k3 (.i 8 (vi 0) .n)) ?_
  refine TriE.loopN h (fun (t : Int × Nat)=>match t with | (v4,v5)=>St.mk [(2,.ptr 0 0 0),(5,vi v3),(6,vi v4),(8,vi v5)] [some (.row 6 [.agg [eS 1 vt a0.Places,eS 1 vt a0.Technicians,eS 4 eRoad a0.Roads,eS 3 eGrand a0.Grands,vi a0.Change,vi a0.Lasts]])]) rfl ?_
  clear h
  rintro back ⟨v4,v5⟩ h
  dsimp only [agrafferef09_Horizon_L2] at h
  refine q1 ?_
  refine sj ?_
  refine rk 3 (.k4 (.i 24 (vi v5) (.i 26 (eS 4 eRoad a0.Roads) .n))) ?_
  refine jo 27 (.len 0 26) (ok_len_m rfl) ?_
  refine jo 28 (.bin .lss false 24 27) (n_lss (i:=v5) (j:=a0.Roads.length) rfl rfl) ?_
  refine jf (.d2 (.k4 (.i 28 (vb (decide (v5 < a0.Roads.length))) .n))) ?_
  refine tc h (fun c3 h=>?_) (fun c3 h=>?_)
  ·refine q2 ?_
   refine q7 ?_
   refine q6 ?_
   refine rk 4 (.k2 (.d (.k (.i 31 (vi v4) (.i 33 (eS 4 eRoad a0.Roads) (.i 34 (vi v5) .n)))))) ?_
   refine jo 35 (.iaddr 4 33 34) (ok_iaddr_m (j:=v5) rfl rfl rfl c3) ?_
   refine rk 1 (.d (.k4 (.i 36 (.fptr 4 (List.map eRoad a0.Roads) v5 2) .n))) ?_
   refine jo 37 (.load false 1 36) (ok_load_fm (v:=vi ((ix a0.Roads v5).Minutes)) rfl c3 rfl) ?_
   refine cK h fun c4 h=>?_
   refine jo 38 (.bin .add false 31 37) (r_add rfl rfl c4) ?_
   refine jk 1 (.d2 (.k3 (.i 6 (vi (v4 + ((ix a0.Roads v5).Minutes))) .n))) ?_
   refine q6 ?_
   refine rk 1 (.k2 (.d (.k (.i 29 (vi v5) .n)))) ?_
   refine cK h fun c5 h=>?_
   refine jo 30 (.bin .add false 29 (ki 1)) (r_addn (i:=v5) (j:=1) rfl rfl c5) ?_
   refine jk 1 (.d (.k3 (.i 8 (vi ((v5 + 1 : Nat) : Int)) .n))) ?_
   exact Vs.intro sy ⟨(v4 + ((ix a0.Roads v5).Minutes), v5 + 1), rfl, h⟩
  refine q5 ?_
  exact Vs.intro (sc [] (by decide) (by kernel_rfl) ObRen.nil rfl rfl) ⟨v4, rfl, h⟩
 intro k1 h
 refine sk (.k4 (.i 7 (vi 0) .n)) ?_
 refine q4 ?_
 refine ts (.k4 (.i 7 (vi 0) .n)) ?_
 refine TriE.loopN h (fun (t : Int × Nat)=>match t with | (v1,v2)=>St.mk [(1,eS 7 eItem a1),(2,.ptr 0 0 0),(5,vi v1),(6,vi a0.Change),(7,vi v2)] [some (.row 6 [.agg [eS 1 vt a0.Places,eS 1 vt a0.Technicians,eS 4 eRoad a0.Roads,eS 3 eGrand a0.Grands,vi a0.Change,vi a0.Lasts]])]) rfl ?_
 clear h
 rintro back ⟨v1,v2⟩ h
 dsimp only [agrafferef09_Horizon_L1] at h
 refine q1 ?_
 refine sj ?_
 refine rk 2 (.k4 (.k (.i 11 (vi v2) (.i 12 (eS 7 eItem a1) .n)))) ?_
 refine jo 13 (.len 0 12) (ok_len_m rfl) ?_
 refine jo 14 (.bin .lss false 11 13) (n_lss (i:=v2) (j:=a1.length) rfl rfl) ?_
 refine jf (.d2 (.k4 (.k (.i 14 (vb (decide (v2 < a1.length))) .n)))) ?_
 refine tc h (fun c1 h=>?_) (fun c1 h=>?_)
 ·refine q2 ?_
  refine q7 ?_
  refine q6 ?_
  refine rk 3 (.k2 (.d (.k2 (.i 17 (vi v1) (.i 18 (eS 7 eItem a1) (.i 19 (vi v2) .n)))))) ?_
  refine jo 20 (.iaddr 7 18 19) (ok_iaddr_m (j:=v2) rfl rfl rfl c1) ?_
  refine rk 1 (.d (.k4 (.k (.i 21 (.fptr 7 (List.map eItem a1) v2 2) .n)))) ?_
  refine jo 22 (.load false 1 21) (ok_load_fm (v:=vi ((ix a1 v2).To)) rfl c1 rfl) ?_
  refine jk 2 (.d (.k4 (.i 5 (vi (iMax v1 ((ix a1 v2).To))) .n))) ?_
  refine q6 ?_
  refine rk 1 (.k3 (.d (.k (.i 15 (vi v2) .n)))) ?_
  refine cK h fun c2 h=>?_
  refine jo 16 (.bin .add false 15 (ki 1)) (r_addn (i:=v2) (j:=1) rfl rfl c2) ?_
  refine jk 1 (.d (.k4 (.i 7 (vi ((v2 + 1 : Nat) : Int)) .n))) ?_
  exact Vs.intro sy ⟨(iMax v1 ((ix a1 v2).To), v2 + 1), rfl, h⟩
 refine q5 ?_
 exact Vs.intro sy ⟨v1, rfl, h⟩
set_option maxHeartbeats 1000000 in
theorem agrafferef09_FreeFrom_ok (n : Nat) (a0 : Diary) (a1 : List Item) (a2 : Item) (r : Int) (h : agrafferef09_FreeFrom n a0 a1 a2 = some r) : FnL Tryz.prog 21 [.agg [eS 1 vt a0.Places, eS 1 vt a0.Technicians, eS 4 eRoad a0.Roads, eS 3 eGrand a0.Grands, vi a0.Change, vi a0.Lasts], eS 7 eItem a1, .agg [vi a2.Kind, vi a2.From, vi a2.To, vt a2.Grand, vt a2.Place, vt a2.Who, vi a2.Deposit]] [] (vi r) [] := by
 dsimp only [agrafferef09_FreeFrom] at h
 refine fo [6] Tryz.call21 Tryz.func21 rfl ?_
 refine sko (.d (.k (.i 3 (.ptr 0 0 0) (.i 5 (.ptr 1 0 0) .n)))) [some (.row 6 [.agg [eS 1 vt a0.Places,eS 1 vt a0.Technicians,eS 4 eRoad a0.Roads,eS 3 eGrand a0.Grands,vi a0.Change,vi a0.Lasts]]),some (.row 7 [.agg [vi a2.Kind,vi a2.From,vi a2.To,vt a2.Grand,vt a2.Place,vt a2.Who,vi a2.Deposit]])] ?_
 refine q1 ?_
 refine ts .a ?_
 refine TriE.draw (by kernel_rfl) ?_
 refine dk 4 (.i 14 (eS 7 eItem a1) (.i 13 (.agg [eS 1 vt a0.Places,eS 1 vt a0.Technicians,eS 4 eRoad a0.Roads,eS 3 eGrand a0.Grands,vi a0.Change,vi a0.Lasts]) (.i 12 (vi a2.From) (.i 11 (.ptr 1 0 1) .a)))) ?_
 refine bK h fun y1 hy1 h=>?_
 refine dc (vi y1) 0 15 [13,14] (agrafferef09_Horizon_ok n a0 a1 y1 hy1) [] rfl ObsRen.nil ObsRen.nil rfl (.inr ⟨rfl,rfl⟩) ?_
 refine dk 2 (.i 7 (vi (iMax a2.From y1)) (.i 16 (vi (iMax a2.From y1)) .a)) ?_
 refine dfi (ob':=[some (.row 6 [.agg [eS 1 vt a0.Places,eS 1 vt a0.Technicians,eS 4 eRoad a0.Roads,eS 3 eGrand a0.Grands,vi a0.Change,vi a0.Lasts]]),some (.row 7 [.agg [vi a2.Kind,vi a2.From,vi a2.To,vt a2.Grand,vt a2.Place,vt a2.Who,vi a2.Deposit]])]) (.d4 (.d3 (.k3 (.i 7 (vi (iMax a2.From y1)) .n)))) [0,1] (.cons rfl (.cons rfl .nil)) ?_
 refine sko (.k2 (.d (.k (.i 8 (.ptr 2 0 0) .n)))) [some (.row 6 [.agg [eS 1 vt a0.Places,eS 1 vt a0.Technicians,eS 4 eRoad a0.Roads,eS 3 eGrand a0.Grands,vi a0.Change,vi a0.Lasts]]),some (.row 7 [.agg [vi a2.Kind,vi a2.From,vi a2.To,vt a2.Grand,vt a2.Place,vt a2.Who,vi a2.Deposit]]),some (.row 7 [.agg [vi a2.Kind,vi a2.From,vi a2.To,vt a2.Grand,vt a2.Place,vt a2.Who,vi a2.Deposit]])] ?_
 refine TriE.seqK h (fun (_ : Unit)=>St.mk [] []) ?_ ?_
 ·rintro ⟨⟩ h
  refine sk (.i 6 (vi (-1)) .n) ?_
  refine q3 ?_
  have h:=si h
  subst h
  exact DoneS.ret Sees.refl rfl rfl
 intro k1 h
 refine q4 ?_
 refine TriE.sees (S':=⟨[(1,eS 7 eItem a1),(3,.ptr 0 0 0),(7,vi (iMax a2.From y1)),(8,.ptr 1 0 0)],[some (.row 6 [.agg [eS 1 vt a0.Places,eS 1 vt a0.Technicians,eS 4 eRoad a0.Roads,eS 3 eGrand a0.Grands,vi a0.Change,vi a0.Lasts]]),some (.row 7 [.agg [vi a2.Kind,vi a2.From,vi a2.To,vt a2.Grand,vt a2.Place,vt a2.Who,vi a2.Deposit]])]⟩) (sc [0,2] (by decide) (by kernel_rfl) (.cons rfl (.cons rfl .nil)) rfl rfl) ?_
 refine TriE.loopN h (fun (t : Int × Int)=>match t with | (v3,v4)=>St.mk [(1,eS 7 eItem a1),(3,.ptr 0 0 0),(7,vi (iMax a2.From y1)),(8,.ptr 1 0 0)] [some (.row 6 [.agg [eS 1 vt a0.Places,eS 1 vt a0.Technicians,eS 4 eRoad a0.Roads,eS 3 eGrand a0.Grands,vi a0.Change,vi a0.Lasts]]),some (.row 7 [.agg [vi a2.Kind,vi v3,vi v4,vt a2.Grand,vt a2.Place,vt a2.Who,vi a2.Deposit]])]) rfl ?_
 clear h
 rintro back ⟨v3,v4⟩ h
 dsimp only [agrafferef09_FreeFrom_L1] at h
 refine q1 ?_
 refine sj ?_
 refine rk 5 (.k4 (.i 22 (vb (decide (v3 ≤ (iMax a2.From y1)))) .n)) ?_
 refine gj (.ptr 1 0 2) 23 (.faddr 2 8) 22 true rfl ?_
 refine gk (vi v4) 24 (.load false 1 23) 22 true rfl (fun hg=>(.cons hg .nil)) ?_
 refine gk (vb (decide (v4 ≤ (1000000 : Int)))) 25 (.bin .leq false 24 (ki 1000000)) 22 true rfl (fun hg=>(.cons hg (.cons rfl .nil))) ?_
 refine pa 26 22 25 rfl rfl ?_
 refine jf (.d4 (.k4 (.i 26 (vb ((decide (v3 ≤ (iMax a2.From y1))) && (decide (v4 ≤ (1000000 : Int))))) .n))) ?_
 refine tc h (fun c1 h=>?_) (fun c1 h=>?_)
 ·refine q2 ?_
  refine q4 ?_
  refine q1 ?_
  refine sj ?_
  refine rk 3 (.k4 (.i 28 (.agg [eS 1 vt a0.Places,eS 1 vt a0.Technicians,eS 4 eRoad a0.Roads,eS 3 eGrand a0.Grands,vi a0.Change,vi a0.Lasts]) (.i 29 (eS 7 eItem a1) (.i 30 (.agg [vi a2.Kind,vi v3,vi v4,vt a2.Grand,vt a2.Place,vt a2.Who,vi a2.Deposit]) .n)))) ?_
  refine bK h fun y5 hy5 h=>?_
  refine jc 31 [28,29,30] (agrafferef09_Add_ok n a0 a1 (Item.mk a2.Kind v3 v4 a2.Grand a2.Place a2.Who a2.Deposit) y5 hy5) ?_
  refine jk 5 (.d (.k4 (.i 10 (vi y5.1) .n))) ?_
  refine sk (.k4 (.i 35 (vb (y5.1 == (0 : Int))) .n)) ?_
  refine tc h (fun c2 h=>?_) (fun c2 h=>?_)
  ·refine sk (.i 6 (vi v3) .n) ?_
   refine q3 ?_
   have h:=si h
   subst h
   exact DoneS.ret (S' := ⟨[(6, vi v3)], []⟩) (sc [] (by decide) (by kernel_rfl) ObRen.nil rfl rfl) rfl rfl
  refine q2 ?_
  refine q6 ?_
  refine rk 2 (.k4 (.i 39 (vi v3) .n)) ?_
  refine cK h fun c3 h=>?_
  refine jo 40 (.bin .add false 39 (ki 1)) (r_add rfl rfl c3) ?_
  refine rk 2 (.d (.k4 (.i 40 (vi (v3 + 1)) (.i 42 (vi v4) .n)))) ?_
  refine cK h fun c4 h=>?_
  refine jo 43 (.bin .add false 42 (ki 1)) (r_add rfl rfl c4) ?_
  refine jko 4 (.d (.k4 .n)) [some (.row 6 [.agg [eS 1 vt a0.Places,eS 1 vt a0.Technicians,eS 4 eRoad a0.Roads,eS 3 eGrand a0.Grands,vi a0.Change,vi a0.Lasts]]),some (.row 7 [.agg [vi a2.Kind,vi (v3 + 1),vi (v4 + 1),vt a2.Grand,vt a2.Place,vt a2.Who,vi a2.Deposit]])] ?_
  exact Vs.intro Sees.refl ⟨(v3 + 1, v4 + 1), rfl, h⟩
 refine q5 ?_
 exact Vs.intro (sc [] (by decide) (by kernel_rfl) ObRen.nil rfl rfl) ⟨(), rfl, h⟩
set_option maxHeartbeats 1000000 in
theorem agraffelaw09_DiaryFrees_ok (n : Nat) (a0 : Diary) (a1 : List Item) (a2 : Item) (r : Bool) (h : agraffelaw09_DiaryFrees n a0 a1 a2 = some r) : FnL Tryz.prog 4 [.agg [eS 1 vt a0.Places, eS 1 vt a0.Technicians, eS 4 eRoad a0.Roads, eS 3 eGrand a0.Grands, vi a0.Change, vi a0.Lasts], eS 7 eItem a1, .agg [vi a2.Kind, vi a2.From, vi a2.To, vt a2.Grand, vt a2.Place, vt a2.Who, vi a2.Deposit]] [] (vb r) [] := by
 dsimp only [agraffelaw09_DiaryFrees] at h
 refine fo [6] Tryz.call4 Tryz.func4 rfl ?_
 refine sko (.d (.k (.i 3 (.ptr 0 0 0) (.i 5 (.ptr 1 0 0) .n)))) [some (.row 6 [.agg [eS 1 vt a0.Places,eS 1 vt a0.Technicians,eS 4 eRoad a0.Roads,eS 3 eGrand a0.Grands,vi a0.Change,vi a0.Lasts]]),some (.row 7 [.agg [vi a2.Kind,vi a2.From,vi a2.To,vt a2.Grand,vt a2.Place,vt a2.Who,vi a2.Deposit]])] ?_
 refine q1 ?_
 refine sj ?_
 refine bK h fun y1 hy1 h=>?_
 refine jc 12 [] (agraffelaw09_awake_ok n y1 hy1) ?_
 refine jk 1 (.d (.k3 (.i 13 (vb (!y1)) .n))) ?_
 refine tc h (fun c1 h=>?_) (fun c1 h=>?_)
 ·refine sk (.i 6 (vb false) .n) ?_
  refine q3 ?_
  have h:=si h
  subst h
  exact DoneS.ret (S' := ⟨[(6, vb false)], []⟩) (sc [] (by decide) (by kernel_rfl) ObRen.nil rfl rfl) rfl rfl
 refine q2 ?_
 refine q1 ?_
 refine sj ?_
 refine rk 1 (.k3 (.i 14 (.agg [eS 1 vt a0.Places,eS 1 vt a0.Technicians,eS 4 eRoad a0.Roads,eS 3 eGrand a0.Grands,vi a0.Change,vi a0.Lasts]) .n)) ?_
 refine bK h fun y2 hy2 h=>?_
 refine jc 15 [14] (agraffelaw09_Light_ok n a0 y2 hy2) ?_
 refine rk 2 (.d (.k3 (.i 17 (vb (!y2)) .n))) ?_
 refine gj (eS 7 eItem a1) 18 (.mov 1) 17 false rfl ?_
 refine bK h fun y3 hy3 h=>?_
 refine gc 19 [18] 17 false rfl (fun hg=>agraffelaw09_Few_ok n a1 y3 (gcall_some hy3 hg)) (fun hg=>(.cons rfl (.cons hg .nil))) (fun hg=>by kernel_rfl) ?_
 refine gk (vb (!y3)) 20 (.un .not 19) 17 false rfl (fun hg=>(.cons hg .nil)) ?_
 refine po 21 17 20 rfl rfl ?_
 refine rk 1 (.d4 (.k3 (.i 22 (vb ((!y2) || (!y3))) .n))) ?_
 refine gj (eS 7 eItem a1) 23 (.mov 1) 22 false rfl ?_
 refine gv 24 (.len 0 23) 22 false rfl (fun hg=>(ok_len_m rfl)) (fun hg=>(.cons hg .nil)) ?_
 refine gv 25 (.bin .gtr false 24 (ki 6)) 22 false rfl (fun hg=>(n_gtr (i:=a1.length) (j:=6) rfl rfl)) (fun hg=>(.cons hg (.cons rfl .nil))) ?_
 refine gk (vb (decide (6 < a1.length))) 26 (.mov 25) 22 false rfl (fun hg=>(.cons hg .nil)) ?_
 refine gj (eS 7 eItem a1) 27 (.mov 1) 26 true rfl ?_
 refine gv 28 (.len 0 27) 26 true rfl (fun hg=>(ok_len_m rfl)) (fun hg=>(.cons hg .nil)) ?_
 refine gv 29 (.bin .leq false 28 (ki 100)) 26 true rfl (fun hg=>(n_leq (i:=a1.length) (j:=100) rfl rfl)) (fun hg=>(.cons hg (.cons rfl .nil))) ?_
 refine RegJ.op (Op1.andg (g:=!((!y2) || (!y3))) (cy (IG 30 (.pick 26 29 (.c (.p (.bool false)))) 22 false)) rfl rfl rfl (fun hg=>by first | exact hokA2 hg | exact hokA3 hg | exact hokA1 | exact hokA0 | (rw [hg]; simp) | simp_all)) ?_
 refine po 31 22 30 rfl rfl ?_
 refine rk 1 (.d4 (.d4 (.d (.k3 (.i 32 (vb (((!y2) || (!y3)) || ((decide (6 < a1.length)) && (decide (a1.length ≤ 100))))) .n))))) ?_
 refine gj (.agg [vi a2.Kind,vi a2.From,vi a2.To,vt a2.Grand,vt a2.Place,vt a2.Who,vi a2.Deposit]) 33 (.load true 7 5) 32 false rfl ?_
 refine bK h fun y4 hy4 h=>?_
 refine gc 34 [33] 32 false rfl (fun hg=>agraffelaw09_slim_ok n a2 y4 (gcall_some hy4 hg)) (fun hg=>(.cons rfl (.cons hg .nil))) (fun hg=>by kernel_rfl) ?_
 refine gk (vb (!(((decide (a2.Grand.length ≤ 30)) && (decide (a2.Place.length ≤ 30))) && (decide (a2.Who.length ≤ 30))))) 35 (.un .not 34) 32 false rfl (fun hg=>(.cons hg .nil)) ?_
 refine po 36 32 35 rfl rfl ?_
 refine rk 1 (.d4 (.k3 (.i 37 (vb ((((!y2) || (!y3)) || ((decide (6 < a1.length)) && (decide (a1.length ≤ 100)))) || (!(((decide (a2.Grand.length ≤ 30)) && (decide (a2.Place.length ≤ 30))) && (decide (a2.Who.length ≤ 30)))))) .n))) ?_
 refine gj (.agg [eS 1 vt a0.Places,eS 1 vt a0.Technicians,eS 4 eRoad a0.Roads,eS 3 eGrand a0.Grands,vi a0.Change,vi a0.Lasts]) 38 (.load true 6 3) 37 false rfl ?_
 refine gj (eS 7 eItem a1) 39 (.mov 1) 37 false rfl ?_
 refine gj (.agg [vi a2.Kind,vi a2.From,vi a2.To,vt a2.Grand,vt a2.Place,vt a2.Who,vi a2.Deposit]) 40 (.load true 7 5) 37 false rfl ?_
 refine bK h fun y5 hy5 h=>?_
 refine gc 41 [38,39,40] 37 false rfl (fun hg=>agraffelaw09_near_ok n a0 a1 a2 y5 (gcall_some hy5 hg)) (fun hg=>(.cons rfl (.cons hg (.cons hg (.cons hg .nil))))) (fun hg=>by kernel_rfl) ?_
 refine gk (vb (!y5)) 42 (.un .not 41) 37 false rfl (fun hg=>(.cons hg .nil)) ?_
 refine po 43 37 42 rfl rfl ?_
 refine jf (.d4 (.d2 (.k3 (.i 43 (vb (((((!y2) || (!y3)) || ((decide (6 < a1.length)) && (decide (a1.length ≤ 100)))) || (!(((decide (a2.Grand.length ≤ 30)) && (decide (a2.Place.length ≤ 30))) && (decide (a2.Who.length ≤ 30))))) || (!y5))) .n)))) ?_
 refine tc h (fun c2 h=>?_) (fun c2 h=>?_)
 ·refine sk (.i 6 (vb true) .n) ?_
  refine q3 ?_
  have h:=si h
  subst h
  exact DoneS.ret (S' := ⟨[(6, vb true)], []⟩) (sc [] (by decide) (by kernel_rfl) ObRen.nil rfl rfl) rfl rfl
 refine q2 ?_
 refine q1 ?_
 refine ts (.k3 .n) ?_
 refine TriE.draw (by kernel_rfl) ?_
 refine dk 1 (.i 45 (.agg [eS 1 vt a0.Places,eS 1 vt a0.Technicians,eS 4 eRoad a0.Roads,eS 3 eGrand a0.Grands,vi a0.Change,vi a0.Lasts]) .a) ?_
 refine bK h fun y6 hy6 h=>?_
 refine dc (.agg [eS 1 vt a0.Places,eS 1 vt a0.Technicians,eS 4 eRoad a0.Roads,eS 3 eGrand a0.Grands,vi a0.Change,vi a0.Lasts]) 0 46 [45] (agraffelaw09_town_ok n a0 y6 hy6) [] rfl ObsRen.nil ObsRen.nil rfl (.inr ⟨rfl,rfl⟩) ?_
 refine dk 1 (.i 47 (eS 7 eItem a1) .a) ?_
 refine bK h fun y7 hy7 h=>?_
 refine dc (eS 7 eItem a1) 0 48 [47] (agraffelaw09_items_2_ok n a1 y7 hy7) [] rfl ObsRen.nil ObsRen.nil rfl (.inr ⟨rfl,rfl⟩) ?_
 refine dk 1 (.i 49 (.agg [vi a2.Kind,vi a2.From,vi a2.To,vt a2.Grand,vt a2.Place,vt a2.Who,vi a2.Deposit]) .a) ?_
 refine bK h fun y8 hy8 h=>?_
 refine dc (.tup [vi y8.2,vi y8.1]) 0 50 [46,48,49] (diary_FreeFrom_ok n a0 a1 a2 y8 hy8) [] rfl ObsRen.nil ObsRen.nil rfl (.inr ⟨rfl,rfl⟩) ?_
 refine dk 5 (.i 8 (vi y8.1) (.i 7 (vi y8.2) (.i 52 (vi y8.1) (.i 51 (vi y8.2) (.i 44 (.tup [vi y8.2,vi y8.1]) .a))))) ?_
 refine dfi (ob':=[some (.row 6 [.agg [eS 1 vt a0.Places,eS 1 vt a0.Technicians,eS 4 eRoad a0.Roads,eS 3 eGrand a0.Grands,vi a0.Change,vi a0.Lasts]]),some (.row 7 [.agg [vi a2.Kind,vi a2.From,vi a2.To,vt a2.Grand,vt a2.Place,vt a2.Who,vi a2.Deposit]])]) (.d4 (.d4 (.d3 (.k3 (.i 7 (vi y8.2) (.i 8 (vi y8.1) .n)))))) [0,1] (.cons rfl (.cons rfl .nil)) ?_
 refine sj ?_
 refine rk 2 (.k4 (.k (.i 54 (.agg [eS 1 vt a0.Places,eS 1 vt a0.Technicians,eS 4 eRoad a0.Roads,eS 3 eGrand a0.Grands,vi a0.Change,vi a0.Lasts]) (.i 55 (eS 7 eItem a1) .n)))) ?_
 refine bK h fun y9 hy9 h=>?_
 refine jc 56 [54,55] (agrafferef09_Accept_ok n a0 a1 y9 hy9) ?_
 refine jk 5 (.d (.k4 (.k (.i 10 (vi y9.1) .n)))) ?_
 refine TriE.seqK h (fun (v11 : Int)=>St.mk [(1,eS 7 eItem a1),(3,.ptr 0 0 0),(5,.ptr 1 0 0),(7,vi y8.2),(8,vi y8.1),(10,vi v11)] [some (.row 6 [.agg [eS 1 vt a0.Places,eS 1 vt a0.Technicians,eS 4 eRoad a0.Roads,eS 3 eGrand a0.Grands,vi a0.Change,vi a0.Lasts]]),some (.row 7 [.agg [vi a2.Kind,vi a2.From,vi a2.To,vt a2.Grand,vt a2.Place,vt a2.Who,vi a2.Deposit]])]) ?_ ?_
 ·rintro v11 h
  refine q1 ?_
  refine sk (.k4 (.k2 (.i 65 (vb (v11 != (0 : Int))) .n))) ?_
  refine tc h (fun c4 h=>?_) (fun c4 h=>?_)
  ·refine sj ?_
   refine rk 4 (.d3 (.k (.i 69 (vb (y8.1 == v11)) .n))) ?_
   refine gj (vi y8.2) 70 (.mov 7) 69 true rfl ?_
   refine gk (vb (y8.2 == (0 : Int))) 71 (.bin .eql false 70 (ki 0)) 69 true rfl (fun hg=>(.cons hg (.cons rfl .nil))) ?_
   refine pa 72 69 71 rfl rfl ?_
   refine jk 1 (.i 6 (vb ((y8.1 == v11) && (y8.2 == (0 : Int)))) .n) ?_
   refine q3 ?_
   have h:=si h
   subst h
   exact DoneS.ret (S' := ⟨[(6, vb ((y8.1 == v11) && (y8.2 == (0 : Int))))], []⟩) (sc [] (by decide) (by kernel_rfl) ObRen.nil rfl rfl) rfl rfl
  refine q2 ?_
  refine sj ?_
  refine rk 3 (.d3 (.k2 (.i 73 (.agg [eS 1 vt a0.Places,eS 1 vt a0.Technicians,eS 4 eRoad a0.Roads,eS 3 eGrand a0.Grands,vi a0.Change,vi a0.Lasts]) (.i 74 (eS 7 eItem a1) (.i 75 (.agg [vi a2.Kind,vi a2.From,vi a2.To,vt a2.Grand,vt a2.Place,vt a2.Who,vi a2.Deposit]) .n))))) ?_
  refine bK h fun y12 hy12 h=>?_
  refine jc 76 [73,74,75] (agrafferef09_FreeFrom_ok n a0 a1 a2 y12 hy12) ?_
  refine jk 1 (.d (.k2 (.i 11 (vi y12) .n))) ?_
  refine q1 ?_
  refine sk (.k3 (.i 78 (vb (decide (y12 < (0 : Int)))) .n)) ?_
  refine tc h (fun c5 h=>?_) (fun c5 h=>?_)
  ·refine sj ?_
   refine rk 3 (.k (.i 81 (vb (y8.1 == (12 : Int))) .n)) ?_
   refine gj (vi y8.2) 82 (.mov 7) 81 true rfl ?_
   refine gk (vb (y8.2 == (0 : Int))) 83 (.bin .eql false 82 (ki 0)) 81 true rfl (fun hg=>(.cons hg (.cons rfl .nil))) ?_
   refine pa 84 81 83 rfl rfl ?_
   refine jk 1 (.i 6 (vb ((y8.1 == (12 : Int)) && (y8.2 == (0 : Int)))) .n) ?_
   refine q3 ?_
   have h:=si h
   subst h
   exact DoneS.ret (S' := ⟨[(6, vb ((y8.1 == (12 : Int)) && (y8.2 == (0 : Int))))], []⟩) (sc [] (by decide) (by kernel_rfl) ObRen.nil rfl rfl) rfl rfl
  refine q2 ?_
  refine sj ?_
  refine rk 3 (.k (.d (.k (.i 87 (vb (y8.1 == (0 : Int))) .n)))) ?_
  refine gj (vi y8.2) 88 (.mov 7) 87 true rfl ?_
  refine gj (vi y12) 89 (.mov 11) 87 true rfl ?_
  refine gk (vb (y8.2 == y12)) 90 (.bin .eql false 88 89) 87 true rfl (fun hg=>(.cons hg (.cons hg .nil))) ?_
  refine pa 91 87 90 rfl rfl ?_
  refine jk 1 (.i 6 (vb ((y8.1 == (0 : Int)) && (y8.2 == y12))) .n) ?_
  refine q3 ?_
  have h:=si h
  subst h
  exact DoneS.ret (S' := ⟨[(6, vb ((y8.1 == (0 : Int)) && (y8.2 == y12)))], []⟩) (sc [] (by decide) (by kernel_rfl) ObRen.nil rfl rfl) rfl rfl
 intro k1 h
 refine sk (.k4 (.k2 (.i 60 (vb (y9.1 == (0 : Int))) .n))) ?_
 refine tc h (fun c3 h=>?_) (fun c3 h=>?_)
 ·refine q6 ?_
  refine rk 2 (.k4 (.k (.i 61 (.agg [eS 1 vt a0.Places,eS 1 vt a0.Technicians,eS 4 eRoad a0.Roads,eS 3 eGrand a0.Grands,vi a0.Change,vi a0.Lasts]) (.i 62 (.agg [vi a2.Kind,vi a2.From,vi a2.To,vt a2.Grand,vt a2.Place,vt a2.Who,vi a2.Deposit]) .n)))) ?_
  refine bK h fun y10 hy10 h=>?_
  refine jc 63 [61,62] (agrafferef09_CheckItem_ok n a0 a2 y10 hy10) ?_
  refine jk 1 (.d (.k4 (.k (.i 10 (vi y10) .n)))) ?_
  exact Vs.intro Sees.refl ⟨y10, rfl, h⟩
 refine q2 ?_
 exact Vs.intro sy ⟨y9.1, rfl, h⟩
end Go.Proofs.YtpmkdgnhllhaeaaGreat.As
