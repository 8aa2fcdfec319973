/- The code computes what the plain functions say, part 3: no condition. -/
import Derived.Test.YtpmkdgnhllhaeaaGreatWalk2
namespace Go.Proofs.YtpmkdgnhllhaeaaGreat.As
open Go Go.Proofs
set_option maxRecDepth 4000
set_option maxHeartbeats 1000000 in
theorem agrafferef09_breaks_ok (n : Nat) (a0 : Diary) (a1 : List Item) (a2 : Item) (r : Int) (h : agrafferef09_breaks n a0 a1 a2 = some r) : FnL Tryz.prog 55 [.agg [eS 1 vt a0.Places, eS 1 vt a0.Technicians, eS 4 eRoad a0.Roads, eS 3 eGrand a0.Grands, vi a0.Change, vi a0.Lasts], eS 7 eItem a1, .agg [vi a2.Kind, vi a2.From, vi a2.To, vt a2.Grand, vt a2.Place, vt a2.Who, vi a2.Deposit]] [] (vi r) [] := by
 dsimp only [agrafferef09_breaks] at h
 refine fo [6] Tryz.call55 Tryz.func55 rfl ?_
 refine sko (.d (.k (.i 3 (.ptr 0 0 0) (.i 5 (.ptr 1 0 0) .n)))) [some (.row 6 [.agg [eS 1 vt a0.Places,eS 1 vt a0.Technicians,eS 4 eRoad a0.Roads,eS 3 eGrand a0.Grands,vi a0.Change,vi a0.Lasts]]),some (.row 7 [.agg [vi a2.Kind,vi a2.From,vi a2.To,vt a2.Grand,vt a2.Place,vt a2.Who,vi a2.Deposit]])] ?_
 refine TriE.seqK h (fun (_ : Unit)=>St.mk [(1,eS 7 eItem a1),(3,.ptr 0 0 0),(5,.ptr 1 0 0)] [some (.row 6 [.agg [eS 1 vt a0.Places,eS 1 vt a0.Technicians,eS 4 eRoad a0.Roads,eS 3 eGrand a0.Grands,vi a0.Change,vi a0.Lasts]]),some (.row 7 [.agg [vi a2.Kind,vi a2.From,vi a2.To,vt a2.Grand,vt a2.Place,vt a2.Who,vi a2.Deposit]])]) ?_ ?_
 ·rintro ⟨⟩ h
  refine sj ?_
  refine rk 6 (.k3 (.i 40 (.agg [eS 1 vt a0.Places,eS 1 vt a0.Technicians,eS 4 eRoad a0.Roads,eS 3 eGrand a0.Grands,vi a0.Change,vi a0.Lasts]) (.i 41 (eS 7 eItem a1) (.i 43 (vt a2.Grand) (.i 45 (vi a2.From) .n))))) ?_
  refine bK h fun y2 hy2 h=>?_
  refine jc 46 [40,41,43,45] (agrafferef09_Stands_ok n a0 a1 a2.Grand a2.From y2 hy2) ?_
  refine jk 1 (.d (.k3 (.i 8 (vt y2) .n))) ?_
  refine q1 ?_
  refine sj ?_
  refine rk 4 (.k4 (.i 50 (vb (a2.Kind != (1 : Int))) .n)) ?_
  refine gj (vt y2) 51 (.mov 8) 50 true rfl ?_
  refine gj (.ptr 1 0 4) 52 (.faddr 4 5) 50 true rfl ?_
  refine gk (vt a2.Place) 53 (.load false 1 52) 50 true rfl (fun hg=>(.cons hg .nil)) ?_
  refine gk (vb (!(y2 == a2.Place))) 54 (.bin .neq false 51 53) 50 true rfl (fun hg=>(.cons hg (.cons hg .nil))) ?_
  refine pa 55 50 54 rfl rfl ?_
  refine jf (.d4 (.d (.k4 (.i 55 (vb ((a2.Kind != (1 : Int)) && (!(y2 == a2.Place)))) .n)))) ?_
  refine tc h (fun c5 h=>?_) (fun c5 h=>?_)
  ·refine sk (.i 6 (vi 13) .n) ?_
   refine q3 ?_
   have h:=si h
   subst h
   exact DoneS.ret (S' := ⟨[(6, vi 13)], []⟩) (sc [] (by decide) (by kernel_rfl) ObRen.nil rfl rfl) rfl rfl
  refine q2 ?_
  refine TriE.seqK h (fun (_ : Unit)=>St.mk [(1,eS 7 eItem a1),(3,.ptr 0 0 0),(5,.ptr 1 0 0)] [some (.row 6 [.agg [eS 1 vt a0.Places,eS 1 vt a0.Technicians,eS 4 eRoad a0.Roads,eS 3 eGrand a0.Grands,vi a0.Change,vi a0.Lasts]]),some (.row 7 [.agg [vi a2.Kind,vi a2.From,vi a2.To,vt a2.Grand,vt a2.Place,vt a2.Who,vi a2.Deposit]])]) ?_ ?_
  ·rintro ⟨⟩ h
   refine TriE.seqK h (fun (_ : Unit)=>St.mk [(1,eS 7 eItem a1),(3,.ptr 0 0 0),(5,.ptr 1 0 0)] [some (.row 6 [.agg [eS 1 vt a0.Places,eS 1 vt a0.Technicians,eS 4 eRoad a0.Roads,eS 3 eGrand a0.Grands,vi a0.Change,vi a0.Lasts]]),some (.row 7 [.agg [vi a2.Kind,vi a2.From,vi a2.To,vt a2.Grand,vt a2.Place,vt a2.Who,vi a2.Deposit]])]) ?_ ?_
   ·rintro ⟨⟩ h
    refine q1 ?_
    refine sj ?_
    refine rk 4 (.k3 (.i 131 (vb (a2.Kind == (2 : Int))) .n)) ?_
    refine gj (.agg [eS 1 vt a0.Places,eS 1 vt a0.Technicians,eS 4 eRoad a0.Roads,eS 3 eGrand a0.Grands,vi a0.Change,vi a0.Lasts]) 132 (.load true 6 3) 131 true rfl ?_
    refine gj (eS 7 eItem a1) 133 (.mov 1) 131 true rfl ?_
    refine gj (.agg [vi a2.Kind,vi a2.From,vi a2.To,vt a2.Grand,vt a2.Place,vt a2.Who,vi a2.Deposit]) 134 (.load true 7 5) 131 true rfl ?_
    refine bK h fun y8 hy8 h=>?_
    refine gc 135 [132,133,134] 131 true rfl (fun hg=>agrafferef09_Rests_ok n a0 a1 a2 y8 (gcall_some hy8 hg)) (fun hg=>(.cons rfl (.cons hg (.cons hg (.cons hg .nil))))) (fun hg=>by kernel_rfl) ?_
    refine gk (vb (decide (y8 < (0 : Int)))) 136 (.bin .lss false 135 (ki 0)) 131 true rfl (fun hg=>(.cons hg (.cons rfl .nil))) ?_
    refine pa 137 131 136 rfl rfl ?_
    refine jf (.i 137 (vb ((a2.Kind == (2 : Int)) && (decide (y8 < (0 : Int))))) .n) ?_
    refine tc h (fun c19 h=>?_) (fun c19 h=>?_)
    ·refine sk (.i 6 (vi 26) .n) ?_
     refine q3 ?_
     have h:=si h
     subst h
     exact DoneS.ret (S' := ⟨[(6, vi 26)], []⟩) (sc [] (by decide) (by kernel_rfl) ObRen.nil rfl rfl) rfl rfl
    refine q2 ?_
    refine sk (.i 6 (vi 0) .n) ?_
    refine q3 ?_
    have h:=si h
    subst h
    exact DoneS.ret (S' := ⟨[(6, vi 0)], []⟩) (sc [] (by decide) (by kernel_rfl) ObRen.nil rfl rfl) rfl rfl
   intro k4 h
   refine sk (.k3 (.i 10 (vi 0) .n)) ?_
   refine q4 ?_
   refine ts (.k3 (.i 10 (vi 0) .n)) ?_
   refine TriE.loopN h (fun (v6 : Nat)=>St.mk [(1,eS 7 eItem a1),(3,.ptr 0 0 0),(5,.ptr 1 0 0),(10,vi v6)] [some (.row 6 [.agg [eS 1 vt a0.Places,eS 1 vt a0.Technicians,eS 4 eRoad a0.Roads,eS 3 eGrand a0.Grands,vi a0.Change,vi a0.Lasts]]),some (.row 7 [.agg [vi a2.Kind,vi a2.From,vi a2.To,vt a2.Grand,vt a2.Place,vt a2.Who,vi a2.Deposit]])]) rfl ?_
   clear h
   rintro back v6 h
   dsimp only [agrafferef09_breaks_L2] at h
   refine q1 ?_
   refine sj ?_
   refine rk 2 (.k4 (.i 86 (vi v6) (.i 87 (eS 7 eItem a1) .n))) ?_
   refine jo 88 (.len 0 87) (ok_len_m rfl) ?_
   refine jo 89 (.bin .lss false 86 88) (n_lss (i:=v6) (j:=a1.length) rfl rfl) ?_
   refine rk 1 (.d2 (.k4 (.i 90 (vb (decide (v6 < a1.length))) .n))) ?_
   refine gj (.ptr 1 0 0) 91 (.faddr 0 5) 90 true rfl ?_
   refine gk (vi a2.Kind) 92 (.load false 1 91) 90 true rfl (fun hg=>(.cons hg .nil)) ?_
   refine gk (vb (a2.Kind == (0 : Int))) 93 (.bin .eql false 92 (ki 0)) 90 true rfl (fun hg=>(.cons hg (.cons rfl .nil))) ?_
   refine pa 94 90 93 rfl rfl ?_
   refine jf (.d4 (.k4 (.i 94 (vb ((decide (v6 < a1.length)) && (a2.Kind == (0 : Int)))) .n))) ?_
   refine tc h (fun c13 h=>?_) (fun c13 h=>?_)
   ·refine q2 ?_
    refine TriE.seqK h (fun (_ : Unit)=>St.mk [(1,eS 7 eItem a1),(3,.ptr 0 0 0),(5,.ptr 1 0 0),(10,vi v6)] [some (.row 6 [.agg [eS 1 vt a0.Places,eS 1 vt a0.Technicians,eS 4 eRoad a0.Roads,eS 3 eGrand a0.Grands,vi a0.Change,vi a0.Lasts]]),some (.row 7 [.agg [vi a2.Kind,vi a2.From,vi a2.To,vt a2.Grand,vt a2.Place,vt a2.Who,vi a2.Deposit]])]) ?_ ?_
    ·rintro ⟨⟩ h
     refine q6 ?_
     refine rk 1 (.k3 (.i 95 (vi v6) .n)) ?_
     refine cK h fun c18 h=>?_
     refine jo 96 (.bin .add false 95 (ki 1)) (r_addn (i:=v6) (j:=1) rfl rfl c18) ?_
     refine jk 1 (.d (.k3 (.i 10 (vi ((v6 + 1 : Nat) : Int)) .n))) ?_
     exact Vs.intro sy ⟨(v6 + 1), rfl, h⟩
    intro k3 h
    refine q4 ?_
    refine sj ?_
    refine rk 2 (.k4 (.i 97 (eS 7 eItem a1) (.i 98 (vi v6) .n))) ?_
    refine cK h fun c14 h=>?_
    refine jo 99 (.iaddr 7 97 98) (ok_iaddr_m (j:=v6) rfl rfl rfl c14) ?_
    refine jo 100 (.load true 7 99) (ok_load_fm (v:=.agg [vi ((ix a1 v6).Kind),vi ((ix a1 v6).From),vi ((ix a1 v6).To),vt ((ix a1 v6).Grand),vt ((ix a1 v6).Place),vt ((ix a1 v6).Who),vi ((ix a1 v6).Deposit)]) rfl c14 rfl) ?_
    refine jko 2 (.d2 (.k4 (.i 11 (.ptr 2 0 0) .n))) [some (.row 6 [.agg [eS 1 vt a0.Places,eS 1 vt a0.Technicians,eS 4 eRoad a0.Roads,eS 3 eGrand a0.Grands,vi a0.Change,vi a0.Lasts]]),some (.row 7 [.agg [vi a2.Kind,vi a2.From,vi a2.To,vt a2.Grand,vt a2.Place,vt a2.Who,vi a2.Deposit]]),some (.row 7 [.agg [vi ((ix a1 v6).Kind),vi ((ix a1 v6).From),vi ((ix a1 v6).To),vt ((ix a1 v6).Grand),vt ((ix a1 v6).Place),vt ((ix a1 v6).Who),vi ((ix a1 v6).Deposit)]])] ?_
    refine q1 ?_
    refine sj ?_
    refine rk 4 (.k4 (.k (.i 104 (vb (((ix a1 v6).Kind) != (0 : Int))) .n))) ?_
    refine gj (.ptr 2 0 5) 105 (.faddr 5 11) 104 false rfl ?_
    refine gk (vt ((ix a1 v6).Who)) 106 (.load false 1 105) 104 false rfl (fun hg=>(.cons hg .nil)) ?_
    refine gj (.ptr 1 0 5) 107 (.faddr 5 5) 104 false rfl ?_
    refine gk (vt a2.Who) 108 (.load false 1 107) 104 false rfl (fun hg=>(.cons hg .nil)) ?_
    refine gk (vb (!(((ix a1 v6).Who) == a2.Who))) 109 (.bin .neq false 106 108) 104 false rfl (fun hg=>(.cons hg (.cons hg .nil))) ?_
    refine po 110 104 109 rfl rfl ?_
    refine jf (.d4 (.d2 (.k4 (.k (.i 110 (vb ((((ix a1 v6).Kind) != (0 : Int)) || (!(((ix a1 v6).Who) == a2.Who)))) .n))))) ?_
    refine tc h (fun c15 h=>?_) (fun c15 h=>?_)
    ·refine q5 ?_
     exact Vs.intro (sc [0, 1] (by decide) (by kernel_rfl) (.cons rfl (.cons rfl .nil)) rfl rfl) ⟨(), rfl, h⟩
    refine q2 ?_
    refine sj ?_
    refine rk 5 (.k4 (.k (.i 111 (.agg [eS 1 vt a0.Places,eS 1 vt a0.Technicians,eS 4 eRoad a0.Roads,eS 3 eGrand a0.Grands,vi a0.Change,vi a0.Lasts]) (.i 113 (vt ((ix a1 v6).Place)) (.i 115 (vt a2.Place) .n))))) ?_
    refine bK h fun y7 hy7 h=>?_
    refine jc 116 [111,113,115,(ki 1)] (agrafferef09_Distance_ok n a0 ((ix a1 v6).Place) a2.Place 1 y7 hy7) ?_
    refine jk 1 (.d (.k4 (.k (.i 12 (vi y7) .n)))) ?_
    refine sj ?_
    refine rk 3 (.k4 (.k2 (.i 119 (vb (decide (y7 < (0 : Int)))) .n))) ?_
    refine gj (.ptr 1 0 1) 120 (.faddr 1 5) 119 false rfl ?_
    refine gk (vi a2.From) 121 (.load false 1 120) 119 false rfl (fun hg=>(.cons hg .nil)) ?_
    refine gj (.ptr 2 0 2) 122 (.faddr 2 11) 119 false rfl ?_
    refine gk (vi ((ix a1 v6).To)) 123 (.load false 1 122) 119 false rfl (fun hg=>(.cons hg .nil)) ?_
    refine gj (vi y7) 124 (.mov 12) 119 false rfl ?_
    refine cK h fun c16 h=>?_
    refine gv 125 (.bin .add false 123 124) 119 false rfl (fun hg=>(r_add rfl rfl (gor c16 hg))) (fun hg=>(.cons hg (.cons hg .nil))) ?_
    refine gk (vb (decide (a2.From < (((ix a1 v6).To) + y7)))) 126 (.bin .lss false 121 125) 119 false rfl (fun hg=>(.cons hg (.cons hg .nil))) ?_
    refine po 127 119 126 rfl rfl ?_
    refine jf (.d4 (.d4 (.k4 (.i 127 (vb ((decide (y7 < (0 : Int))) || (decide (a2.From < (((ix a1 v6).To) + y7))))) .n)))) ?_
    refine tc h (fun c17 h=>?_) (fun c17 h=>?_)
    ·refine sk (.i 6 (vi 16) .n) ?_
     refine q3 ?_
     have h:=si h
     subst h
     exact DoneS.ret (S' := ⟨[(6, vi 16)], []⟩) (sc [] (by decide) (by kernel_rfl) ObRen.nil rfl rfl) rfl rfl
    refine q2 ?_
    exact Vs.intro (sc [0, 1] (by decide) (by kernel_rfl) (.cons rfl (.cons rfl .nil)) rfl rfl) ⟨(), rfl, h⟩
   refine q5 ?_
   exact Vs.intro sy ⟨(), rfl, h⟩
  intro k2 h
  refine sk (.k4 (.i 58 (vb (a2.Kind == (1 : Int))) .n)) ?_
  refine tc h (fun c6 h=>?_) (fun c6 h=>?_)
  ·refine q1 ?_
   refine sk (.k4 (.i 62 (vb (y2 == a2.Place)) .n)) ?_
   refine tc h (fun c7 h=>?_) (fun c7 h=>?_)
   ·refine sk (.i 6 (vi 24) .n) ?_
    refine q3 ?_
    have h:=si h
    subst h
    exact DoneS.ret (S' := ⟨[(6, vi 24)], []⟩) (sc [] (by decide) (by kernel_rfl) ObRen.nil rfl rfl) rfl rfl
   refine q2 ?_
   refine q1 ?_
   refine ts (.k4 .n) ?_
   refine TriE.draw (by kernel_rfl) ?_
   refine dk 9 (.i 71 (vt a2.Grand) (.i 70 (.ptr 1 0 3) (.i 69 (.agg [eS 1 vt a0.Places,eS 1 vt a0.Technicians,eS 4 eRoad a0.Roads,eS 3 eGrand a0.Grands,vi a0.Change,vi a0.Lasts]) (.i 68 (eS 3 eGrand a0.Grands) (.i 67 (.ptr 0 0 3) (.i 66 (vt a2.Place) (.i 65 (.ptr 1 0 4) (.i 64 (vt y2) (.i 63 (.agg [eS 1 vt a0.Places,eS 1 vt a0.Technicians,eS 4 eRoad a0.Roads,eS 3 eGrand a0.Grands,vi a0.Change,vi a0.Lasts]) .a))))))))) ?_
   refine bK h fun y3 hy3 h=>?_
   refine dc (vi y3) 0 72 [69,71] (agrafferef09_GrandAt_ok n a0 a2.Grand y3 hy3) [] rfl ObsRen.nil ObsRen.nil rfl (.inr ⟨rfl,rfl⟩) ?_
   refine cK h fun c8 h=>?_
   refine dp 73 (.iaddr 3 68 72) (ok_iaddr_m (j:=y3.toNat) rfl rfl (inB_to c8) (inB_lt c8)) ?_
   refine dk 1 (.i 74 (.fptr 3 (List.map eGrand a0.Grands) y3.toNat 2) .a) ?_
   refine cK h fun c9 h=>?_
   refine dp 75 (.load false 1 74) (ok_load_fm (v:=vi ((ix a0.Grands y3.toNat).Width)) rfl c9 rfl) ?_
   refine bK h fun y4 hy4 h=>?_
   refine dc (vi y4) 0 76 [63,64,66,75] (agrafferef09_Distance_ok n a0 y2 a2.Place ((ix a0.Grands y3.toNat).Width) y4 hy4) [] rfl ObsRen.nil ObsRen.nil rfl (.inr ⟨rfl,rfl⟩) ?_
   refine dk 1 (.i 9 (vi y4) .a) ?_
   refine dfi (ob':=[some (.row 6 [.agg [eS 1 vt a0.Places,eS 1 vt a0.Technicians,eS 4 eRoad a0.Roads,eS 3 eGrand a0.Grands,vi a0.Change,vi a0.Lasts]]),some (.row 7 [.agg [vi a2.Kind,vi a2.From,vi a2.To,vt a2.Grand,vt a2.Place,vt a2.Who,vi a2.Deposit]])]) (.d4 (.d4 (.d4 (.d3 (.k3 (.i 9 (vi y4) .n)))))) [0,1] (.cons rfl (.cons rfl .nil)) ?_
   refine q1 ?_
   refine sk (.k4 (.i 78 (vb (decide (y4 < (0 : Int)))) .n)) ?_
   refine tc h (fun c10 h=>?_) (fun c10 h=>?_)
   ·refine sk (.i 6 (vi 12) .n) ?_
    refine q3 ?_
    have h:=si h
    subst h
    exact DoneS.ret (S' := ⟨[(6, vi 12)], []⟩) (sc [] (by decide) (by kernel_rfl) ObRen.nil rfl rfl) rfl rfl
   refine q2 ?_
   refine sj ?_
   refine rk 5 (.k3 (.i 79 (vi y4) (.i 81 (vi a2.To) (.i 83 (vi a2.From) .n)))) ?_
   refine cK h fun c11 h=>?_
   refine jo 84 (.bin .sub false 81 83) (r_sub rfl rfl c11) ?_
   refine jk 1 (.d (.k3 (.i 85 (vb (decide ((a2.To - a2.From) < y4))) .n))) ?_
   refine tc h (fun c12 h=>?_) (fun c12 h=>?_)
   ·refine sk (.i 6 (vi 18) .n) ?_
    refine q3 ?_
    have h:=si h
    subst h
    exact DoneS.ret (S' := ⟨[(6, vi 18)], []⟩) (sc [] (by decide) (by kernel_rfl) ObRen.nil rfl rfl) rfl rfl
   refine q2 ?_
   exact Vs.intro sy ⟨(), rfl, h⟩
  refine q2 ?_
  exact Vs.intro sy ⟨(), rfl, h⟩
 intro k1 h
 refine sk (.k3 (.i 7 (vi 0) .n)) ?_
 refine q4 ?_
 refine ts (.k3 (.i 7 (vi 0) .n)) ?_
 refine TriE.loopN h (fun (v1 : Nat)=>St.mk [(1,eS 7 eItem a1),(3,.ptr 0 0 0),(5,.ptr 1 0 0),(7,vi v1)] [some (.row 6 [.agg [eS 1 vt a0.Places,eS 1 vt a0.Technicians,eS 4 eRoad a0.Roads,eS 3 eGrand a0.Grands,vi a0.Change,vi a0.Lasts]]),some (.row 7 [.agg [vi a2.Kind,vi a2.From,vi a2.To,vt a2.Grand,vt a2.Place,vt a2.Who,vi a2.Deposit]])]) rfl ?_
 clear h
 rintro back v1 h
 dsimp only [agrafferef09_breaks_L1] at h
 refine q1 ?_
 refine sj ?_
 refine rk 2 (.k4 (.i 13 (vi v1) (.i 14 (eS 7 eItem a1) .n))) ?_
 refine jo 15 (.len 0 14) (ok_len_m rfl) ?_
 refine jo 16 (.bin .lss false 13 15) (n_lss (i:=v1) (j:=a1.length) rfl rfl) ?_
 refine jf (.d2 (.k4 (.i 16 (vb (decide (v1 < a1.length))) .n))) ?_
 refine tc h (fun c1 h=>?_) (fun c1 h=>?_)
 ·refine q2 ?_
  refine q7 ?_
  refine q1 ?_
  refine ts (.k4 .n) ?_
  refine TriE.draw (by kernel_rfl) ?_
  refine dk 2 (.i 20 (vi v1) (.i 19 (eS 7 eItem a1) .a)) ?_
  refine dp 21 (.iaddr 7 19 20) (ok_iaddr_m (j:=v1) rfl rfl rfl c1) ?_
  refine dk 1 (.i 22 (.fptr 7 (List.map eItem a1) v1 3) .a) ?_
  refine dp 23 (.load false 1 22) (ok_load_fm (v:=vt ((ix a1 v1).Grand)) rfl c1 rfl) ?_
  refine dk 4 (.i 27 (vb (((ix a1 v1).Grand) == a2.Grand)) (.i 26 (vb (((ix a1 v1).Grand) == a2.Grand)) (.i 25 (vt a2.Grand) (.i 24 (.ptr 1 0 3) .a)))) ?_
  refine gd (((ix a1 v1).Grand) == a2.Grand) (.ptr 1 0 1) 28 (.faddr 1 5) 27 true rfl (fun hg=>(.cons rfl .nil)) ?_
  refine gd (((ix a1 v1).Grand) == a2.Grand) (vi a2.From) 29 (.load false 1 28) 27 true rfl (fun hg=>(.cons hg .nil)) ?_
  refine gd (((ix a1 v1).Grand) == a2.Grand) (eS 7 eItem a1) 30 (.mov 1) 27 true rfl (fun hg=>(.cons rfl .nil)) ?_
  refine gd (((ix a1 v1).Grand) == a2.Grand) (vi v1) 31 (.mov 7) 27 true rfl (fun hg=>(.cons rfl .nil)) ?_
  refine gu (((ix a1 v1).Grand) == a2.Grand) 32 (.iaddr 7 30 31) 27 true rfl (fun hg=>(ok_iaddr_m (j:=v1) rfl rfl rfl c1)) (fun hg=>(.cons hg (.cons hg .nil))) ?_
  refine gd (((ix a1 v1).Grand) == a2.Grand) (.fptr 7 (List.map eItem a1) v1 2) 33 (.faddr 2 32) 27 true rfl (fun hg=>(.cons hg .nil)) ?_
  refine gu (((ix a1 v1).Grand) == a2.Grand) 34 (.load false 1 33) 27 true rfl (fun hg=>(ok_load_fm (v:=vi ((ix a1 v1).To)) rfl c1 rfl)) (fun hg=>(.cons hg .nil)) ?_
  refine gd (((ix a1 v1).Grand) == a2.Grand) (.ptr 0 0 4) 35 (.faddr 4 3) 27 true rfl (fun hg=>(.cons rfl .nil)) ?_
  refine gd (((ix a1 v1).Grand) == a2.Grand) (vi a0.Change) 36 (.load false 1 35) 27 true rfl (fun hg=>(.cons hg .nil)) ?_
  refine cK h fun c2 h=>?_
  refine gu (((ix a1 v1).Grand) == a2.Grand) 37 (.bin .add false 34 36) 27 true rfl (fun hg=>(r_add rfl rfl (gor c2 hg))) (fun hg=>(.cons hg (.cons hg .nil))) ?_
  refine gd (((ix a1 v1).Grand) == a2.Grand) (vb (decide (a2.From < (((ix a1 v1).To) + a0.Change)))) 38 (.bin .lss false 29 37) 27 true rfl (fun hg=>(.cons hg (.cons hg .nil))) ?_
  refine RegD.op (OpD.and (cy (I0 39 (.pick 27 38 (.c (.p (.bool false)))))) rfl rfl (by first | exact hokA1 | exact hokA0 | simp)) ?_
  refine dfi (ob':=[some (.row 6 [.agg [eS 1 vt a0.Places,eS 1 vt a0.Technicians,eS 4 eRoad a0.Roads,eS 3 eGrand a0.Grands,vi a0.Change,vi a0.Lasts]]),some (.row 7 [.agg [vi a2.Kind,vi a2.From,vi a2.To,vt a2.Grand,vt a2.Place,vt a2.Who,vi a2.Deposit]])]) (.d4 (.d4 (.d4 (.d4 (.d4 (.d (.k4 (.i 39 (vb ((((ix a1 v1).Grand) == a2.Grand) && (decide (a2.From < (((ix a1 v1).To) + a0.Change))))) .n)))))))) [0,1] (.cons rfl (.cons rfl .nil)) ?_
  refine tc h (fun c3 h=>?_) (fun c3 h=>?_)
  ·refine sk (.i 6 (vi 17) .n) ?_
   refine q3 ?_
   have h:=si h
   subst h
   exact DoneS.ret (S' := ⟨[(6, vi 17)], []⟩) (sc [] (by decide) (by kernel_rfl) ObRen.nil rfl rfl) rfl rfl
  refine q2 ?_
  refine q6 ?_
  refine rk 1 (.k3 (.i 17 (vi v1) .n)) ?_
  refine cK h fun c4 h=>?_
  refine jo 18 (.bin .add false 17 (ki 1)) (r_addn (i:=v1) (j:=1) rfl rfl c4) ?_
  refine jk 1 (.d (.k3 (.i 7 (vi ((v1 + 1 : Nat) : Int)) .n))) ?_
  exact Vs.intro sy ⟨(v1 + 1), rfl, h⟩
 refine q5 ?_
 exact Vs.intro sy ⟨(), rfl, h⟩
set_option maxHeartbeats 1000000 in
theorem agrafferef09_Accept_ok (n : Nat) (a0 : Diary) (a1 : List Item) (r : Int × Int) (h : agrafferef09_Accept n a0 a1 = some r) : FnL Tryz.prog 16 [.agg [eS 1 vt a0.Places, eS 1 vt a0.Technicians, eS 4 eRoad a0.Roads, eS 3 eGrand a0.Grands, vi a0.Change, vi a0.Lasts], eS 7 eItem a1] [] (.tup [vi r.2, vi r.1]) [] := by
 dsimp only [agrafferef09_Accept] at h
 refine fo [4,5] Tryz.call16 Tryz.func16 rfl ?_
 refine sko (.d (.k (.i 2 (.ptr 0 0 0) .n))) [some (.row 6 [.agg [eS 1 vt a0.Places,eS 1 vt a0.Technicians,eS 4 eRoad a0.Roads,eS 3 eGrand a0.Grands,vi a0.Change,vi a0.Lasts]])] ?_
 refine q1 ?_
 refine sj ?_
 refine rk 1 (.k2 (.i 10 (.agg [eS 1 vt a0.Places,eS 1 vt a0.Technicians,eS 4 eRoad a0.Roads,eS 3 eGrand a0.Grands,vi a0.Change,vi a0.Lasts]) .n)) ?_
 refine bK h fun y1 hy1 h=>?_
 refine jc 11 [10] (agrafferef09_CheckDiary_ok n a0 y1 hy1) ?_
 refine jk 1 (.d (.k2 (.i 6 (vi y1) .n))) ?_
 refine sk (.k3 (.i 13 (vb (y1 != (0 : Int))) .n)) ?_
 refine tc h (fun c1 h=>?_) (fun c1 h=>?_)
 ·refine sk (.i 4 (vi 0) (.i 5 (vi y1) .n)) ?_
  refine q3 ?_
  have h:=si h
  subst h
  exact DoneS.ret (S' := ⟨[(4, vi 0), (5, vi y1)], []⟩) (sc [] (by decide) (by kernel_rfl) ObRen.nil rfl rfl) rfl rfl
 refine q2 ?_
 refine q1 ?_
 refine sj ?_
 refine rk 1 (.k2 (.i 15 (eS 7 eItem a1) .n)) ?_
 refine jo 16 (.len 0 15) (ok_len_m rfl) ?_
 refine jo 17 (.bin .gtr false 16 (ki 100)) (n_gtr (i:=a1.length) (j:=100) rfl rfl) ?_
 refine jf (.d2 (.k2 (.i 17 (vb (decide (100 < a1.length))) .n))) ?_
 refine tc h (fun c2 h=>?_) (fun c2 h=>?_)
 ·refine sk (.i 4 (vi 0) (.i 5 (vi 8) .n)) ?_
  refine q3 ?_
  have h:=si h
  subst h
  exact DoneS.ret (S' := ⟨[(4, vi 0), (5, vi 8)], []⟩) (sc [] (by decide) (by kernel_rfl) ObRen.nil rfl rfl) rfl rfl
 refine q2 ?_
 refine TriE.seqK h (fun (_ : Unit)=>St.mk [] []) ?_ ?_
 ·rintro ⟨⟩ h
  refine sk (.i 4 (vi (-1)) (.i 5 (vi 0) .n)) ?_
  refine q3 ?_
  have h:=si h
  subst h
  exact DoneS.ret Sees.refl rfl rfl
 intro k1 h
 refine sk (.k2 (.i 7 (vi 0) .n)) ?_
 refine q4 ?_
 refine ts (.k2 (.i 7 (vi 0) .n)) ?_
 refine TriE.loopN h (fun (v4 : Nat)=>St.mk [(1,eS 7 eItem a1),(2,.ptr 0 0 0),(7,vi v4)] [some (.row 6 [.agg [eS 1 vt a0.Places,eS 1 vt a0.Technicians,eS 4 eRoad a0.Roads,eS 3 eGrand a0.Grands,vi a0.Change,vi a0.Lasts]])]) rfl ?_
 clear h
 rintro back v4 h
 dsimp only [agrafferef09_Accept_L1] at h
 refine q1 ?_
 refine sj ?_
 refine rk 2 (.k3 (.i 18 (vi v4) (.i 19 (eS 7 eItem a1) .n))) ?_
 refine jo 20 (.len 0 19) (ok_len_m rfl) ?_
 refine jo 21 (.bin .lss false 18 20) (n_lss (i:=v4) (j:=a1.length) rfl rfl) ?_
 refine jf (.d2 (.k3 (.i 21 (vb (decide (v4 < a1.length))) .n))) ?_
 refine tc h (fun c3 h=>?_) (fun c3 h=>?_)
 ·refine q2 ?_
  refine q7 ?_
  refine q1 ?_
  refine q1 ?_
  refine ts (.k3 .n) ?_
  refine TriE.draw (by kernel_rfl) ?_
  refine dk 3 (.i 26 (vi v4) (.i 25 (eS 7 eItem a1) (.i 24 (.agg [eS 1 vt a0.Places,eS 1 vt a0.Technicians,eS 4 eRoad a0.Roads,eS 3 eGrand a0.Grands,vi a0.Change,vi a0.Lasts]) .a))) ?_
  refine dp 27 (.iaddr 7 25 26) (ok_iaddr_m (j:=v4) rfl rfl rfl c3) ?_
  refine dp 28 (.load true 7 27) (ok_load_fm (v:=.agg [vi ((ix a1 v4).Kind),vi ((ix a1 v4).From),vi ((ix a1 v4).To),vt ((ix a1 v4).Grand),vt ((ix a1 v4).Place),vt ((ix a1 v4).Who),vi ((ix a1 v4).Deposit)]) rfl c3 rfl) ?_
  refine bK h fun y5 hy5 h=>?_
  refine dc (vi y5) 0 29 [24,28] (agrafferef09_CheckItem_ok n a0 (ix a1 v4) y5 hy5) [] rfl ObsRen.nil ObsRen.nil rfl (.inr ⟨rfl,rfl⟩) ?_
  refine dk 1 (.i 8 (vi y5) .a) ?_
  refine dfi (ob':=[some (.row 6 [.agg [eS 1 vt a0.Places,eS 1 vt a0.Technicians,eS 4 eRoad a0.Roads,eS 3 eGrand a0.Grands,vi a0.Change,vi a0.Lasts]])]) (.d4 (.d3 (.k3 (.i 8 (vi y5) .n)))) [0] (.cons rfl .nil) ?_
  refine sk (.k4 (.i 31 (vb (y5 != (0 : Int))) .n)) ?_
  refine tc h (fun c4 h=>?_) (fun c4 h=>?_)
  ·refine sk (.i 4 (vi v4) (.i 5 (vi y5) .n)) ?_
   refine q3 ?_
   have h:=si h
   subst h
   exact DoneS.ret (S' := ⟨[(4, vi v4), (5, vi y5)], []⟩) (sc [] (by decide) (by kernel_rfl) ObRen.nil rfl rfl) rfl rfl
  refine q2 ?_
  refine q1 ?_
  refine q1 ?_
  refine ts (.k3 .n) ?_
  refine TriE.draw (by kernel_rfl) ?_
  refine dk 1 (.i 34 (vi v4) .a) ?_
  refine dp 35 (.bin .gtr false 34 (ki 0)) (n_gtr (i:=v4) (j:=0) rfl rfl) ?_
  refine dk 1 (.i 36 (vb (decide (0 < v4))) .a) ?_
  refine gd (decide (0 < v4)) (eS 7 eItem a1) 37 (.mov 1) 36 true rfl (fun hg=>(.cons rfl .nil)) ?_
  refine gd (decide (0 < v4)) (vi v4) 38 (.mov 7) 36 true rfl (fun hg=>(.cons rfl .nil)) ?_
  refine gu (decide (0 < v4)) 39 (.iaddr 7 37 38) 36 true rfl (fun hg=>(ok_iaddr_m (j:=v4) rfl rfl rfl c3)) (fun hg=>(.cons hg (.cons hg .nil))) ?_
  refine gd (decide (0 < v4)) (.fptr 7 (List.map eItem a1) v4 1) 40 (.faddr 1 39) 36 true rfl (fun hg=>(.cons hg .nil)) ?_
  refine gu (decide (0 < v4)) 41 (.load false 1 40) 36 true rfl (fun hg=>(ok_load_fm (v:=vi ((ix a1 v4).From)) rfl c3 rfl)) (fun hg=>(.cons hg .nil)) ?_
  refine gd (decide (0 < v4)) (eS 7 eItem a1) 42 (.mov 1) 36 true rfl (fun hg=>(.cons rfl .nil)) ?_
  refine gd (decide (0 < v4)) (vi v4) 43 (.mov 7) 36 true rfl (fun hg=>(.cons rfl .nil)) ?_
  refine cK h fun c5 h=>?_
  refine gu (decide (0 < v4)) 44 (.bin .sub false 43 (ki 1)) 36 true rfl (fun hg=>(r_sub rfl rfl (gor c5 hg))) (fun hg=>(.cons hg (.cons rfl .nil))) ?_
  refine cK h fun c6 h=>?_
  refine gu (decide (0 < v4)) 45 (.iaddr 7 42 44) 36 true rfl (fun hg=>(ok_iaddr_m (j:=((v4 : Int) - 1).toNat) rfl rfl (inB_to (gor c6 hg)) (inB_lt (gor c6 hg)))) (fun hg=>(.cons hg (.cons hg .nil))) ?_
  refine gd (decide (0 < v4)) (.fptr 7 (List.map eItem a1) (((v4 : Int) - 1).toNat) 1) 46 (.faddr 1 45) 36 true rfl (fun hg=>(.cons hg .nil)) ?_
  refine cK h fun c7 h=>?_
  refine gu (decide (0 < v4)) 47 (.load false 1 46) 36 true rfl (fun hg=>(ok_load_fm (v:=vi ((ix a1 (((v4 : Int) - 1).toNat)).From)) rfl (gor c7 hg) rfl)) (fun hg=>(.cons hg .nil)) ?_
  refine gd (decide (0 < v4)) (vb (decide (((ix a1 v4).From) < ((ix a1 (((v4 : Int) - 1).toNat)).From)))) 48 (.bin .lss false 41 47) 36 true rfl (fun hg=>(.cons hg (.cons hg .nil))) ?_
  refine RegD.op (OpD.and (cy (I0 49 (.pick 36 48 (.c (.p (.bool false)))))) rfl rfl (by first | exact hokA1 | exact hokA0 | simp)) ?_
  refine dfi (ob':=[some (.row 6 [.agg [eS 1 vt a0.Places,eS 1 vt a0.Technicians,eS 4 eRoad a0.Roads,eS 3 eGrand a0.Grands,vi a0.Change,vi a0.Lasts]])]) (.d4 (.d4 (.d4 (.d4 (.k3 (.i 49 (vb ((decide (0 < v4)) && (decide (((ix a1 v4).From) < ((ix a1 (((v4 : Int) - 1).toNat)).From))))) .n)))))) [0] (.cons rfl .nil) ?_
  refine tc h (fun c8 h=>?_) (fun c8 h=>?_)
  ·refine sk (.i 4 (vi v4) (.i 5 (vi 9) .n)) ?_
   refine q3 ?_
   have h:=si h
   subst h
   exact DoneS.ret (S' := ⟨[(4, vi v4), (5, vi 9)], []⟩) (sc [] (by decide) (by kernel_rfl) ObRen.nil rfl rfl) rfl rfl
  refine q2 ?_
  refine q1 ?_
  refine ts (.k3 .n) ?_
  refine TriE.draw (by kernel_rfl) ?_
  refine dk 3 (.i 53 (vi v4) (.i 52 (eS 7 eItem a1) (.i 51 (.agg [eS 1 vt a0.Places,eS 1 vt a0.Technicians,eS 4 eRoad a0.Roads,eS 3 eGrand a0.Grands,vi a0.Change,vi a0.Lasts]) .a))) ?_
  refine cK h fun c9 h=>?_
  refine dp 54 (.slc 7 52 none (some 53) none) (ok_slc_hi (j:=v4) rfl rfl rfl c9) ?_
  refine dk 2 (.i 56 (vi v4) (.i 55 (eS 7 eItem a1) .a)) ?_
  refine dp 57 (.iaddr 7 55 56) (ok_iaddr_m (j:=v4) rfl rfl rfl c3) ?_
  refine dp 58 (.load true 7 57) (ok_load_fm (v:=.agg [vi ((ix a1 v4).Kind),vi ((ix a1 v4).From),vi ((ix a1 v4).To),vt ((ix a1 v4).Grand),vt ((ix a1 v4).Place),vt ((ix a1 v4).Who),vi ((ix a1 v4).Deposit)]) rfl c3 rfl) ?_
  refine bK h fun y6 hy6 h=>?_
  refine dc (vi y6) 0 59 [51,54,58] (agrafferef09_breaks_ok n a0 (List.take v4 a1) (ix a1 v4) y6 hy6) [] rfl ObsRen.nil ObsRen.nil rfl (.inr ⟨rfl,rfl⟩) ?_
  refine dk 1 (.i 9 (vi y6) .a) ?_
  refine dfi (ob':=[some (.row 6 [.agg [eS 1 vt a0.Places,eS 1 vt a0.Technicians,eS 4 eRoad a0.Roads,eS 3 eGrand a0.Grands,vi a0.Change,vi a0.Lasts]])]) (.d4 (.d4 (.d2 (.k3 (.i 9 (vi y6) .n))))) [0] (.cons rfl .nil) ?_
  refine sk (.k4 (.i 61 (vb (y6 != (0 : Int))) .n)) ?_
  refine tc h (fun c10 h=>?_) (fun c10 h=>?_)
  ·refine sk (.i 4 (vi v4) (.i 5 (vi y6) .n)) ?_
   refine q3 ?_
   have h:=si h
   subst h
   exact DoneS.ret (S' := ⟨[(4, vi v4), (5, vi y6)], []⟩) (sc [] (by decide) (by kernel_rfl) ObRen.nil rfl rfl) rfl rfl
  refine q2 ?_
  refine q6 ?_
  refine rk 1 (.k2 (.i 22 (vi v4) .n)) ?_
  refine cK h fun c11 h=>?_
  refine jo 23 (.bin .add false 22 (ki 1)) (r_addn (i:=v4) (j:=1) rfl rfl c11) ?_
  refine jk 1 (.d (.k2 (.i 7 (vi ((v4 + 1 : Nat) : Int)) .n))) ?_
  exact Vs.intro sy ⟨(v4 + 1), rfl, h⟩
 refine q5 ?_
 exact Vs.intro (sc [] (by decide) (by kernel_rfl) ObRen.nil rfl rfl) ⟨(), rfl, h⟩
set_option maxHeartbeats 1000000 in
theorem diary_TunedFor_ok (n : Nat) (a0 : Diary) (a1 : List Item) (a2 : Int) (r : Int × Int) (h : diary_TunedFor n a0 a1 a2 = some r) : FnL Tryz.prog 25 [.agg [eS 1 vt a0.Places, eS 1 vt a0.Technicians, eS 4 eRoad a0.Roads, eS 3 eGrand a0.Grands, vi a0.Change, vi a0.Lasts], eS 7 eItem a1, vi a2] [] (.tup [vi r.2, vi r.1]) [] := by
 dsimp only [diary_TunedFor] at h
 refine fo [6,7] Tryz.call25 Tryz.func25 rfl ?_
 refine sko (.d (.k2 (.i 3 (.ptr 0 0 0) .n))) [some (.row 6 [.agg [eS 1 vt a0.Places,eS 1 vt a0.Technicians,eS 4 eRoad a0.Roads,eS 3 eGrand a0.Grands,vi a0.Change,vi a0.Lasts]])] ?_
 refine TriE.seqK2 h (fun (v4 : Int)=>St.mk [(1,eS 7 eItem a1),(2,vi a2),(8,.p (.pointer none)),(9,vi v4)] []) (fun (t : Int × (List (Int × List (Arr2_Str × Int))))=>match t with | (v6,v7)=>St.mk [(1,eS 7 eItem a1),(2,vi a2),(8,.ptr 1 0 0),(9,vi v6)] [some (.mp (mpE vi (eM eArr2_Str vi) v7)),some (.row 7 [.agg [eS 1 vt a0.Places,eS 1 vt a0.Technicians,eS 4 eRoad a0.Roads,eS 3 eGrand a0.Grands,vi a0.Change,vi a0.Lasts,.map 0]])]) ?_ ?_ ?_
 ·rintro v4 h
  refine q7 ?_
  refine sk (.k4 (.i 16 (vb (v4 != (0 : Int))) .n)) ?_
  refine tc h (fun c1 h=>?_) (fun c1 h=>?_)
  ·refine sk (.i 6 (vi 0) (.i 7 (vi v4) .n)) ?_
   refine q3 ?_
   have h:=si h
   subst h
   exact DoneS.ret Sees.refl rfl rfl
  refine sj ?_
  refine rk 2 (.k3 (.i 21 (vi a2) (.i 22 (eS 7 eItem a1) .n))) ?_
  refine jo 23 (.len 0 22) (ok_len_m rfl) ?_
  refine cK h fun c2 h=>?_
  refine jo 24 (.bin .sub false 23 (ki 1)) (r_sub rfl rfl c2) ?_
  refine bK h fun y5 hy5 h=>?_
  refine jc 25 [21,(ki 0),24] (diary_within_ok n a2 0 ((a1.length : Int) - 1) y5 hy5) ?_
  refine jk 2 (.d3 (.k3 (.i 20 (vb (!((decide (0 ≤ a2)) && (decide (a2 ≤ ((a1.length : Int) - 1)))))) .n))) ?_
  refine tc h (fun c3 h=>?_) (fun c3 h=>?_)
  ·refine sk (.i 6 (vi 0) (.i 7 (vi 6) .n)) ?_
   refine q3 ?_
   have h:=si h
   subst h
   exact DoneS.ret Sees.refl rfl rfl
  refine sj ?_
  refine rk 2 (.k3 (.i 28 (eS 7 eItem a1) (.i 29 (vi a2) .n))) ?_
  refine cK h fun c4 h=>?_
  refine jo 30 (.iaddr 7 28 29) (ok_iaddr_m (j:=a2.toNat) rfl rfl (inB_to c4) (inB_lt c4)) ?_
  refine rk 1 (.d (.k3 (.i 31 (.fptr 7 (List.map eItem a1) a2.toNat 0) .n))) ?_
  refine cK h fun c5 h=>?_
  refine jo 32 (.load false 1 31) (ok_load_fm (v:=vi ((ix a1 a2.toNat).Kind)) rfl c5 rfl) ?_
  refine jk 2 (.d (.k3 (.i 27 (vb (((ix a1 a2.toNat).Kind) != (2 : Int))) .n))) ?_
  refine tc h (fun c6 h=>?_) (fun c6 h=>?_)
  ·refine sk (.i 6 (vi 0) (.i 7 (vi 15) .n)) ?_
   refine q3 ?_
   have h:=si h
   subst h
   exact DoneS.ret Sees.refl rfl rfl
  refine q2 ?_
  refine q1 ?_
  refine ts (.k3 .n) ?_
  refine TriE.draw (by kernel_rfl) ?_
  refine dk 3 (.i 36 (vi a2) (.i 35 (eS 7 eItem a1) (.i 34 (.p (.pointer none)) .a))) ?_
  refine cK h fun c7 h=>?_
  refine dp 37 (.slc 7 35 none (some 36) none) (ok_slc_hi (j:=a2.toNat) rfl rfl (inC_to c7) (inC_le c7)) ?_
  refine dk 2 (.i 39 (vi a2) (.i 38 (eS 7 eItem a1) .a)) ?_
  refine dp 40 (.iaddr 7 38 39) (ok_iaddr_m (j:=a2.toNat) rfl rfl (inB_to c4) (inB_lt c4)) ?_
  refine dp 41 (.load true 7 40) (ok_load_fm (v:=.agg [vi ((ix a1 a2.toNat).Kind),vi ((ix a1 a2.toNat).From),vi ((ix a1 a2.toNat).To),vt ((ix a1 a2.toNat).Grand),vt ((ix a1 a2.toNat).Place),vt ((ix a1 a2.toNat).Who),vi ((ix a1 a2.toNat).Deposit)]) rfl c5 rfl) ?_
  cases h
 ·rintro ⟨v6, v7⟩ h
  refine q7 ?_
  refine sk (.k4 (.i 16 (vb (v6 != (0 : Int))) .n)) ?_
  refine tc h (fun c8 h=>?_) (fun c8 h=>?_)
  ·refine sk (.i 6 (vi 0) (.i 7 (vi v6) .n)) ?_
   refine q3 ?_
   have h:=si h
   subst h
   exact DoneS.ret (S' := ⟨[(6, vi 0), (7, vi v6)], []⟩) (sc [] (by decide) (by kernel_rfl) ObRen.nil rfl rfl) rfl rfl
  refine sj ?_
  refine rk 2 (.k3 (.i 21 (vi a2) (.i 22 (eS 7 eItem a1) .n))) ?_
  refine jo 23 (.len 0 22) (ok_len_m rfl) ?_
  refine cK h fun c9 h=>?_
  refine jo 24 (.bin .sub false 23 (ki 1)) (r_sub rfl rfl c9) ?_
  refine bK h fun y8 hy8 h=>?_
  refine jc 25 [21,(ki 0),24] (diary_within_ok n a2 0 ((a1.length : Int) - 1) y8 hy8) ?_
  refine jk 2 (.d3 (.k3 (.i 20 (vb (!((decide (0 ≤ a2)) && (decide (a2 ≤ ((a1.length : Int) - 1)))))) .n))) ?_
  refine tc h (fun c10 h=>?_) (fun c10 h=>?_)
  ·refine sk (.i 6 (vi 0) (.i 7 (vi 6) .n)) ?_
   refine q3 ?_
   have h:=si h
   subst h
   exact DoneS.ret (S' := ⟨[(6, vi 0), (7, vi 6)], []⟩) (sc [] (by decide) (by kernel_rfl) ObRen.nil rfl rfl) rfl rfl
  refine sj ?_
  refine rk 2 (.k3 (.i 28 (eS 7 eItem a1) (.i 29 (vi a2) .n))) ?_
  refine cK h fun c11 h=>?_
  refine jo 30 (.iaddr 7 28 29) (ok_iaddr_m (j:=a2.toNat) rfl rfl (inB_to c11) (inB_lt c11)) ?_
  refine rk 1 (.d (.k3 (.i 31 (.fptr 7 (List.map eItem a1) a2.toNat 0) .n))) ?_
  refine cK h fun c12 h=>?_
  refine jo 32 (.load false 1 31) (ok_load_fm (v:=vi ((ix a1 a2.toNat).Kind)) rfl c12 rfl) ?_
  refine jk 2 (.d (.k3 (.i 27 (vb (((ix a1 a2.toNat).Kind) != (2 : Int))) .n))) ?_
  refine tc h (fun c13 h=>?_) (fun c13 h=>?_)
  ·refine sk (.i 6 (vi 0) (.i 7 (vi 15) .n)) ?_
   refine q3 ?_
   have h:=si h
   subst h
   exact DoneS.ret (S' := ⟨[(6, vi 0), (7, vi 15)], []⟩) (sc [] (by decide) (by kernel_rfl) ObRen.nil rfl rfl) rfl rfl
  refine q2 ?_
  refine q1 ?_
  refine ts (.k3 .n) ?_
  refine TriE.draw (by kernel_rfl) ?_
  refine dk 3 (.i 36 (vi a2) (.i 35 (eS 7 eItem a1) (.i 34 (.ptr 1 0 0) .a))) ?_
  refine cK h fun c14 h=>?_
  refine dp 37 (.slc 7 35 none (some 36) none) (ok_slc_hi (j:=a2.toNat) rfl rfl (inC_to c14) (inC_le c14)) ?_
  refine dk 2 (.i 39 (vi a2) (.i 38 (eS 7 eItem a1) .a)) ?_
  refine dp 40 (.iaddr 7 38 39) (ok_iaddr_m (j:=a2.toNat) rfl rfl (inB_to c11) (inB_lt c11)) ?_
  refine dp 41 (.load true 7 40) (ok_load_fm (v:=.agg [vi ((ix a1 a2.toNat).Kind),vi ((ix a1 a2.toNat).From),vi ((ix a1 a2.toNat).To),vt ((ix a1 a2.toNat).Grand),vt ((ix a1 a2.toNat).Place),vt ((ix a1 a2.toNat).Who),vi ((ix a1 a2.toNat).Deposit)]) rfl c12 rfl) ?_
  refine bK h fun y9 hy9 h=>?_
  refine dc (vi y9) 0 42 [34,37,41] (diary_plan_tuning_ok n a0.Places a0.Technicians a0.Roads a0.Grands a0.Change a0.Lasts v7 (List.take a2.toNat a1) (ix a1 a2.toNat) y9 hy9) [1,0] rfl (.cons rfl (.same (mp_ren vi_frz (eM_frz eArr2_Str vi) _ _) .nil)) (.cons rfl (.same (mp_ren vi_frz (eM_frz eArr2_Str vi) _ _) .nil)) rfl (.inr ⟨rfl,rfl⟩) ?_
  refine dk 2 (.i 7 (vi 0) (.i 6 (vi y9) .a)) ?_
  refine dfi (.d (.k (.i 7 (vi 0) .n))) [] ObRen.nil ?_
  refine q3 ?_
  have h:=si h
  subst h
  exact DoneS.ret Sees.refl rfl rfl
 intro k1 k2 h
 refine q6 ?_
 refine rk 2 (.k2 (.i 11 (.agg [eS 1 vt a0.Places,eS 1 vt a0.Technicians,eS 4 eRoad a0.Roads,eS 3 eGrand a0.Grands,vi a0.Change,vi a0.Lasts]) (.i 12 (eS 7 eItem a1) .n))) ?_
 refine bK h fun y1 hy1 h=>?_
 rcases y1 with y1 | y1
 ·dsimp only at h
  refine jc 13 [11,12] (diary_read_ok n a0 a1 (Sum.inl y1) hy1) ?_
  refine jk 5 (.d (.k2 (.i 8 (.p (.pointer none)) (.i 9 (vi y1) .n)))) ?_
  exact Vs.intro (sc [] (by decide) (by kernel_rfl) ObRen.nil rfl rfl) (.inl ⟨y1, rfl, h⟩)
 dsimp only at h
 refine jco (.tup [.ptr 2 0 0,vi y1.1]) 13 [11,12] (diary_read_ok n a0 a1 (Sum.inr y1) hy1) [] rfl ObsRen.nil (.same (mp_ren vi_frz (eM_frz eArr2_Str vi) _ _) (.cons rfl .nil)) rfl ?_
 refine jk 5 (.d (.k2 (.i 8 (.ptr 2 0 0) (.i 9 (vi y1.1) .n)))) ?_
 exact Vs.intro (sc [1, 2] (by decide) (by kernel_rfl) (obRen_mp vi_frz (eM_frz eArr2_Str vi) rfl (.cons rfl .nil)) rfl rfl) (.inr ⟨(y1.1, y1.2), rfl, h⟩)
set_option maxHeartbeats 1000000 in
theorem agraffelaw09_DiaryTunings_ok (n : Nat) (a0 : Diary) (a1 : List Item) (a2 : Int) (r : Bool) (h : agraffelaw09_DiaryTunings n a0 a1 a2 = some r) : FnL Tryz.prog 6 [.agg [eS 1 vt a0.Places, eS 1 vt a0.Technicians, eS 4 eRoad a0.Roads, eS 3 eGrand a0.Grands, vi a0.Change, vi a0.Lasts], eS 7 eItem a1, vi a2] [] (vb r) [] := by
 dsimp only [agraffelaw09_DiaryTunings] at h
 refine fo [6] Tryz.call6 Tryz.func6 rfl ?_
 refine sko (.d (.k2 (.i 3 (.ptr 0 0 0) .n))) [some (.row 6 [.agg [eS 1 vt a0.Places,eS 1 vt a0.Technicians,eS 4 eRoad a0.Roads,eS 3 eGrand a0.Grands,vi a0.Change,vi a0.Lasts]])] ?_
 refine q1 ?_
 refine sj ?_
 refine bK h fun y1 hy1 h=>?_
 refine jc 11 [] (agraffelaw09_awake_ok n y1 hy1) ?_
 refine jk 1 (.d (.k3 (.i 12 (vb (!y1)) .n))) ?_
 refine tc h (fun c1 h=>?_) (fun c1 h=>?_)
 ·refine sk (.i 6 (vb false) .n) ?_
  refine q3 ?_
  have h:=si h
  subst h
  exact DoneS.ret (S' := ⟨[(6, vb false)], []⟩) (sc [] (by decide) (by kernel_rfl) ObRen.nil rfl rfl) rfl rfl
 refine q2 ?_
 refine q1 ?_
 refine sj ?_
 refine rk 1 (.k3 (.i 13 (.agg [eS 1 vt a0.Places,eS 1 vt a0.Technicians,eS 4 eRoad a0.Roads,eS 3 eGrand a0.Grands,vi a0.Change,vi a0.Lasts]) .n)) ?_
 refine bK h fun y2 hy2 h=>?_
 refine jc 14 [13] (agraffelaw09_Light_ok n a0 y2 hy2) ?_
 refine rk 2 (.d (.k3 (.i 16 (vb (!y2)) .n))) ?_
 refine gj (eS 7 eItem a1) 17 (.mov 1) 16 false rfl ?_
 refine bK h fun y3 hy3 h=>?_
 refine gc 18 [17] 16 false rfl (fun hg=>agraffelaw09_Few_ok n a1 y3 (gcall_some hy3 hg)) (fun hg=>(.cons rfl (.cons hg .nil))) (fun hg=>by kernel_rfl) ?_
 refine gk (vb (!y3)) 19 (.un .not 18) 16 false rfl (fun hg=>(.cons hg .nil)) ?_
 refine po 20 16 19 rfl rfl ?_
 refine jf (.d4 (.k3 (.i 20 (vb ((!y2) || (!y3))) .n))) ?_
 refine tc h (fun c2 h=>?_) (fun c2 h=>?_)
 ·refine sk (.i 6 (vb true) .n) ?_
  refine q3 ?_
  have h:=si h
  subst h
  exact DoneS.ret (S' := ⟨[(6, vb true)], []⟩) (sc [] (by decide) (by kernel_rfl) ObRen.nil rfl rfl) rfl rfl
 refine q2 ?_
 refine sj ?_
 refine rk 1 (.k3 (.i 22 (.agg [eS 1 vt a0.Places,eS 1 vt a0.Technicians,eS 4 eRoad a0.Roads,eS 3 eGrand a0.Grands,vi a0.Change,vi a0.Lasts]) .n)) ?_
 refine bK h fun y4 hy4 h=>?_
 refine jc 23 [22] (agraffelaw09_town_ok n a0 y4 hy4) ?_
 refine rk 1 (.d (.k3 (.i 23 (.agg [eS 1 vt a0.Places,eS 1 vt a0.Technicians,eS 4 eRoad a0.Roads,eS 3 eGrand a0.Grands,vi a0.Change,vi a0.Lasts]) (.i 24 (eS 7 eItem a1) .n)))) ?_
 refine bK h fun y5 hy5 h=>?_
 refine jco (.own 1 0 a1.length) 25 [24] (agraffelaw09_items_ok n a1 y5 hy5) [] rfl ObsRen.nil (.same (row_ren eItem_frz _ _ _) .nil) rfl ?_
 refine rk 1 (.d (.k4 (.i 25 (.own 1 0 a1.length) (.i 26 (vi a2) .n)))) ?_
 refine RegJ.sees (Sees.freeze 1 (fr':=[(1,eS 7 eItem a1),(2,vi a2),(3,.ptr 0 0 0),(23,.agg [eS 1 vt a0.Places,eS 1 vt a0.Technicians,eS 4 eRoad a0.Roads,eS 3 eGrand a0.Grands,vi a0.Change,vi a0.Lasts]),(25,eS 7 eItem a1),(26,vi a2)]) (ob':=[some (.row 6 [.agg [eS 1 vt a0.Places,eS 1 vt a0.Technicians,eS 4 eRoad a0.Roads,eS 3 eGrand a0.Grands,vi a0.Change,vi a0.Lasts]]),none]) rfl (frz_row eItem_frzE _) (.cons (.refl _) (.cons (.refl _) (.cons (.refl _) (.cons (.refl _) (.cons (frz_full rfl) (.cons (.refl _) .nil)))))) rfl) ?_
 refine bK h fun y6 hy6 h=>?_
 refine jc 27 [23,25,26] (diary_TunedFor_ok n a0 a1 a2 y6 hy6) ?_
 refine jk 5 (.d (.k3 (.i 7 (vi y6.2) (.i 8 (vi y6.1) .n)))) ?_
 refine sj ?_
 refine rk 2 (.k4 (.k (.i 31 (.agg [eS 1 vt a0.Places,eS 1 vt a0.Technicians,eS 4 eRoad a0.Roads,eS 3 eGrand a0.Grands,vi a0.Change,vi a0.Lasts]) (.i 32 (eS 7 eItem a1) .n)))) ?_
 refine bK h fun y7 hy7 h=>?_
 refine jc 33 [31,32] (agrafferef09_Accept_ok n a0 a1 y7 hy7) ?_
 refine jk 5 (.d (.k4 (.k (.i 10 (vi y7.1) .n)))) ?_
 refine TriE.seqK h (fun (v9 : Int)=>St.mk [(1,eS 7 eItem a1),(2,vi a2),(3,.ptr 0 0 0),(7,vi y6.2),(8,vi y6.1),(10,vi v9)] [some (.row 6 [.agg [eS 1 vt a0.Places,eS 1 vt a0.Technicians,eS 4 eRoad a0.Roads,eS 3 eGrand a0.Grands,vi a0.Change,vi a0.Lasts]])]) ?_ ?_
 ·rintro v9 h
  refine TriE.seqK h (fun (v10 : Int)=>St.mk [(1,eS 7 eItem a1),(2,vi a2),(3,.ptr 0 0 0),(7,vi y6.2),(8,vi y6.1),(10,vi v10)] [some (.row 6 [.agg [eS 1 vt a0.Places,eS 1 vt a0.Technicians,eS 4 eRoad a0.Roads,eS 3 eGrand a0.Grands,vi a0.Change,vi a0.Lasts]])]) ?_ ?_
  ·rintro v10 h
   refine q1 ?_
   refine sk (.k4 (.k2 (.i 57 (vb (v10 != (0 : Int))) .n))) ?_
   refine tc h (fun c8 h=>?_) (fun c8 h=>?_)
   ·refine sj ?_
    refine rk 4 (.d3 (.k (.i 61 (vb (y6.1 == v10)) .n))) ?_
    refine gj (vi y6.2) 62 (.mov 7) 61 true rfl ?_
    refine gk (vb (y6.2 == (0 : Int))) 63 (.bin .eql false 62 (ki 0)) 61 true rfl (fun hg=>(.cons hg (.cons rfl .nil))) ?_
    refine pa 64 61 63 rfl rfl ?_
    refine jk 1 (.i 6 (vb ((y6.1 == v10) && (y6.2 == (0 : Int)))) .n) ?_
    refine q3 ?_
    have h:=si h
    subst h
    exact DoneS.ret (S' := ⟨[(6, vb ((y6.1 == v10) && (y6.2 == (0 : Int))))], []⟩) (sc [] (by decide) (by kernel_rfl) ObRen.nil rfl rfl) rfl rfl
   refine q2 ?_
   refine q1 ?_
   refine ts (.k4 (.k .n)) ?_
   refine TriE.draw (by kernel_rfl) ?_
   refine dk 3 (.i 67 (vb (y6.1 == (0 : Int))) (.i 66 (vb (y6.1 == (0 : Int))) (.i 65 (vi y6.1) .a))) ?_
   refine gd (y6.1 == (0 : Int)) (vi y6.2) 68 (.mov 7) 67 true rfl (fun hg=>(.cons rfl .nil)) ?_
   refine gd (y6.1 == (0 : Int)) (.agg [eS 1 vt a0.Places,eS 1 vt a0.Technicians,eS 4 eRoad a0.Roads,eS 3 eGrand a0.Grands,vi a0.Change,vi a0.Lasts]) 69 (.load true 6 3) 67 true rfl (fun hg=>(.cons rfl .nil)) ?_
   refine gd (y6.1 == (0 : Int)) (eS 7 eItem a1) 70 (.mov 1) 67 true rfl (fun hg=>(.cons rfl .nil)) ?_
   refine gd (y6.1 == (0 : Int)) (vi a2) 71 (.mov 2) 67 true rfl (fun hg=>(.cons rfl .nil)) ?_
   refine cK h fun c9 h=>?_
   refine gu (y6.1 == (0 : Int)) 72 (.slc 7 70 none (some 71) none) 67 true rfl (fun hg=>(ok_slc_hi (j:=a2.toNat) rfl rfl (inC_to (gor c9 hg)) (inC_le (gor c9 hg)))) (fun hg=>(.cons hg (.cons hg .nil))) ?_
   refine gd (y6.1 == (0 : Int)) (eS 7 eItem a1) 73 (.mov 1) 67 true rfl (fun hg=>(.cons rfl .nil)) ?_
   refine gd (y6.1 == (0 : Int)) (vi a2) 74 (.mov 2) 67 true rfl (fun hg=>(.cons rfl .nil)) ?_
   refine cK h fun c10 h=>?_
   refine gu (y6.1 == (0 : Int)) 75 (.iaddr 7 73 74) 67 true rfl (fun hg=>(ok_iaddr_m (j:=a2.toNat) rfl rfl (inB_to (gor c10 hg)) (inB_lt (gor c10 hg)))) (fun hg=>(.cons hg (.cons hg .nil))) ?_
   refine cK h fun c11 h=>?_
   refine gu (y6.1 == (0 : Int)) 76 (.load true 7 75) 67 true rfl (fun hg=>(ok_load_fm (v:=.agg [vi ((ix a1 a2.toNat).Kind),vi ((ix a1 a2.toNat).From),vi ((ix a1 a2.toNat).To),vt ((ix a1 a2.toNat).Grand),vt ((ix a1 a2.toNat).Place),vt ((ix a1 a2.toNat).Who),vi ((ix a1 a2.toNat).Deposit)]) rfl (gor c11 hg) rfl)) (fun hg=>(.cons hg .nil)) ?_
   refine bK h fun y11 hy11 h=>?_
   refine du (y6.1 == (0 : Int)) 77 [69,72,76] 67 true rfl (fun hg=>agrafferef09_Rests_ok n a0 (List.take a2.toNat a1) (ix a1 a2.toNat) y11 (gcall_some hy11 hg)) (fun hg=>(.cons rfl (.cons hg (.cons hg (.cons hg .nil))))) (fun hg=>by kernel_rfl) ?_
   refine gd (y6.1 == (0 : Int)) (vb (y6.2 == y11)) 78 (.bin .eql false 68 77) 67 true rfl (fun hg=>(.cons hg (.cons hg .nil))) ?_
   refine RegD.op (OpD.and (cy (I0 79 (.pick 67 78 (.c (.p (.bool false)))))) rfl rfl (by first | exact hokA1 | exact hokA0 | simp)) ?_
   refine dk 1 (.i 6 (vb ((y6.1 == (0 : Int)) && (y6.2 == y11))) (.i 79 (vb ((y6.1 == (0 : Int)) && (y6.2 == y11))) (.d .a))) ?_
   refine dfi (.k .n) [] ObRen.nil ?_
   refine q3 ?_
   have h:=si h
   subst h
   exact DoneS.ret Sees.refl rfl rfl
  intro k2 h
  refine sj ?_
  refine rk 3 (.k4 (.k2 (.i 48 (vb (v9 == (0 : Int))) .n))) ?_
  refine gj (eS 7 eItem a1) 49 (.mov 1) 48 true rfl ?_
  refine gj (vi a2) 50 (.mov 2) 48 true rfl ?_
  refine cK h fun c5 h=>?_
  refine gv 51 (.iaddr 7 49 50) 48 true rfl (fun hg=>(ok_iaddr_m (j:=a2.toNat) rfl rfl (inB_to (gor c5 hg)) (inB_lt (gor c5 hg)))) (fun hg=>(.cons hg (.cons hg .nil))) ?_
  refine gk (.fptr 7 (List.map eItem a1) a2.toNat 0) 52 (.faddr 0 51) 48 true rfl (fun hg=>(.cons hg .nil)) ?_
  refine cK h fun c6 h=>?_
  refine gv 53 (.load false 1 52) 48 true rfl (fun hg=>(ok_load_fm (v:=vi ((ix a1 a2.toNat).Kind)) rfl (gor c6 hg) rfl)) (fun hg=>(.cons hg .nil)) ?_
  refine gk (vb (((ix a1 a2.toNat).Kind) != (2 : Int))) 54 (.bin .neq false 53 (ki 2)) 48 true rfl (fun hg=>(.cons hg (.cons rfl .nil))) ?_
  refine pa 55 48 54 rfl rfl ?_
  refine jf (.d4 (.d3 (.k4 (.k2 (.i 55 (vb ((v9 == (0 : Int)) && (((ix a1 a2.toNat).Kind) != (2 : Int)))) .n))))) ?_
  refine tc h (fun c7 h=>?_) (fun c7 h=>?_)
  ·refine tk (.k4 (.k (.i 10 (vi 15) .n))) ?_
   exact Vs.intro Sees.refl ⟨15, rfl, h⟩
  refine q2 ?_
  exact Vs.intro sy ⟨v9, rfl, h⟩
 intro k1 h
 refine sj ?_
 refine rk 3 (.k4 (.k2 (.i 38 (vb (y7.1 == (0 : Int))) .n))) ?_
 refine gj (vi a2) 39 (.mov 2) 38 true rfl ?_
 refine gj (eS 7 eItem a1) 40 (.mov 1) 38 true rfl ?_
 refine gv 41 (.len 0 40) 38 true rfl (fun hg=>(ok_len_m rfl)) (fun hg=>(.cons hg .nil)) ?_
 refine cK h fun c3 h=>?_
 refine gv 42 (.bin .sub false 41 (ki 1)) 38 true rfl (fun hg=>(r_sub rfl rfl (gor c3 hg))) (fun hg=>(.cons hg (.cons rfl .nil))) ?_
 refine bK h fun y8 hy8 h=>?_
 refine gc 43 [39,(ki 0),42] 38 true rfl (fun hg=>agraffebase_Within_ok n a2 0 ((a1.length : Int) - 1) y8 (gcall_some hy8 hg)) (fun hg=>(.cons rfl (.cons hg (.cons rfl (.cons hg .nil))))) (fun hg=>by kernel_rfl) ?_
 refine gk (vb (!((decide (0 ≤ a2)) && (decide (a2 ≤ ((a1.length : Int) - 1)))))) 44 (.un .not 43) 38 true rfl (fun hg=>(.cons hg .nil)) ?_
 refine pa 45 38 44 rfl rfl ?_
 refine jf (.d4 (.d3 (.k4 (.k2 (.i 45 (vb ((y7.1 == (0 : Int)) && (!((decide (0 ≤ a2)) && (decide (a2 ≤ ((a1.length : Int) - 1))))))) .n))))) ?_
 refine tc h (fun c4 h=>?_) (fun c4 h=>?_)
 ·refine tk (.k4 (.k (.i 10 (vi 6) .n))) ?_
  exact Vs.intro (sc [0] (by decide) (by kernel_rfl) (.cons rfl .nil) rfl rfl) ⟨6, rfl, h⟩
 refine q2 ?_
 exact Vs.intro (sc [0] (by decide) (by kernel_rfl) (.cons rfl .nil) rfl rfl) ⟨y7.1, rfl, h⟩
end Go.Proofs.YtpmkdgnhllhaeaaGreat.As
