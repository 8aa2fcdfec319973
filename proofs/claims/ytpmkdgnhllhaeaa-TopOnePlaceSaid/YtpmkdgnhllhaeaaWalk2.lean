/- The code computes what the plain functions say, part 2: no condition. -/
import Derived.Test.YtpmkdgnhllhaeaaWalk1
namespace Go.Proofs.Ytpmkdgnhllhaeaa.As
open Go Go.Proofs
set_option maxRecDepth 4000
set_option maxHeartbeats 1000000 in
theorem agraffetop_TopOnePlace_ok (n : Nat) (a0 : Diary) (a1 : List Item) (r : Bool) (h : agraffetop_TopOnePlace n a0 a1 = some r) : FnL Try.prog 11 [.agg [eS 1 vt a0.Places, eS 1 vt a0.Technicians, eS 4 eRoad a0.Roads, eS 3 eGrand a0.Grands, vi a0.Change, vi a0.Lasts], eS 7 eItem a1] [] (vb r) [] := by
 dsimp only [agraffetop_TopOnePlace] at h
 refine fo [4] Try.call11 Try.func11 rfl ?_
 refine sko (.d (.k (.i 2 (.ptr 0 0 0) .n))) [some (.row 6 [.agg [eS 1 vt a0.Places, eS 1 vt a0.Technicians, eS 4 eRoad a0.Roads, eS 3 eGrand a0.Grands, vi a0.Change, vi a0.Lasts]])] ?_
 refine q1 ?_
 refine sj ?_
 refine bK h fun y1 hy1 h => ?_
 refine jc 18 [] (agraffetop_written_ok n y1 hy1) ?_
 refine jk 1 (.d (.k2 (.i 19 (vb (!y1)) .n))) ?_
 refine tc h (fun c1 h => ?_) (fun c1 h => ?_)
 ·refine sk (.i 4 (vb false) .n) ?_
  refine q3 ?_
  have h := si h
  subst h
  exact DoneS.ret (S' := ⟨[(4, vb false)], []⟩) (sc [] (by decide) (by kernel_rfl) ObRen.nil rfl rfl) rfl rfl
 refine q2 ?_
 refine q1 ?_
 refine sj ?_
 refine rk 1 (.k2 (.i 20 (.agg [eS 1 vt a0.Places, eS 1 vt a0.Technicians, eS 4 eRoad a0.Roads, eS 3 eGrand a0.Grands, vi a0.Change, vi a0.Lasts]) .n)) ?_
 refine bK h fun y2 hy2 h => ?_
 refine jc 21 [20] (agraffelaw09_Light_ok n a0 y2 hy2) ?_
 refine rk 2 (.d (.k2 (.i 23 (vb (!y2)) .n))) ?_
 refine gj (eS 7 eItem a1) 24 (.mov 1) 23 false rfl ?_
 refine bK h fun y3 hy3 h => ?_
 refine gc 25 [24] 23 false rfl (fun hg => agraffelaw09_Few_ok n a1 y3 (gcall_some hy3 hg)) (fun hg => (.cons rfl (.cons hg .nil))) (fun hg => by kernel_rfl) ?_
 refine gk (vb (!y3)) 26 (.un .not 25) 23 false rfl (fun hg => (.cons hg .nil)) ?_
 refine po 27 23 26 rfl rfl ?_
 refine jf (.d4 (.k2 (.i 27 (vb ((!y2) || (!y3))) .n))) ?_
 refine tc h (fun c2 h => ?_) (fun c2 h => ?_)
 ·refine sk (.i 4 (vb true) .n) ?_
  refine q3 ?_
  have h := si h
  subst h
  exact DoneS.ret (S' := ⟨[(4, vb true)], []⟩) (sc [] (by decide) (by kernel_rfl) ObRen.nil rfl rfl) rfl rfl
 refine q2 ?_
 refine q1 ?_
 refine sj ?_
 refine rk 2 (.k2 (.i 29 (.agg [eS 1 vt a0.Places, eS 1 vt a0.Technicians, eS 4 eRoad a0.Roads, eS 3 eGrand a0.Grands, vi a0.Change, vi a0.Lasts]) (.i 30 (eS 7 eItem a1) .n))) ?_
 refine bK h fun y4 hy4 h => ?_
 refine jc 31 [29, 30] (diary_Accept_ok n a0 a1 y4 hy4) ?_
 refine jk 5 (.d (.k2 (.i 6 (vi y4.1) .n))) ?_
 refine sk (.k2 (.i 35 (vb (y4.1 != (0 : Int))) .n)) ?_
 refine tc h (fun c3 h => ?_) (fun c3 h => ?_)
 ·refine sk (.i 4 (vb true) .n) ?_
  refine q3 ?_
  have h := si h
  subst h
  exact DoneS.ret (S' := ⟨[(4, vb true)], []⟩) (sc [] (by decide) (by kernel_rfl) ObRen.nil rfl rfl) rfl rfl
 refine q2 ?_
 refine q1 ?_
 refine sj ?_
 refine rk 1 (.k2 (.i 36 (eS 7 eItem a1) .n)) ?_
 refine jo 37 (.len 0 36) (ok_len_m rfl) ?_
 refine jo 38 (.bin .gtr false 37 (ki 10)) (n_gtr (i := a1.length) (j := 10) rfl rfl) ?_
 refine jf (.d2 (.k2 (.i 38 (vb (decide (10 < a1.length))) .n))) ?_
 refine tc h (fun c4 h => ?_) (fun c4 h => ?_)
 ·refine sk (.i 4 (vb false) .n) ?_
  refine q3 ?_
  have h := si h
  subst h
  exact DoneS.ret (S' := ⟨[(4, vb false)], []⟩) (sc [] (by decide) (by kernel_rfl) ObRen.nil rfl rfl) rfl rfl
 refine q2 ?_
 refine TriE.seqK h (fun (_ : Unit) => St.mk [] []) ?_ ?_
 ·rintro ⟨⟩ h
  refine sk (.i 4 (vb true) .n) ?_
  refine q3 ?_
  have h := si h
  subst h
  exact DoneS.ret Sees.refl rfl rfl
 intro k2 h
 refine sk (.k2 (.i 7 (vi 0) .n)) ?_
 refine q4 ?_
 refine ts (.k2 (.i 7 (vi 0) .n)) ?_
 refine TriE.loopN h (fun (v10 : Nat) => St.mk [(1, eS 7 eItem a1), (2, .ptr 0 0 0), (7, vi v10)] [some (.row 6 [.agg [eS 1 vt a0.Places, eS 1 vt a0.Technicians, eS 4 eRoad a0.Roads, eS 3 eGrand a0.Grands, vi a0.Change, vi a0.Lasts]])]) rfl ?_
 clear h
 rintro back v10 h
 dsimp only [agraffetop_TopOnePlace_L1] at h
 refine q1 ?_
 refine sj ?_
 refine rk 2 (.k3 (.i 39 (vi v10) (.i 40 (eS 7 eItem a1) .n))) ?_
 refine jo 41 (.len 0 40) (ok_len_m rfl) ?_
 refine jo 42 (.bin .lss false 39 41) (n_lss (i := v10) (j := a1.length) rfl rfl) ?_
 refine jf (.d2 (.k3 (.i 42 (vb (decide (v10 < a1.length))) .n))) ?_
 refine tc h (fun c5 h => ?_) (fun c5 h => ?_)
 ·refine q2 ?_
  refine TriE.seqK h (fun (_ : Unit) => St.mk [(1, eS 7 eItem a1), (2, .ptr 0 0 0), (7, vi v10)] [some (.row 6 [.agg [eS 1 vt a0.Places, eS 1 vt a0.Technicians, eS 4 eRoad a0.Roads, eS 3 eGrand a0.Grands, vi a0.Change, vi a0.Lasts]])]) ?_ ?_
  ·rintro ⟨⟩ h
   refine q6 ?_
   refine rk 1 (.k2 (.i 43 (vi v10) .n)) ?_
   refine cK h fun c16 h => ?_
   refine jo 44 (.bin .add false 43 (ki 1)) (r_addn (i := v10) (j := 1) rfl rfl c16) ?_
   refine jk 1 (.d (.k2 (.i 7 (vi ((v10 + 1 : Nat) : Int)) .n))) ?_
   exact Vs.intro sy ⟨(v10 + 1), rfl, h⟩
  intro k1 h
  refine q4 ?_
  refine sj ?_
  refine rk 2 (.k3 (.i 45 (eS 7 eItem a1) (.i 46 (vi v10) .n))) ?_
  refine jo 47 (.iaddr 7 45 46) (ok_iaddr_m (j := v10) rfl rfl rfl c5) ?_
  refine jo 48 (.load true 7 47) (ok_load_fm (v := .agg [vi ((ix a1 v10).Kind), vi ((ix a1 v10).From), vi ((ix a1 v10).To), vt ((ix a1 v10).Grand), vt ((ix a1 v10).Place), vt ((ix a1 v10).Who), vi ((ix a1 v10).Deposit)]) rfl c5 rfl) ?_
  refine jko 2 (.d2 (.k3 (.i 8 (.ptr 1 0 0) .n))) [some (.row 6 [.agg [eS 1 vt a0.Places, eS 1 vt a0.Technicians, eS 4 eRoad a0.Roads, eS 3 eGrand a0.Grands, vi a0.Change, vi a0.Lasts]]), some (.row 7 [.agg [vi ((ix a1 v10).Kind), vi ((ix a1 v10).From), vi ((ix a1 v10).To), vt ((ix a1 v10).Grand), vt ((ix a1 v10).Place), vt ((ix a1 v10).Who), vi ((ix a1 v10).Deposit)]])] ?_
  refine sj ?_
  refine rk 7 (.k4 (.i 50 (.agg [eS 1 vt a0.Places, eS 1 vt a0.Technicians, eS 4 eRoad a0.Roads, eS 3 eGrand a0.Grands, vi a0.Change, vi a0.Lasts]) (.i 51 (eS 7 eItem a1) (.i 56 (.agg [vt ((ix a1 v10).Grand), vi ((ix a1 v10).From)]) .n)))) ?_
  refine bK h fun y11 hy11 h => ?_
  refine jc 57 [50, 51, 56] (diary_PlaceOf_ok n a0 a1 (Moment.mk ((ix a1 v10).Grand) ((ix a1 v10).From)) y11 hy11) ?_
  refine jk 5 (.d (.k4 (.i 9 (vt y11.2) (.i 10 (vi y11.1) .n)))) ?_
  refine sj ?_
  refine rk 7 (.k4 (.k2 (.i 61 (.agg [eS 1 vt a0.Places, eS 1 vt a0.Technicians, eS 4 eRoad a0.Roads, eS 3 eGrand a0.Grands, vi a0.Change, vi a0.Lasts]) (.i 62 (eS 7 eItem a1) (.i 67 (.agg [vt ((ix a1 v10).Grand), vi ((ix a1 v10).To)]) .n))))) ?_
  refine bK h fun y12 hy12 h => ?_
  refine jc 68 [61, 62, 67] (diary_PlaceOf_ok n a0 a1 (Moment.mk ((ix a1 v10).Grand) ((ix a1 v10).To)) y12 hy12) ?_
  refine jk 5 (.d (.k4 (.k2 (.i 11 (vt y12.2) (.i 12 (vi y12.1) .n))))) ?_
  refine q1 ?_
  refine sj ?_
  refine rk 3 (.k4 (.k (.d (.k2 (.i 73 (vb (y11.1 != (0 : Int))) .n))))) ?_
  refine gj (vi y12.1) 74 (.mov 12) 73 false rfl ?_
  refine gk (vb (y12.1 != (0 : Int))) 75 (.bin .neq false 74 (ki 0)) 73 false rfl (fun hg => (.cons hg (.cons rfl .nil))) ?_
  refine po 76 73 75 rfl rfl ?_
  refine jf (.d3 (.k4 (.k2 (.i 76 (vb ((y11.1 != (0 : Int)) || (y12.1 != (0 : Int)))) .n)))) ?_
  refine tc h (fun c6 h => ?_) (fun c6 h => ?_)
  ·refine sk (.i 4 (vb false) .n) ?_
   refine q3 ?_
   have h := si h
   subst h
   exact DoneS.ret (S' := ⟨[(4, vb false)], []⟩) (sc [] (by decide) (by kernel_rfl) ObRen.nil rfl rfl) rfl rfl
  refine q2 ?_
  refine q1 ?_
  refine sk (.k4 (.k2 (.i 79 (vb (((ix a1 v10).Kind) != (1 : Int))) .n))) ?_
  refine tc h (fun c7 h => ?_) (fun c7 h => ?_)
  ·refine q1 ?_
   refine sk (.k3 (.i 83 (vb (!(y11.2 == ((ix a1 v10).Place)))) .n)) ?_
   refine tc h (fun c8 h => ?_) (fun c8 h => ?_)
   ·refine sk (.i 4 (vb false) .n) ?_
    refine q3 ?_
    have h := si h
    subst h
    exact DoneS.ret (S' := ⟨[(4, vb false)], []⟩) (sc [] (by decide) (by kernel_rfl) ObRen.nil rfl rfl) rfl rfl
   refine q2 ?_
   refine q5 ?_
   exact Vs.intro (sc [0] (by decide) (by kernel_rfl) (.cons rfl .nil) rfl rfl) ⟨(), rfl, h⟩
  refine q2 ?_
  refine q1 ?_
  refine sk (.k4 (.d (.k (.i 85 (vb (!(y11.2 == ([] : Str)))) .n)))) ?_
  refine tc h (fun c9 h => ?_) (fun c9 h => ?_)
  ·refine sk (.i 4 (vb false) .n) ?_
   refine q3 ?_
   have h := si h
   subst h
   exact DoneS.ret (S' := ⟨[(4, vb false)], []⟩) (sc [] (by decide) (by kernel_rfl) ObRen.nil rfl rfl) rfl rfl
  refine q2 ?_
  refine q1 ?_
  refine sj ?_
  refine rk 5 (.k4 (.k (.i 90 (vb (!(y12.2 == ((ix a1 v10).Place)))) .n))) ?_
  refine gj (vt y12.2) 91 (.mov 11) 90 true rfl ?_
  refine gk (vb (!(y12.2 == ([] : Str)))) 92 (.bin .neq false 91 (.c (.p (.string ⟨#[]⟩)))) 90 true rfl (fun hg => (.cons hg (.cons rfl .nil))) ?_
  refine gk (vb (!(y12.2 == ([] : Str)))) 93 (.mov 92) 90 true rfl (fun hg => (.cons hg .nil)) ?_
  refine gj (.ptr 0 0 4) 94 (.faddr 4 2) 93 false rfl ?_
  refine gk (vi a0.Change) 95 (.load false 1 94) 93 false rfl (fun hg => (.cons hg .nil)) ?_
  refine gk (vb (decide ((0 : Int) < a0.Change))) 96 (.bin .gtr false 95 (ki 0)) 93 false rfl (fun hg => (.cons hg (.cons rfl .nil))) ?_
  refine RegJ.op (Op1.org (g := !(y12.2 == ((ix a1 v10).Place))) (cy (IG 97 (.pick 93 (.c (.p (.bool true))) 96) 90 true)) rfl rfl rfl (fun hg => by first | exact hokO2 hg | exact hokO3 hg | exact hokO1 | exact hokO0 | (rw [hg]; simp) | simp_all)) ?_
  refine pa 98 90 97 rfl rfl ?_
  refine jf (.d4 (.d4 (.k4 (.i 98 (vb ((!(y12.2 == ((ix a1 v10).Place))) && ((!(y12.2 == ([] : Str))) || (decide ((0 : Int) < a0.Change))))) .n)))) ?_
  refine tc h (fun c10 h => ?_) (fun c10 h => ?_)
  ·refine sk (.i 4 (vb false) .n) ?_
   refine q3 ?_
   have h := si h
   subst h
   exact DoneS.ret (S' := ⟨[(4, vb false)], []⟩) (sc [] (by decide) (by kernel_rfl) ObRen.nil rfl rfl) rfl rfl
  refine q2 ?_
  refine sj ?_
  refine rk 3 (.k4 (.i 99 (.agg [eS 1 vt a0.Places, eS 1 vt a0.Technicians, eS 4 eRoad a0.Roads, eS 3 eGrand a0.Grands, vi a0.Change, vi a0.Lasts]) (.i 101 (vt ((ix a1 v10).Grand)) .n))) ?_
  refine bK h fun y13 hy13 h => ?_
  refine jc 102 [99, 101] (agrafferef09_GrandAt_ok n a0 ((ix a1 v10).Grand) y13 hy13) ?_
  refine jk 1 (.d (.k4 (.i 13 (vi y13) .n))) ?_
  refine q1 ?_
  refine ts .a ?_
  refine TriE.draw (by kernel_rfl) ?_
  refine dk 3 (.i 105 (vi v10) (.i 104 (eS 7 eItem a1) (.i 103 (.agg [eS 1 vt a0.Places, eS 1 vt a0.Technicians, eS 4 eRoad a0.Roads, eS 3 eGrand a0.Grands, vi a0.Change, vi a0.Lasts]) .a))) ?_
  refine cK h fun c11 h => ?_
  refine dp 106 (.slc 7 104 none (some 105) none) (ok_slc_hi (j := v10) rfl rfl rfl c11) ?_
  refine dk 4 (.i 110 (vi ((ix a1 v10).From)) (.i 109 (.ptr 1 0 1) (.i 108 (vt ((ix a1 v10).Grand)) (.i 107 (.ptr 1 0 3) .a)))) ?_
  refine bK h fun y14 hy14 h => ?_
  refine dc (vt y14) 0 111 [103, 106, 108, 110] (agrafferef09_Stands_ok n a0 (List.take v10 a1) ((ix a1 v10).Grand) ((ix a1 v10).From) y14 hy14) [] rfl ObsRen.nil ObsRen.nil rfl (.inr ⟨rfl, rfl⟩) ?_
  refine dk 1 (.i 14 (vt y14) .a) ?_
  refine dfi (ob' := [some (.row 6 [.agg [eS 1 vt a0.Places, eS 1 vt a0.Technicians, eS 4 eRoad a0.Roads, eS 3 eGrand a0.Grands, vi a0.Change, vi a0.Lasts]]), some (.row 7 [.agg [vi ((ix a1 v10).Kind), vi ((ix a1 v10).From), vi ((ix a1 v10).To), vt ((ix a1 v10).Grand), vt ((ix a1 v10).Place), vt ((ix a1 v10).Who), vi ((ix a1 v10).Deposit)]])]) (.d4 (.d4 (.d2 (.k4 (.k (.i 14 (vt y14) .n)))))) [0, 1] (.cons rfl (.cons rfl .nil)) ?_
  refine q1 ?_
  refine ts .a ?_
  refine TriE.draw (by kernel_rfl) ?_
  refine dk 8 (.i 120 (vi y13) (.i 119 (eS 3 eGrand a0.Grands) (.i 118 (.ptr 0 0 3) (.i 117 (.agg [vt y14, vt ((ix a1 v10).Place)]) (.i 116 (vt ((ix a1 v10).Place)) (.i 115 (.ptr 1 0 4) (.i 114 (vt y14) (.i 113 (.agg [eS 1 vt a0.Places, eS 1 vt a0.Technicians, eS 4 eRoad a0.Roads, eS 3 eGrand a0.Grands, vi a0.Change, vi a0.Lasts]) .a)))))))) ?_
  refine cK h fun c12 h => ?_
  refine dp 121 (.iaddr 3 119 120) (ok_iaddr_m (j := y13.toNat) rfl rfl (inB_to c12) (inB_lt c12)) ?_
  refine dk 1 (.i 122 (.fptr 3 (List.map eGrand a0.Grands) y13.toNat 2) .a) ?_
  refine cK h fun c13 h => ?_
  refine dp 123 (.load false 1 122) (ok_load_fm (v := vi ((ix a0.Grands y13.toNat).Width)) rfl c13 rfl) ?_
  refine bK h fun y15 hy15 h => ?_
  refine dc (.tup [eS 1 vt y15.2.1, vi y15.2.2, vi y15.1]) 0 124 [113, 117, 123] (diary_Route_ok n a0 (Arr2_Str.mk y14 ((ix a1 v10).Place)) ((ix a0.Grands y13.toNat).Width) y15 hy15) [] rfl ObsRen.nil ObsRen.nil rfl (.inr ⟨rfl, rfl⟩) ?_
  refine dk 7 (.i 17 (vi y15.1) (.i 16 (vi y15.2.2) (.i 15 (eS 1 vt y15.2.1) (.i 127 (vi y15.1) (.i 126 (vi y15.2.2) (.i 125 (eS 1 vt y15.2.1) (.i 112 (.tup [eS 1 vt y15.2.1, vi y15.2.2, vi y15.1]) .a))))))) ?_
  refine dfi (ob' := [some (.row 6 [.agg [eS 1 vt a0.Places, eS 1 vt a0.Technicians, eS 4 eRoad a0.Roads, eS 3 eGrand a0.Grands, vi a0.Change, vi a0.Lasts]]), some (.row 7 [.agg [vi ((ix a1 v10).Kind), vi ((ix a1 v10).From), vi ((ix a1 v10).To), vt ((ix a1 v10).Grand), vt ((ix a1 v10).Place), vt ((ix a1 v10).Who), vi ((ix a1 v10).Deposit)]])]) (.d4 (.d4 (.d4 (.d4 (.d3 (.k4 (.i 15 (eS 1 vt y15.2.1) (.i 16 (vi y15.2.2) (.i 17 (vi y15.1) .n))))))))) [0, 1] (.cons rfl (.cons rfl .nil)) ?_
  refine sj ?_
  refine rk 3 (.k4 (.k2 (.i 130 (vb (y15.1 != (0 : Int))) .n))) ?_
  refine gj (vi y15.2.2) 131 (.mov 16) 130 false rfl ?_
  refine gj (.ptr 1 0 2) 132 (.faddr 2 8) 130 false rfl ?_
  refine gk (vi ((ix a1 v10).To)) 133 (.load false 1 132) 130 false rfl (fun hg => (.cons hg .nil)) ?_
  refine gj (.ptr 1 0 1) 134 (.faddr 1 8) 130 false rfl ?_
  refine gk (vi ((ix a1 v10).From)) 135 (.load false 1 134) 130 false rfl (fun hg => (.cons hg .nil)) ?_
  refine cK h fun c14 h => ?_
  refine gv 136 (.bin .sub false 133 135) 130 false rfl (fun hg => (r_sub rfl rfl (gor c14 hg))) (fun hg => (.cons hg (.cons hg .nil))) ?_
  refine gk (vb (decide ((((ix a1 v10).To) - ((ix a1 v10).From)) < y15.2.2))) 137 (.bin .gtr false 131 136) 130 false rfl (fun hg => (.cons hg (.cons hg .nil))) ?_
  refine po 138 130 137 rfl rfl ?_
  refine rk 1 (.d4 (.d4 (.k3 (.d (.k (.i 131 (.cond (!(y15.1 != (0 : Int))) (vi y15.2.2)) (.i 132 (.cond (!(y15.1 != (0 : Int))) (.ptr 1 0 2)) (.i 133 (.cond (!(y15.1 != (0 : Int))) (vi ((ix a1 v10).To))) (.i 134 (.cond (!(y15.1 != (0 : Int))) (.ptr 1 0 1)) (.i 135 (.cond (!(y15.1 != (0 : Int))) (vi ((ix a1 v10).From))) (.i 136 (.cond (!(y15.1 != (0 : Int))) (vi (((ix a1 v10).To) - ((ix a1 v10).From)))) (.i 137 (.cond (!(y15.1 != (0 : Int))) (vb (decide ((((ix a1 v10).To) - ((ix a1 v10).From)) < y15.2.2)))) (.i 139 (vb ((y15.1 != (0 : Int)) || (decide ((((ix a1 v10).To) - ((ix a1 v10).From)) < y15.2.2)))) .n))))))))))))) ?_
  refine gj (eS 1 vt y15.2.1) 140 (.mov 15) 139 false rfl ?_
  refine gv 141 (.len 0 140) 139 false rfl (fun hg => (ok_len_m rfl)) (fun hg => (.cons hg .nil)) ?_
  refine gv 142 (.bin .lss false 141 (ki 2)) 139 false rfl (fun hg => (n_lss (i := y15.2.1.length) (j := 2) rfl rfl)) (fun hg => (.cons hg (.cons rfl .nil))) ?_
  refine po 143 139 142 rfl rfl ?_
  refine jf (.d4 (.k3 (.i 143 (vb (((y15.1 != (0 : Int)) || (decide ((((ix a1 v10).To) - ((ix a1 v10).From)) < y15.2.2))) || (decide (y15.2.1.length < 2)))) .n))) ?_
  refine tc h (fun c15 h => ?_) (fun c15 h => ?_)
  ·refine sk (.i 4 (vb false) .n) ?_
   refine q3 ?_
   have h := si h
   subst h
   exact DoneS.ret (S' := ⟨[(4, vb false)], []⟩) (sc [] (by decide) (by kernel_rfl) ObRen.nil rfl rfl) rfl rfl
  refine q2 ?_
  exact Vs.intro (sc [0] (by decide) (by kernel_rfl) (.cons rfl .nil) rfl rfl) ⟨(), rfl, h⟩
 refine q5 ?_
 exact Vs.intro (sc [] (by decide) (by kernel_rfl) ObRen.nil rfl rfl) ⟨(), rfl, h⟩
end Go.Proofs.Ytpmkdgnhllhaeaa.As
