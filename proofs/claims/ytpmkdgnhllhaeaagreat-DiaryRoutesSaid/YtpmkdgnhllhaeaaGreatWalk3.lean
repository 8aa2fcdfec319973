/- The code computes what the plain functions say, part 3: no condition. -/
import Derived.Test.YtpmkdgnhllhaeaaGreatWalk2
namespace Go.Proofs.YtpmkdgnhllhaeaaGreat.As
open Go Go.Proofs
set_option maxRecDepth 4000
set_option maxHeartbeats 1000000 in
theorem diary_CheckRoute_ok (n : Nat) (a0 : Diary) (a1 : List Str) (a2 : Int) (r : Int × Int) (h : diary_CheckRoute n a0 a1 a2 = some r) : FnL Tryz.prog 39 [.agg [eS 1 vt a0.Places, eS 1 vt a0.Technicians, eS 4 eRoad a0.Roads, eS 3 eGrand a0.Grands, vi a0.Change, vi a0.Lasts], eS 1 vt a1, vi a2] [] (.tup [vi r.2, vi r.1]) [] := by
 dsimp only [diary_CheckRoute] at h
 refine fo [6,7] Tryz.call39 Tryz.func39 rfl ?_
 refine sko (.d (.k2 (.i 3 (.ptr 0 0 0) .n))) [some (.row 6 [.agg [eS 1 vt a0.Places,eS 1 vt a0.Technicians,eS 4 eRoad a0.Roads,eS 3 eGrand a0.Grands,vi a0.Change,vi a0.Lasts]])] ?_
 refine TriE.seqK2 h (fun (v4 : Int)=>St.mk [(1,eS 1 vt a1),(2,vi a2),(8,.ptr 0 0 0),(9,vi v4)] [some (.row 1 [.p (.pointer none)])]) (fun (_ : Unit)=>St.mk [(1,eS 1 vt a1),(2,vi a2),(8,.ptr 2 0 0),(9,vi 0)] [some (.mp (mpE vi (eM eArr2_Str vi) ([] : List (Int × List (Arr2_Str × Int))))),some (.row 7 [.agg [eS 1 vt a0.Places,eS 1 vt a0.Technicians,eS 4 eRoad a0.Roads,eS 3 eGrand a0.Grands,vi a0.Change,vi a0.Lasts,.map 0]]),some (.row 1 [.ptr 1 0 0])]) ?_ ?_ ?_
 ·rintro v4 h
  refine q7 ?_
  refine sk (.k4 (.i 19 (vb (v4 != (0 : Int))) .n)) ?_
  refine tc h (fun c1 h=>?_) (fun c1 h=>?_)
  ·refine sk (.i 6 (vi 0) (.i 7 (vi v4) .n)) ?_
   refine q3 ?_
   have h:=si h
   subst h
   exact DoneS.ret (S' := ⟨[(6, vi 0), (7, vi v4)], []⟩) (sc [] (by decide) (by kernel_rfl) ObRen.nil rfl rfl) rfl rfl
  refine sj ?_
  refine rk 1 (.k3 (.i 24 (eS 1 vt a1) .n)) ?_
  refine jo 25 (.len 0 24) (ok_len_m rfl) ?_
  refine bK h fun y5 hy5 h=>?_
  refine jc 26 [25,(ki 1),(ki 100)] (diary_within_ok n (a1.length : Int) 1 100 y5 hy5) ?_
  refine jk 2 (.d2 (.k3 (.i 23 (vb (!((decide (1 ≤ (a1.length : Int))) && (decide ((a1.length : Int) ≤ 100))))) .n))) ?_
  refine tc h (fun c2 h=>?_) (fun c2 h=>?_)
  ·refine sk (.i 6 (vi 0) (.i 7 (vi 10) .n)) ?_
   refine q3 ?_
   have h:=si h
   subst h
   exact DoneS.ret (S' := ⟨[(6, vi 0), (7, vi 10)], []⟩) (sc [] (by decide) (by kernel_rfl) ObRen.nil rfl rfl) rfl rfl
  refine sj ?_
  refine rk 2 (.k3 (.i 29 (eS 1 vt a1) (.i 30 (.fn (.func 80) [] [.ptr 0 0 0]) .n))) ?_
  refine bK h fun y6 hy6 h=>?_
  refine jco (vb false) 31 [29,30] (slices_ContainsFunc_string_ok n a1 y6 hy6) [0] rfl (.cons rfl .nil) (.cons rfl .nil) rfl ?_
  refine jk 1 (.d (.k3 (.i 28 (vb false) .n))) ?_
  refine TriE.cond (b:=false) rfl (fun c3=>?_) (fun c3=>?_)
  ·cases c3
  refine sj ?_
  refine rk 1 (.k3 (.i 33 (vi a2) .n)) ?_
  refine bK h fun y7 hy7 h=>?_
  refine jc 34 [33] (diary_isWidth_ok n a2 y7 hy7) ?_
  refine jk 2 (.d (.k3 (.i 32 (vb (!((decide (1 ≤ a2)) && (decide (a2 ≤ 10000))))) .n))) ?_
  refine tc h (fun c4 h=>?_) (fun c4 h=>?_)
  ·refine sk (.i 6 (vi 0) (.i 7 (vi 2) .n)) ?_
   refine q3 ?_
   have h:=si h
   subst h
   exact DoneS.ret (S' := ⟨[(6, vi 0), (7, vi 2)], []⟩) (sc [] (by decide) (by kernel_rfl) ObRen.nil rfl rfl) rfl rfl
  refine q2 ?_
  refine sk (.k3 (.i 10 (vi 0) .n)) ?_
  refine TriE.seqK h (fun (_ : Unit)=>St.mk [(10,vi 0)] []) ?_ ?_
  ·rintro ⟨⟩ h
   refine sk (.i 6 (vi 0) (.i 7 (vi 0) .n)) ?_
   refine q3 ?_
   have h:=si h
   subst h
   exact DoneS.ret Sees.refl rfl rfl
  intro k2 h
  refine sk (.k4 (.i 11 (vi 1) .n)) ?_
  refine q4 ?_
  refine TriE.loopN h (fun (_ : Unit)=>St.mk [(1,eS 1 vt a1),(2,vi a2),(8,.ptr 0 0 0),(10,vi 0),(11,vi 1)] [some (.row 1 [.p (.pointer none)])]) rfl ?_
  clear h
  rintro back ⟨⟩ h
  dsimp only [diary_CheckRoute_L1] at h
  refine q1 ?_
  refine sj ?_
  refine rk 2 (.k4 (.k (.i 36 (vi 1) (.i 37 (eS 1 vt a1) .n)))) ?_
  refine jo 38 (.len 0 37) (ok_len_m rfl) ?_
  refine jo 39 (.bin .lss false 36 38) (n_lss (i:=1) (j:=a1.length) rfl rfl) ?_
  refine jf (.d2 (.k4 (.k (.i 39 (vb (decide (1 < a1.length))) .n)))) ?_
  refine tc h (fun c5 h=>?_) (fun c5 h=>?_)
  ·refine q2 ?_
   refine q7 ?_
   refine q1 ?_
   refine ts (.k4 (.k .n)) ?_
   refine TriE.draw (by kernel_rfl) ?_
   refine dk 3 (.i 45 (vi 1) (.i 44 (eS 1 vt a1) (.i 43 (.p (.pointer none)) .a))) ?_
   refine cK h fun c6 h=>?_
   refine dp 46 (.bin .sub false 45 (ki 1)) (r_sub rfl rfl c6) ?_
   refine cK h fun c7 h=>?_
   refine dp 47 (.iaddr 1 44 46) (ok_iaddr_m (j:=((1 : Int) - 1).toNat) rfl rfl (inB_to c7) (inB_lt c7)) ?_
   refine cK h fun c8 h=>?_
   refine dp 48 (.load false 1 47) (ok_load_fm (v:=vt (ix a1 (((1 : Int) - 1).toNat))) rfl c8 rfl) ?_
   refine dk 2 (.i 50 (vi 1) (.i 49 (eS 1 vt a1) .a)) ?_
   refine dp 51 (.iaddr 1 49 50) (ok_iaddr_m (j:=1) rfl rfl rfl c5) ?_
   refine dp 52 (.load false 1 51) (ok_load_fm (v:=vt (ix a1 1)) rfl c5 rfl) ?_
   refine dk 1 (.i 53 (vi a2) .a) ?_
   cases h
  refine q5 ?_
  exact Vs.intro (sc [] (by decide) (by kernel_rfl) ObRen.nil rfl rfl) ⟨(), rfl, h⟩
 ·rintro ⟨⟩ h
  refine q7 ?_
  refine sk (.k4 (.i 19 (vb false) .n)) ?_
  refine TriE.cond (b:=false) rfl (fun c9=>?_) (fun c9=>?_)
  ·cases c9
  refine sj ?_
  refine rk 1 (.k3 (.i 24 (eS 1 vt a1) .n)) ?_
  refine jo 25 (.len 0 24) (ok_len_m rfl) ?_
  refine bK h fun y8 hy8 h=>?_
  refine jc 26 [25,(ki 1),(ki 100)] (diary_within_ok n (a1.length : Int) 1 100 y8 hy8) ?_
  refine jk 2 (.d2 (.k3 (.i 23 (vb (!((decide (1 ≤ (a1.length : Int))) && (decide ((a1.length : Int) ≤ 100))))) .n))) ?_
  refine tc h (fun c10 h=>?_) (fun c10 h=>?_)
  ·refine sk (.i 6 (vi 0) (.i 7 (vi 10) .n)) ?_
   refine q3 ?_
   have h:=si h
   subst h
   exact DoneS.ret (S' := ⟨[(6, vi 0), (7, vi 10)], []⟩) (sc [] (by decide) (by kernel_rfl) ObRen.nil rfl rfl) rfl rfl
  refine sj ?_
  refine rk 2 (.k3 (.i 29 (eS 1 vt a1) (.i 30 (.fn (.func 80) [] [.ptr 2 0 0]) .n))) ?_
  refine bK h fun y9 hy9 h=>?_
  refine jco (vb y9) 31 [29,30] (slices_ContainsFunc_string_2_ok n a1 a0.Places a0.Technicians a0.Roads a0.Grands a0.Change a0.Lasts ([] : List (Int × List (Arr2_Str × Int))) y9 hy9) [2,1,0] rfl (.cons rfl (.cons rfl (.same (mp_ren vi_frz (eM_frz eArr2_Str vi) _ _) .nil))) (.cons rfl (.cons rfl (.same (mp_ren vi_frz (eM_frz eArr2_Str vi) _ _) .nil))) rfl ?_
  refine jk 1 (.d (.k3 (.i 28 (vb y9) .n))) ?_
  refine tc h (fun c11 h=>?_) (fun c11 h=>?_)
  ·refine sk (.i 6 (vi 0) (.i 7 (vi 6) .n)) ?_
   refine q3 ?_
   have h:=si h
   subst h
   exact DoneS.ret (S' := ⟨[(6, vi 0), (7, vi 6)], []⟩) (sc [] (by decide) (by kernel_rfl) ObRen.nil rfl rfl) rfl rfl
  refine sj ?_
  refine rk 1 (.k3 (.i 33 (vi a2) .n)) ?_
  refine bK h fun y10 hy10 h=>?_
  refine jc 34 [33] (diary_isWidth_ok n a2 y10 hy10) ?_
  refine jk 2 (.d (.k3 (.i 32 (vb (!((decide (1 ≤ a2)) && (decide (a2 ≤ 10000))))) .n))) ?_
  refine tc h (fun c12 h=>?_) (fun c12 h=>?_)
  ·refine sk (.i 6 (vi 0) (.i 7 (vi 2) .n)) ?_
   refine q3 ?_
   have h:=si h
   subst h
   exact DoneS.ret (S' := ⟨[(6, vi 0), (7, vi 2)], []⟩) (sc [] (by decide) (by kernel_rfl) ObRen.nil rfl rfl) rfl rfl
  refine q2 ?_
  refine sk (.k3 (.i 10 (vi 0) .n)) ?_
  refine TriE.seqK h (fun (v15 : Int)=>St.mk [(10,vi v15)] []) ?_ ?_
  ·rintro v15 h
   refine sk (.i 6 (vi v15) (.i 7 (vi 0) .n)) ?_
   refine q3 ?_
   have h:=si h
   subst h
   exact DoneS.ret Sees.refl rfl rfl
  intro k4 h
  refine sk (.k4 (.i 11 (vi 1) .n)) ?_
  refine q4 ?_
  refine ts (.k4 (.i 11 (vi 1) .n)) ?_
  refine TriE.loopN h (fun (t : Int × Nat)=>match t with | (v12,v13)=>St.mk [(1,eS 1 vt a1),(2,vi a2),(8,.ptr 2 0 0),(10,vi v12),(11,vi v13)] [some (.mp (mpE vi (eM eArr2_Str vi) ([] : List (Int × List (Arr2_Str × Int))))),some (.row 7 [.agg [eS 1 vt a0.Places,eS 1 vt a0.Technicians,eS 4 eRoad a0.Roads,eS 3 eGrand a0.Grands,vi a0.Change,vi a0.Lasts,.map 0]]),some (.row 1 [.ptr 1 0 0])]) rfl ?_
  clear h
  rintro back ⟨v12,v13⟩ h
  dsimp only [diary_CheckRoute_L2] at h
  refine q1 ?_
  refine sj ?_
  refine rk 2 (.k4 (.k (.i 36 (vi v13) (.i 37 (eS 1 vt a1) .n)))) ?_
  refine jo 38 (.len 0 37) (ok_len_m rfl) ?_
  refine jo 39 (.bin .lss false 36 38) (n_lss (i:=v13) (j:=a1.length) rfl rfl) ?_
  refine jf (.d2 (.k4 (.k (.i 39 (vb (decide (v13 < a1.length))) .n)))) ?_
  refine tc h (fun c13 h=>?_) (fun c13 h=>?_)
  ·refine q2 ?_
   refine q7 ?_
   refine q1 ?_
   refine ts (.k4 (.k .n)) ?_
   refine TriE.draw (by kernel_rfl) ?_
   refine dk 3 (.i 45 (vi v13) (.i 44 (eS 1 vt a1) (.i 43 (.ptr 1 0 0) .a))) ?_
   refine cK h fun c14 h=>?_
   refine dp 46 (.bin .sub false 45 (ki 1)) (r_sub rfl rfl c14) ?_
   refine cK h fun c15 h=>?_
   refine dp 47 (.iaddr 1 44 46) (ok_iaddr_m (j:=((v13 : Int) - 1).toNat) rfl rfl (inB_to c15) (inB_lt c15)) ?_
   refine cK h fun c16 h=>?_
   refine dp 48 (.load false 1 47) (ok_load_fm (v:=vt (ix a1 (((v13 : Int) - 1).toNat))) rfl c16 rfl) ?_
   refine dk 2 (.i 50 (vi v13) (.i 49 (eS 1 vt a1) .a)) ?_
   refine dp 51 (.iaddr 1 49 50) (ok_iaddr_m (j:=v13) rfl rfl rfl c13) ?_
   refine dp 52 (.load false 1 51) (ok_load_fm (v:=vt (ix a1 v13)) rfl c13 rfl) ?_
   refine dk 1 (.i 53 (vi a2) .a) ?_
   refine bK h fun y14 hy14 h=>?_
   refine dc (.tup [vi y14.1,vb y14.2]) 0 54 [43,48,52,53] (diary_plan_joined_ok n a0.Places a0.Technicians a0.Roads a0.Grands a0.Change a0.Lasts ([] : List (Int × List (Arr2_Str × Int))) (ix a1 (((v13 : Int) - 1).toNat)) (ix a1 v13) a2 y14 hy14) [1,0] rfl (.cons rfl (.same (mp_ren vi_frz (eM_frz eArr2_Str vi) _ _) .nil)) (.cons rfl (.same (mp_ren vi_frz (eM_frz eArr2_Str vi) _ _) .nil)) rfl (.inr ⟨rfl,rfl⟩) ?_
   refine dk 5 (.i 13 (vb y14.2) (.i 12 (vi y14.1) (.i 56 (vb y14.2) (.i 55 (vi y14.1) (.i 42 (.tup [vi y14.1,vb y14.2]) .a))))) ?_
   refine dfi (ob':=[some (.mp (mpE vi (eM eArr2_Str vi) ([] : List (Int × List (Arr2_Str × Int))))),some (.row 7 [.agg [eS 1 vt a0.Places,eS 1 vt a0.Technicians,eS 4 eRoad a0.Roads,eS 3 eGrand a0.Grands,vi a0.Change,vi a0.Lasts,.map 0]]),some (.row 1 [.ptr 1 0 0])]) (.d4 (.d4 (.d4 (.d4 (.d (.k4 (.k (.i 12 (vi y14.1) (.i 13 (vb y14.2) .n))))))))) [0,1,2] (obRen_mp vi_frz (eM_frz eArr2_Str vi) rfl (.cons rfl (.cons rfl .nil))) ?_
   refine q1 ?_
   refine sk (.k4 (.k2 (.i 58 (vb (!y14.2)) .n))) ?_
   refine tc h (fun c17 h=>?_) (fun c17 h=>?_)
   ·refine sk (.i 6 (vi 0) (.i 7 (vi 14) .n)) ?_
    refine q3 ?_
    have h:=si h
    subst h
    exact DoneS.ret (S' := ⟨[(6, vi 0), (7, vi 14)], []⟩) (sc [] (by decide) (by kernel_rfl) ObRen.nil rfl rfl) rfl rfl
   refine q2 ?_
   refine q6 ?_
   refine rk 2 (.k3 (.d (.k (.i 59 (vi v12) (.i 60 (vi y14.1) .n))))) ?_
   refine cK h fun c18 h=>?_
   refine jo 61 (.bin .add false 59 60) (r_add rfl rfl c18) ?_
   refine jk 1 (.d (.k4 (.i 10 (vi (v12 + y14.1)) .n))) ?_
   refine q6 ?_
   refine rk 1 (.k3 (.d (.k (.i 40 (vi v13) .n)))) ?_
   refine cK h fun c19 h=>?_
   refine jo 41 (.bin .add false 40 (ki 1)) (r_addn (i:=v13) (j:=1) rfl rfl c19) ?_
   refine jk 1 (.d (.k4 (.i 11 (vi ((v13 + 1 : Nat) : Int)) .n))) ?_
   exact Vs.intro sy ⟨(v12 + y14.1, v13 + 1), rfl, h⟩
  refine q5 ?_
  exact Vs.intro (sc [] (by decide) (by kernel_rfl) ObRen.nil rfl rfl) ⟨v12, rfl, h⟩
 intro k1 k3 h
 refine q6 ?_
 refine rk 1 (.k2 (.i 15 (.agg [eS 1 vt a0.Places,eS 1 vt a0.Technicians,eS 4 eRoad a0.Roads,eS 3 eGrand a0.Grands,vi a0.Change,vi a0.Lasts]) .n)) ?_
 refine bK h fun y1 hy1 h=>?_
 rcases y1 with y1 | y1
 ·dsimp only at h
  refine jc 16 [15] (diary_open_ok n a0 (Sum.inl y1) hy1) ?_
  refine jko 6 (.d (.k2 (.i 8 (.ptr 1 0 0) (.i 9 (vi y1) .n)))) [some (.row 6 [.agg [eS 1 vt a0.Places,eS 1 vt a0.Technicians,eS 4 eRoad a0.Roads,eS 3 eGrand a0.Grands,vi a0.Change,vi a0.Lasts]]),some (.row 1 [.p (.pointer none)])] ?_
  exact Vs.intro (sc [1] (by decide) (by kernel_rfl) (.cons rfl .nil) rfl rfl) (.inl ⟨y1, rfl, h⟩)
 dsimp only at h
 refine jco (.tup [.ptr 2 0 0,vi 0]) 16 [15] (diary_open_ok n a0 (Sum.inr y1) hy1) [] rfl ObsRen.nil (.same (mp_ren vi_frz (eM_frz eArr2_Str vi) _ _) (.cons rfl .nil)) rfl ?_
 refine jko 6 (.d (.k2 (.i 8 (.ptr 3 0 0) (.i 9 (vi 0) .n)))) [some (.row 6 [.agg [eS 1 vt a0.Places,eS 1 vt a0.Technicians,eS 4 eRoad a0.Roads,eS 3 eGrand a0.Grands,vi a0.Change,vi a0.Lasts]]),some (.mp (mpE vi (eM eArr2_Str vi) ([] : List (Int × List (Arr2_Str × Int))))),some (.row 7 [.agg [eS 1 vt a0.Places,eS 1 vt a0.Technicians,eS 4 eRoad a0.Roads,eS 3 eGrand a0.Grands,vi a0.Change,vi a0.Lasts,.map 1]]),some (.row 1 [.ptr 2 0 0])] ?_
 exact Vs.intro (sc [1, 2, 3] (by decide) (by kernel_rfl) (obRen_mp vi_frz (eM_frz eArr2_Str vi) rfl (.cons rfl (.cons rfl .nil))) rfl rfl) (.inr ⟨(), rfl, h⟩)
set_option maxHeartbeats 1000000 in
theorem agraffelaw09_DiaryRoutes_ok (n : Nat) (a0 : Diary) (a1 : Arr2_Str) (a2 : Int) (r : Bool) (h : agraffelaw09_DiaryRoutes n a0 a1 a2 = some r) : FnL Tryz.prog 8 [.agg [eS 1 vt a0.Places, eS 1 vt a0.Technicians, eS 4 eRoad a0.Roads, eS 3 eGrand a0.Grands, vi a0.Change, vi a0.Lasts], .agg [vt a1.a0, vt a1.a1], vi a2] [] (vb r) [] := by
 dsimp only [agraffelaw09_DiaryRoutes] at h
 refine fo [6] Tryz.call8 Tryz.func8 rfl ?_
 refine sj ?_
 refine rko 2 (.d2 (.k (.i 3 (.ptr 0 0 0) (.i 4 (.ptr 1 0 0) .n)))) [some (.row 6 [.agg [eS 1 vt a0.Places,eS 1 vt a0.Technicians,eS 4 eRoad a0.Roads,eS 3 eGrand a0.Grands,vi a0.Change,vi a0.Lasts]]),some (.row 2 [.agg [vt a1.a0,vt a1.a1]])] ?_
 refine RegJ.sees (Sees.freeze 1 (fr':=[(2,vi a2),(3,.ptr 0 0 0),(4,.fptr 2 [.agg [vt a1.a0,vt a1.a1]] 0 0)]) (ob':=[some (.row 6 [.agg [eS 1 vt a0.Places,eS 1 vt a0.Technicians,eS 4 eRoad a0.Roads,eS 3 eGrand a0.Grands,vi a0.Change,vi a0.Lasts]]),none]) rfl (frzs_cons rfl frzs_nil) (.cons (.refl _) (.cons (.refl _) (.cons (.ptr (by simp) (by simp)) .nil))) rfl) ?_
 refine jk 1 .a ?_
 refine q1 ?_
 refine sj ?_
 refine bK h fun y1 hy1 h=>?_
 refine jc 21 [] (agraffelaw09_awake_ok n y1 hy1) ?_
 refine jk 1 (.d (.k3 (.i 22 (vb (!y1)) .n))) ?_
 refine tc h (fun c1 h=>?_) (fun c1 h=>?_)
 ·refine sk (.i 6 (vb false) .n) ?_
  refine q3 ?_
  have h:=si h
  subst h
  exact DoneS.ret (S' := ⟨[(6, vb false)], []⟩) (sc [] (by decide) (by kernel_rfl) ObRen.nil rfl rfl) rfl rfl
 refine q2 ?_
 refine q1 ?_
 refine sj ?_
 refine rk 1 (.k3 (.i 23 (.agg [eS 1 vt a0.Places,eS 1 vt a0.Technicians,eS 4 eRoad a0.Roads,eS 3 eGrand a0.Grands,vi a0.Change,vi a0.Lasts]) .n)) ?_
 refine bK h fun y2 hy2 h=>?_
 refine jc 24 [23] (agraffelaw09_Light_ok n a0 y2 hy2) ?_
 refine rk 2 (.d (.k3 (.i 26 (vb (!y2)) .n))) ?_
 refine gj (.fptr 2 [.agg [vt a1.a0,vt a1.a1]] 0 0) 27 (.aaddr 2 1 4 (ki 0)) 26 false rfl ?_
 refine gk (vt a1.a0) 28 (.load false 1 27) 26 false rfl (fun hg=>(.cons hg .nil)) ?_
 refine gv 29 (.len 1 28) 26 false rfl (fun hg=>(ok_len_t rfl)) (fun hg=>(.cons hg .nil)) ?_
 refine gv 30 (.bin .gtr false 29 (ki 30)) 26 false rfl (fun hg=>(n_gtr (i:=a1.a0.length) (j:=30) rfl rfl)) (fun hg=>(.cons hg (.cons rfl .nil))) ?_
 refine po 31 26 30 rfl rfl ?_
 refine rk 1 (.d4 (.d (.k3 (.i 32 (vb ((!y2) || (decide (30 < a1.a0.length)))) .n)))) ?_
 refine gj (.fptr 2 [.agg [vt a1.a0,vt a1.a1]] 0 1) 33 (.aaddr 2 1 4 (ki 1)) 32 false rfl ?_
 refine gk (vt a1.a1) 34 (.load false 1 33) 32 false rfl (fun hg=>(.cons hg .nil)) ?_
 refine gv 35 (.len 1 34) 32 false rfl (fun hg=>(ok_len_t rfl)) (fun hg=>(.cons hg .nil)) ?_
 refine gv 36 (.bin .gtr false 35 (ki 30)) 32 false rfl (fun hg=>(n_gtr (i:=a1.a1.length) (j:=30) rfl rfl)) (fun hg=>(.cons hg (.cons rfl .nil))) ?_
 refine po 37 32 36 rfl rfl ?_
 refine jf (.d4 (.d (.k3 (.i 37 (vb (((!y2) || (decide (30 < a1.a0.length))) || (decide (30 < a1.a1.length)))) .n)))) ?_
 refine tc h (fun c2 h=>?_) (fun c2 h=>?_)
 ·refine sk (.i 6 (vb true) .n) ?_
  refine q3 ?_
  have h:=si h
  subst h
  exact DoneS.ret (S' := ⟨[(6, vb true)], []⟩) (sc [] (by decide) (by kernel_rfl) ObRen.nil rfl rfl) rfl rfl
 refine q2 ?_
 refine q1 ?_
 refine ts (.k3 .n) ?_
 refine TriE.draw (by kernel_rfl) ?_
 refine dko 1 (.i 39 (.agg [eS 1 vt a0.Places,eS 1 vt a0.Technicians,eS 4 eRoad a0.Roads,eS 3 eGrand a0.Grands,vi a0.Change,vi a0.Lasts]) .a) [some (.row 6 [.agg [eS 1 vt a0.Places,eS 1 vt a0.Technicians,eS 4 eRoad a0.Roads,eS 3 eGrand a0.Grands,vi a0.Change,vi a0.Lasts]]),none,none] ?_
 refine bK h fun y3 hy3 h=>?_
 refine dc (.agg [eS 1 vt a0.Places,eS 1 vt a0.Technicians,eS 4 eRoad a0.Roads,eS 3 eGrand a0.Grands,vi a0.Change,vi a0.Lasts]) 0 40 [39] (agraffelaw09_town_ok n a0 y3 hy3) [] rfl ObsRen.nil ObsRen.nil rfl (.inr ⟨rfl,rfl⟩) ?_
 refine dko 2 (.i 42 (vi a2) (.i 41 (.agg [vt a1.a0,vt a1.a1]) .a)) [some (.row 6 [.agg [eS 1 vt a0.Places,eS 1 vt a0.Technicians,eS 4 eRoad a0.Roads,eS 3 eGrand a0.Grands,vi a0.Change,vi a0.Lasts]]),none,none,none,none,none] ?_
 refine bK h fun y4 hy4 h=>?_
 refine dc (.tup [eS 1 vt y4.2.1,vi y4.2.2,vi y4.1]) 0 43 [40,41,42] (diary_Route_ok n a0 a1 a2 y4 hy4) [] rfl ObsRen.nil ObsRen.nil rfl (.inr ⟨rfl,rfl⟩) ?_
 refine dko 7 (.i 9 (vi y4.1) (.i 8 (vi y4.2.2) (.i 7 (eS 1 vt y4.2.1) (.i 46 (vi y4.1) (.i 45 (vi y4.2.2) (.i 44 (eS 1 vt y4.2.1) (.i 38 (.tup [eS 1 vt y4.2.1,vi y4.2.2,vi y4.1]) .a))))))) [some (.row 6 [.agg [eS 1 vt a0.Places,eS 1 vt a0.Technicians,eS 4 eRoad a0.Roads,eS 3 eGrand a0.Grands,vi a0.Change,vi a0.Lasts]]),none,none,none,none,none,none,none,none,none,none,none,none,none] ?_
 refine dfi (ob':=[some (.row 6 [.agg [eS 1 vt a0.Places,eS 1 vt a0.Technicians,eS 4 eRoad a0.Roads,eS 3 eGrand a0.Grands,vi a0.Change,vi a0.Lasts]])]) (.d4 (.d4 (.d4 (.k3 (.i 7 (eS 1 vt y4.2.1) (.i 8 (vi y4.2.2) (.i 9 (vi y4.1) .n))))))) [0] (.cons rfl .nil) ?_
 refine q1 ?_
 refine ts .a ?_
 refine TriE.draw (by kernel_rfl) ?_
 refine dko 1 (.i 48 (.agg [eS 1 vt a0.Places,eS 1 vt a0.Technicians,eS 4 eRoad a0.Roads,eS 3 eGrand a0.Grands,vi a0.Change,vi a0.Lasts]) .a) [some (.row 6 [.agg [eS 1 vt a0.Places,eS 1 vt a0.Technicians,eS 4 eRoad a0.Roads,eS 3 eGrand a0.Grands,vi a0.Change,vi a0.Lasts]]),none] ?_
 refine bK h fun y5 hy5 h=>?_
 refine dc (.agg [eS 1 vt a0.Places,eS 1 vt a0.Technicians,eS 4 eRoad a0.Roads,eS 3 eGrand a0.Grands,vi a0.Change,vi a0.Lasts]) 0 49 [48] (agraffelaw09_town_ok n a0 y5 hy5) [] rfl ObsRen.nil ObsRen.nil rfl (.inr ⟨rfl,rfl⟩) ?_
 refine dko 3 (.i 52 (vi a2) (.i 51 (vt a1.a0) (.i 50 (.fptr 2 [.agg [vt a1.a0,vt a1.a1]] 0 0) .a))) [some (.row 6 [.agg [eS 1 vt a0.Places,eS 1 vt a0.Technicians,eS 4 eRoad a0.Roads,eS 3 eGrand a0.Grands,vi a0.Change,vi a0.Lasts]]),none,none,none,none,none] ?_
 refine bK h fun y6 hy6 h=>?_
 refine dc (.tup [eS 1 vi y6.2,vi y6.1]) 0 53 [49,51,52] (diary_Distances_ok n a0 a1.a0 a2 y6 hy6) [] rfl ObsRen.nil ObsRen.nil rfl (.inr ⟨rfl,rfl⟩) ?_
 refine dko 5 (.i 11 (vi y6.1) (.i 10 (eS 1 vi y6.2) (.i 55 (vi y6.1) (.i 54 (eS 1 vi y6.2) (.i 47 (.tup [eS 1 vi y6.2,vi y6.1]) .a))))) [some (.row 6 [.agg [eS 1 vt a0.Places,eS 1 vt a0.Technicians,eS 4 eRoad a0.Roads,eS 3 eGrand a0.Grands,vi a0.Change,vi a0.Lasts]]),none,none,none,none,none,none,none,none,none,none,none] ?_
 refine dfi (ob':=[some (.row 6 [.agg [eS 1 vt a0.Places,eS 1 vt a0.Technicians,eS 4 eRoad a0.Roads,eS 3 eGrand a0.Grands,vi a0.Change,vi a0.Lasts]])]) (.d4 (.d4 (.d3 (.k4 (.k2 (.i 10 (eS 1 vi y6.2) (.i 11 (vi y6.1) .n))))))) [0] (.cons rfl .nil) ?_
 refine q1 ?_
 refine sj ?_
 refine rk 1 (.k4 (.k4 (.i 56 (.agg [eS 1 vt a0.Places,eS 1 vt a0.Technicians,eS 4 eRoad a0.Roads,eS 3 eGrand a0.Grands,vi a0.Change,vi a0.Lasts]) .n))) ?_
 refine bK h fun y7 hy7 h=>?_
 refine jc 57 [56] (agrafferef09_CheckDiary_ok n a0 y7 hy7) ?_
 refine jk 1 (.d (.k4 (.k4 (.i 12 (vi y7) .n)))) ?_
 refine sk (.k4 (.k4 (.k (.i 59 (vb (y7 != (0 : Int))) .n)))) ?_
 refine tc h (fun c3 h=>?_) (fun c3 h=>?_)
 ·refine sj ?_
  refine rk 4 (.d3 (.k2 (.d (.k3 (.i 63 (vb (y4.1 == y7)) .n))))) ?_
  refine gj (vi y6.1) 64 (.mov 11) 63 true rfl ?_
  refine gj (vi y7) 65 (.mov 12) 63 true rfl ?_
  refine gk (vb (y6.1 == y7)) 66 (.bin .eql false 64 65) 63 true rfl (fun hg=>(.cons hg (.cons hg .nil))) ?_
  refine pa 67 63 66 rfl rfl ?_
  refine rk 1 (.d4 (.k3 (.i 68 (vb ((y4.1 == y7) && (y6.1 == y7))) .n))) ?_
  refine gj (eS 1 vt y4.2.1) 69 (.mov 7) 68 true rfl ?_
  refine gv 70 (.len 0 69) 68 true rfl (fun hg=>(ok_len_m rfl)) (fun hg=>(.cons hg .nil)) ?_
  refine gj (eS 1 vi y6.2) 71 (.mov 10) 68 true rfl ?_
  refine gv 72 (.len 0 71) 68 true rfl (fun hg=>(ok_len_m rfl)) (fun hg=>(.cons hg .nil)) ?_
  refine cK h fun c4 h=>?_
  refine gv 73 (.bin .add false 70 72) 68 true rfl (fun hg=>(r_addn (i:=y4.2.1.length) (j:=y6.2.length) rfl rfl (gor c4 hg))) (fun hg=>(.cons hg (.cons hg .nil))) ?_
  refine gj (vi y4.2.2) 74 (.mov 8) 68 true rfl ?_
  refine cK h fun c5 h=>?_
  refine gv 75 (.bin .add false 73 74) 68 true rfl (fun hg=>(r_add rfl rfl (gor c5 hg))) (fun hg=>(.cons hg (.cons hg .nil))) ?_
  refine gk (vb ((((y4.2.1.length + y6.2.length : Nat) : Int) + y4.2.2) == (0 : Int))) 76 (.bin .eql false 75 (ki 0)) 68 true rfl (fun hg=>(.cons hg (.cons rfl .nil))) ?_
  refine pa 77 68 76 rfl rfl ?_
  refine jk 1 (.i 6 (vb (((y4.1 == y7) && (y6.1 == y7)) && ((((y4.2.1.length + y6.2.length : Nat) : Int) + y4.2.2) == (0 : Int)))) .n) ?_
  refine q3 ?_
  have h:=si h
  subst h
  exact DoneS.ret (S' := ⟨[(6, vb (((y4.1 == y7) && (y6.1 == y7)) && ((((y4.2.1.length + y6.2.length : Nat) : Int) + y4.2.2) == (0 : Int))))], []⟩) (sc [] (by decide) (by kernel_rfl) ObRen.nil rfl rfl) rfl rfl
 refine q2 ?_
 refine q1 ?_
 refine q1 ?_
 refine ts (.k4 (.k4 .n)) ?_
 refine TriE.draw (by kernel_rfl) ?_
 refine dko 3 (.i 80 (vi a2) (.i 79 (eS 1 vt ([a1.a0] : List Str)) (.i 78 (.agg [eS 1 vt a0.Places,eS 1 vt a0.Technicians,eS 4 eRoad a0.Roads,eS 3 eGrand a0.Grands,vi a0.Change,vi a0.Lasts]) .a))) [some (.row 6 [.agg [eS 1 vt a0.Places,eS 1 vt a0.Technicians,eS 4 eRoad a0.Roads,eS 3 eGrand a0.Grands,vi a0.Change,vi a0.Lasts]]),none,none,none] ?_
 refine bK h fun y8 hy8 h=>?_
 refine dc (vi y8) 0 81 [78,79,80] (agrafferef09_CheckEnds_ok n a0 ([a1.a0] : List Str) a2 y8 hy8) [] rfl ObsRen.nil ObsRen.nil rfl (.inr ⟨rfl,rfl⟩) ?_
 refine dko 1 (.i 13 (vi y8) .a) [some (.row 6 [.agg [eS 1 vt a0.Places,eS 1 vt a0.Technicians,eS 4 eRoad a0.Roads,eS 3 eGrand a0.Grands,vi a0.Change,vi a0.Lasts]]),none,none,none,none,none] ?_
 refine dfi (ob':=[some (.row 6 [.agg [eS 1 vt a0.Places,eS 1 vt a0.Technicians,eS 4 eRoad a0.Roads,eS 3 eGrand a0.Grands,vi a0.Change,vi a0.Lasts]])]) (.d4 (.d (.k4 (.k4 (.i 13 (vi y8) .n))))) [0] (.cons rfl .nil) ?_
 refine sj ?_
 refine rk 4 (.k4 (.k3 (.d (.k (.i 85 (vb (y6.1 != y8)) .n))))) ?_
 refine gj (vi y8) 86 (.mov 13) 85 false rfl ?_
 refine gk (vb (y8 != (0 : Int))) 87 (.bin .neq false 86 (ki 0)) 85 false rfl (fun hg=>(.cons hg (.cons rfl .nil))) ?_
 refine gk (vb (y8 != (0 : Int))) 88 (.mov 87) 85 false rfl (fun hg=>(.cons hg .nil)) ?_
 refine gj (eS 1 vi y6.2) 89 (.mov 10) 88 true rfl ?_
 refine gv 90 (.len 0 89) 88 true rfl (fun hg=>(ok_len_m rfl)) (fun hg=>(.cons hg .nil)) ?_
 refine gv 91 (.bin .neq false 90 (ki 0)) 88 true rfl (fun hg=>(n_neq (i:=y6.2.length) (j:=0) rfl rfl)) (fun hg=>(.cons hg (.cons rfl .nil))) ?_
 refine RegJ.op (Op1.andg (g:=!(y6.1 != y8)) (cy (IG 92 (.pick 88 91 (.c (.p (.bool false)))) 85 false)) rfl rfl rfl (fun hg=>by first | exact hokA2 hg | exact hokA3 hg | exact hokA1 | exact hokA0 | (rw [hg]; simp) | simp_all)) ?_
 refine po 93 85 92 rfl rfl ?_
 refine rk 1 (.d4 (.d4 (.k4 (.k4 (.i 94 (vb ((y6.1 != y8) || ((y8 != (0 : Int)) && (!decide (y6.2.length = 0))))) .n))))) ?_
 refine gj (vi y8) 95 (.mov 13) 94 false rfl ?_
 refine gk (vb (y8 == (0 : Int))) 96 (.bin .eql false 95 (ki 0)) 94 false rfl (fun hg=>(.cons hg (.cons rfl .nil))) ?_
 refine gk (vb (y8 == (0 : Int))) 97 (.mov 96) 94 false rfl (fun hg=>(.cons hg .nil)) ?_
 refine gj (eS 1 vi y6.2) 98 (.mov 10) 97 true rfl ?_
 refine gj (.agg [eS 1 vt a0.Places,eS 1 vt a0.Technicians,eS 4 eRoad a0.Roads,eS 3 eGrand a0.Grands,vi a0.Change,vi a0.Lasts]) 99 (.load true 6 3) 97 true rfl ?_
 refine gj (.fptr 2 [.agg [vt a1.a0,vt a1.a1]] 0 0) 100 (.aaddr 2 1 4 (ki 0)) 97 true rfl ?_
 refine gk (vt a1.a0) 101 (.load false 1 100) 97 true rfl (fun hg=>(.cons hg .nil)) ?_
 refine gj (vi a2) 102 (.mov 2) 97 true rfl ?_
 refine bK h fun y9 hy9 h=>?_
 refine gc 103 [99,101,102] 97 true rfl (fun hg=>agrafferef09_Distances_ok n a0 a1.a0 a2 y9 (gcall_some hy9 hg)) (fun hg=>(.cons rfl (.cons hg (.cons hg (.cons hg .nil))))) (fun hg=>by kernel_rfl) ?_
 refine bK h fun y10 hy10 h=>?_
 refine gc 104 [98,103] 97 true rfl (fun hg=>agraffebase_Ints_ok n y6.2 y9 y10 (gcall_some hy10 hg)) (fun hg=>(.cons rfl (.cons hg (.cons hg .nil)))) (fun hg=>by kernel_rfl) ?_
 refine gk (vb (!y10)) 105 (.un .not 104) 97 true rfl (fun hg=>(.cons hg .nil)) ?_
 refine RegJ.op (Op1.andg (g:=!((y6.1 != y8) || ((y8 != (0 : Int)) && (!decide (y6.2.length = 0))))) (cy (IG 106 (.pick 97 105 (.c (.p (.bool false)))) 94 false)) rfl rfl rfl (fun hg=>by first | exact hokA2 hg | exact hokA3 hg | exact hokA1 | exact hokA0 | (rw [hg]; simp) | simp_all)) ?_
 refine po 107 94 106 rfl rfl ?_
 refine jf (.d4 (.d4 (.d4 (.d (.k4 (.k2 (.i 107 (vb (((y6.1 != y8) || ((y8 != (0 : Int)) && (!decide (y6.2.length = 0)))) || ((y8 == (0 : Int)) && (!y10)))) .n))))))) ?_
 refine tc h (fun c6 h=>?_) (fun c6 h=>?_)
 ·refine sk (.i 6 (vb false) .n) ?_
  refine q3 ?_
  have h:=si h
  subst h
  exact DoneS.ret (S' := ⟨[(6, vb false)], []⟩) (sc [] (by decide) (by kernel_rfl) ObRen.nil rfl rfl) rfl rfl
 refine q2 ?_
 refine q1 ?_
 refine q1 ?_
 refine ts (.k4 (.k2 .n)) ?_
 refine TriE.draw (by kernel_rfl) ?_
 refine dko 3 (.i 110 (vi a2) (.i 109 (eS 1 vt ([a1.a0,a1.a1] : List Str)) (.i 108 (.agg [eS 1 vt a0.Places,eS 1 vt a0.Technicians,eS 4 eRoad a0.Roads,eS 3 eGrand a0.Grands,vi a0.Change,vi a0.Lasts]) .a))) [some (.row 6 [.agg [eS 1 vt a0.Places,eS 1 vt a0.Technicians,eS 4 eRoad a0.Roads,eS 3 eGrand a0.Grands,vi a0.Change,vi a0.Lasts]]),none,none,none] ?_
 refine bK h fun y11 hy11 h=>?_
 refine dc (vi y11) 0 111 [108,109,110] (agrafferef09_CheckEnds_ok n a0 ([a1.a0,a1.a1] : List Str) a2 y11 hy11) [] rfl ObsRen.nil ObsRen.nil rfl (.inr ⟨rfl,rfl⟩) ?_
 refine dko 1 (.i 14 (vi y11) .a) [some (.row 6 [.agg [eS 1 vt a0.Places,eS 1 vt a0.Technicians,eS 4 eRoad a0.Roads,eS 3 eGrand a0.Grands,vi a0.Change,vi a0.Lasts]]),none,none,none,none,none] ?_
 refine dfi (ob':=[some (.row 6 [.agg [eS 1 vt a0.Places,eS 1 vt a0.Technicians,eS 4 eRoad a0.Roads,eS 3 eGrand a0.Grands,vi a0.Change,vi a0.Lasts]])]) (.d4 (.d (.k4 (.k2 (.i 14 (vi y11) .n))))) [0] (.cons rfl .nil) ?_
 refine sk (.k4 (.k3 (.i 113 (vb (y11 != (0 : Int))) .n))) ?_
 refine tc h (fun c7 h=>?_) (fun c7 h=>?_)
 ·refine sj ?_
  refine rk 4 (.d3 (.k2 (.i 117 (vb (y4.1 == y11)) .n))) ?_
  refine gj (eS 1 vt y4.2.1) 118 (.mov 7) 117 true rfl ?_
  refine gv 119 (.len 0 118) 117 true rfl (fun hg=>(ok_len_m rfl)) (fun hg=>(.cons hg .nil)) ?_
  refine gv 120 (.bin .eql false 119 (ki 0)) 117 true rfl (fun hg=>(n_eql (i:=y4.2.1.length) (j:=0) rfl rfl)) (fun hg=>(.cons hg (.cons rfl .nil))) ?_
  refine pa 121 117 120 rfl rfl ?_
  refine rk 1 (.d4 (.d (.k (.i 122 (vb ((y4.1 == y11) && (decide (y4.2.1.length = 0)))) .n)))) ?_
  refine gj (vi y4.2.2) 123 (.mov 8) 122 true rfl ?_
  refine gk (vb (y4.2.2 == (0 : Int))) 124 (.bin .eql false 123 (ki 0)) 122 true rfl (fun hg=>(.cons hg (.cons rfl .nil))) ?_
  refine pa 125 122 124 rfl rfl ?_
  refine jk 1 (.i 6 (vb (((y4.1 == y11) && (decide (y4.2.1.length = 0))) && (y4.2.2 == (0 : Int)))) .n) ?_
  refine q3 ?_
  have h:=si h
  subst h
  exact DoneS.ret (S' := ⟨[(6, vb (((y4.1 == y11) && (decide (y4.2.1.length = 0))) && (y4.2.2 == (0 : Int))))], []⟩) (sc [] (by decide) (by kernel_rfl) ObRen.nil rfl rfl) rfl rfl
 refine q2 ?_
 refine sj ?_
 refine rk 6 (.k4 (.k2 (.i 126 (.agg [eS 1 vt a0.Places,eS 1 vt a0.Technicians,eS 4 eRoad a0.Roads,eS 3 eGrand a0.Grands,vi a0.Change,vi a0.Lasts]) (.i 128 (vt a1.a0) (.i 130 (vt a1.a1) (.i 131 (vi a2) .n)))))) ?_
 refine bK h fun y12 hy12 h=>?_
 refine jc 132 [126,128,130,131] (agrafferef09_Distance_ok n a0 a1.a0 a1.a1 a2 y12 hy12) ?_
 refine jk 1 (.d (.k4 (.k2 (.i 15 (vi y12) .n)))) ?_
 refine q1 ?_
 refine sk (.k4 (.k3 (.i 134 (vb (decide (y12 < (0 : Int)))) .n))) ?_
 refine tc h (fun c8 h=>?_) (fun c8 h=>?_)
 ·refine sj ?_
  refine rk 3 (.d3 (.k2 (.i 137 (vb (y4.1 == (12 : Int))) .n))) ?_
  refine gj (eS 1 vt y4.2.1) 138 (.mov 7) 137 true rfl ?_
  refine gv 139 (.len 0 138) 137 true rfl (fun hg=>(ok_len_m rfl)) (fun hg=>(.cons hg .nil)) ?_
  refine gv 140 (.bin .eql false 139 (ki 0)) 137 true rfl (fun hg=>(n_eql (i:=y4.2.1.length) (j:=0) rfl rfl)) (fun hg=>(.cons hg (.cons rfl .nil))) ?_
  refine pa 141 137 140 rfl rfl ?_
  refine rk 1 (.d4 (.d (.k (.i 142 (vb ((y4.1 == (12 : Int)) && (decide (y4.2.1.length = 0)))) .n)))) ?_
  refine gj (vi y4.2.2) 143 (.mov 8) 142 true rfl ?_
  refine gk (vb (y4.2.2 == (0 : Int))) 144 (.bin .eql false 143 (ki 0)) 142 true rfl (fun hg=>(.cons hg (.cons rfl .nil))) ?_
  refine pa 145 142 144 rfl rfl ?_
  refine jk 1 (.i 6 (vb (((y4.1 == (12 : Int)) && (decide (y4.2.1.length = 0))) && (y4.2.2 == (0 : Int)))) .n) ?_
  refine q3 ?_
  have h:=si h
  subst h
  exact DoneS.ret (S' := ⟨[(6, vb (((y4.1 == (12 : Int)) && (decide (y4.2.1.length = 0))) && (y4.2.2 == (0 : Int))))], []⟩) (sc [] (by decide) (by kernel_rfl) ObRen.nil rfl rfl) rfl rfl
 refine q2 ?_
 refine q1 ?_
 refine q1 ?_
 refine ts (.k4 (.k3 .n)) ?_
 refine TriE.draw (by kernel_rfl) ?_
 refine dko 3 (.i 148 (vb (y4.1 != (0 : Int))) (.i 147 (vb (y4.1 != (0 : Int))) (.i 146 (vi y4.1) .a))) [some (.row 6 [.agg [eS 1 vt a0.Places,eS 1 vt a0.Technicians,eS 4 eRoad a0.Roads,eS 3 eGrand a0.Grands,vi a0.Change,vi a0.Lasts]]),none,none,none] ?_
 refine gd (!(y4.1 != (0 : Int))) (vi y4.2.2) 149 (.mov 8) 148 false rfl (fun hg=>(.cons rfl .nil)) ?_
 refine gd (!(y4.1 != (0 : Int))) (vi y12) 150 (.mov 15) 148 false rfl (fun hg=>(.cons rfl .nil)) ?_
 refine gd (!(y4.1 != (0 : Int))) (vb (y4.2.2 != y12)) 151 (.bin .neq false 149 150) 148 false rfl (fun hg=>(.cons hg (.cons hg .nil))) ?_
 refine RegD.op (OpD.or (cy (I0 152 (.pick 148 (.c (.p (.bool true))) 151))) rfl rfl (by first | exact hokO1 | exact hokO0 | simp)) ?_
 refine dko 1 (.i 153 (vb ((y4.1 != (0 : Int)) || (y4.2.2 != y12))) (.i 152 (vb ((y4.1 != (0 : Int)) || (y4.2.2 != y12))) (.d .a))) [some (.row 6 [.agg [eS 1 vt a0.Places,eS 1 vt a0.Technicians,eS 4 eRoad a0.Roads,eS 3 eGrand a0.Grands,vi a0.Change,vi a0.Lasts]]),none,none,none,none,none,none,none,none] ?_
 refine gd (!((y4.1 != (0 : Int)) || (y4.2.2 != y12))) (eS 1 vt y4.2.1) 154 (.mov 7) 153 false rfl (fun hg=>(.cons rfl .nil)) ?_
 refine gu (!((y4.1 != (0 : Int)) || (y4.2.2 != y12))) 155 (.len 0 154) 153 false rfl (fun hg=>(ok_len_m rfl)) (fun hg=>(.cons hg .nil)) ?_
 refine gu (!((y4.1 != (0 : Int)) || (y4.2.2 != y12))) 156 (.bin .lss false 155 (ki 1)) 153 false rfl (fun hg=>(n_lss (i:=y4.2.1.length) (j:=1) rfl rfl)) (fun hg=>(.cons hg (.cons rfl .nil))) ?_
 refine RegD.op (OpD.or (cy (I0 157 (.pick 153 (.c (.p (.bool true))) 156))) rfl rfl (by first | exact hokO1 | exact hokO0 | simp)) ?_
 refine dko 1 (.i 158 (vb (((y4.1 != (0 : Int)) || (y4.2.2 != y12)) || (decide (y4.2.1.length < 1)))) (.i 157 (vb (((y4.1 != (0 : Int)) || (y4.2.2 != y12)) || (decide (y4.2.1.length < 1)))) (.d .a))) [some (.row 6 [.agg [eS 1 vt a0.Places,eS 1 vt a0.Technicians,eS 4 eRoad a0.Roads,eS 3 eGrand a0.Grands,vi a0.Change,vi a0.Lasts]]),none,none,none,none,none,none,none,none,none,none,none,none,none] ?_
 refine gd (!(((y4.1 != (0 : Int)) || (y4.2.2 != y12)) || (decide (y4.2.1.length < 1)))) (eS 1 vt y4.2.1) 159 (.mov 7) 158 false rfl (fun hg=>(.cons rfl .nil)) ?_
 refine gu (!(((y4.1 != (0 : Int)) || (y4.2.2 != y12)) || (decide (y4.2.1.length < 1)))) 160 (.len 0 159) 158 false rfl (fun hg=>(ok_len_m rfl)) (fun hg=>(.cons hg .nil)) ?_
 refine gd (!(((y4.1 != (0 : Int)) || (y4.2.2 != y12)) || (decide (y4.2.1.length < 1)))) (.ptr 0 0 0) 161 (.faddr 0 3) 158 false rfl (fun hg=>(.cons rfl .nil)) ?_
 refine gd (!(((y4.1 != (0 : Int)) || (y4.2.2 != y12)) || (decide (y4.2.1.length < 1)))) (eS 1 vt a0.Places) 162 (.load false 1 161) 158 false rfl (fun hg=>(.cons hg .nil)) ?_
 refine gu (!(((y4.1 != (0 : Int)) || (y4.2.2 != y12)) || (decide (y4.2.1.length < 1)))) 163 (.len 0 162) 158 false rfl (fun hg=>(ok_len_m rfl)) (fun hg=>(.cons hg .nil)) ?_
 refine gu (!(((y4.1 != (0 : Int)) || (y4.2.2 != y12)) || (decide (y4.2.1.length < 1)))) 164 (.bin .gtr false 160 163) 158 false rfl (fun hg=>(n_gtr (i:=y4.2.1.length) (j:=a0.Places.length) rfl rfl)) (fun hg=>(.cons hg (.cons hg .nil))) ?_
 refine RegD.op (OpD.or (cy (I0 165 (.pick 158 (.c (.p (.bool true))) 164))) rfl rfl (by first | exact hokO1 | exact hokO0 | simp)) ?_
 refine dko 1 (.i 166 (vb ((((y4.1 != (0 : Int)) || (y4.2.2 != y12)) || (decide (y4.2.1.length < 1))) || (decide (a0.Places.length < y4.2.1.length)))) (.i 165 (vb ((((y4.1 != (0 : Int)) || (y4.2.2 != y12)) || (decide (y4.2.1.length < 1))) || (decide (a0.Places.length < y4.2.1.length)))) (.d .a))) [some (.row 6 [.agg [eS 1 vt a0.Places,eS 1 vt a0.Technicians,eS 4 eRoad a0.Roads,eS 3 eGrand a0.Grands,vi a0.Change,vi a0.Lasts]]),none,none,none,none,none,none,none,none,none,none,none,none,none,none,none,none,none,none,none,none,none] ?_
 refine gd (!((((y4.1 != (0 : Int)) || (y4.2.2 != y12)) || (decide (y4.2.1.length < 1))) || (decide (a0.Places.length < y4.2.1.length)))) (eS 1 vt y4.2.1) 167 (.mov 7) 166 false rfl (fun hg=>(.cons rfl .nil)) ?_
 refine cK h fun c9 h=>?_
 refine gu (!((((y4.1 != (0 : Int)) || (y4.2.2 != y12)) || (decide (y4.2.1.length < 1))) || (decide (a0.Places.length < y4.2.1.length)))) 168 (.iaddr 1 167 (ki 0)) 166 false rfl (fun hg=>(ok_iaddr_m (j:=0) rfl rfl rfl (gor c9 hg))) (fun hg=>(.cons hg (.cons rfl .nil))) ?_
 refine cK h fun c10 h=>?_
 refine gu (!((((y4.1 != (0 : Int)) || (y4.2.2 != y12)) || (decide (y4.2.1.length < 1))) || (decide (a0.Places.length < y4.2.1.length)))) 169 (.load false 1 168) 166 false rfl (fun hg=>(ok_load_fm (v:=vt (ix y4.2.1 0)) rfl (gor c10 hg) rfl)) (fun hg=>(.cons hg .nil)) ?_
 refine gd (!((((y4.1 != (0 : Int)) || (y4.2.2 != y12)) || (decide (y4.2.1.length < 1))) || (decide (a0.Places.length < y4.2.1.length)))) (.fptr 2 [.agg [vt a1.a0,vt a1.a1]] 0 0) 170 (.aaddr 2 1 4 (ki 0)) 166 false rfl (fun hg=>(.cons rfl (.cons rfl .nil))) ?_
 refine gd (!((((y4.1 != (0 : Int)) || (y4.2.2 != y12)) || (decide (y4.2.1.length < 1))) || (decide (a0.Places.length < y4.2.1.length)))) (vt a1.a0) 171 (.load false 1 170) 166 false rfl (fun hg=>(.cons hg .nil)) ?_
 refine gd (!((((y4.1 != (0 : Int)) || (y4.2.2 != y12)) || (decide (y4.2.1.length < 1))) || (decide (a0.Places.length < y4.2.1.length)))) (vb (!((ix y4.2.1 0) == a1.a0))) 172 (.bin .neq false 169 171) 166 false rfl (fun hg=>(.cons hg (.cons hg .nil))) ?_
 refine RegD.op (OpD.or (cy (I0 173 (.pick 166 (.c (.p (.bool true))) 172))) rfl rfl (by first | exact hokO1 | exact hokO0 | simp)) ?_
 refine dko 1 (.i 174 (vb (((((y4.1 != (0 : Int)) || (y4.2.2 != y12)) || (decide (y4.2.1.length < 1))) || (decide (a0.Places.length < y4.2.1.length))) || (!((ix y4.2.1 0) == a1.a0)))) (.i 173 (vb (((((y4.1 != (0 : Int)) || (y4.2.2 != y12)) || (decide (y4.2.1.length < 1))) || (decide (a0.Places.length < y4.2.1.length))) || (!((ix y4.2.1 0) == a1.a0)))) (.d .a))) [some (.row 6 [.agg [eS 1 vt a0.Places,eS 1 vt a0.Technicians,eS 4 eRoad a0.Roads,eS 3 eGrand a0.Grands,vi a0.Change,vi a0.Lasts]]),none,none,none,none,none,none,none,none,none,none,none,none,none,none,none,none,none,none,none,none,none,none,none,none,none,none,none,none,none] ?_
 refine gd (!(((((y4.1 != (0 : Int)) || (y4.2.2 != y12)) || (decide (y4.2.1.length < 1))) || (decide (a0.Places.length < y4.2.1.length))) || (!((ix y4.2.1 0) == a1.a0)))) (eS 1 vt y4.2.1) 175 (.mov 7) 174 false rfl (fun hg=>(.cons rfl .nil)) ?_
 refine gd (!(((((y4.1 != (0 : Int)) || (y4.2.2 != y12)) || (decide (y4.2.1.length < 1))) || (decide (a0.Places.length < y4.2.1.length))) || (!((ix y4.2.1 0) == a1.a0)))) (eS 1 vt y4.2.1) 176 (.mov 7) 174 false rfl (fun hg=>(.cons rfl .nil)) ?_
 refine gu (!(((((y4.1 != (0 : Int)) || (y4.2.2 != y12)) || (decide (y4.2.1.length < 1))) || (decide (a0.Places.length < y4.2.1.length))) || (!((ix y4.2.1 0) == a1.a0)))) 177 (.len 0 176) 174 false rfl (fun hg=>(ok_len_m rfl)) (fun hg=>(.cons hg .nil)) ?_
 refine cK h fun c11 h=>?_
 refine gu (!(((((y4.1 != (0 : Int)) || (y4.2.2 != y12)) || (decide (y4.2.1.length < 1))) || (decide (a0.Places.length < y4.2.1.length))) || (!((ix y4.2.1 0) == a1.a0)))) 178 (.bin .sub false 177 (ki 1)) 174 false rfl (fun hg=>(r_sub rfl rfl (gor c11 hg))) (fun hg=>(.cons hg (.cons rfl .nil))) ?_
 refine cK h fun c12 h=>?_
 refine gu (!(((((y4.1 != (0 : Int)) || (y4.2.2 != y12)) || (decide (y4.2.1.length < 1))) || (decide (a0.Places.length < y4.2.1.length))) || (!((ix y4.2.1 0) == a1.a0)))) 179 (.iaddr 1 175 178) 174 false rfl (fun hg=>(ok_iaddr_m (j:=(((y4.2.1.length : Nat) : Int) - 1).toNat) rfl rfl (inB_to (gor c12 hg)) (inB_lt (gor c12 hg)))) (fun hg=>(.cons hg (.cons hg .nil))) ?_
 refine cK h fun c13 h=>?_
 refine gu (!(((((y4.1 != (0 : Int)) || (y4.2.2 != y12)) || (decide (y4.2.1.length < 1))) || (decide (a0.Places.length < y4.2.1.length))) || (!((ix y4.2.1 0) == a1.a0)))) 180 (.load false 1 179) 174 false rfl (fun hg=>(ok_load_fm (v:=vt (ix y4.2.1 ((((y4.2.1.length : Nat) : Int) - 1).toNat))) rfl (gor c13 hg) rfl)) (fun hg=>(.cons hg .nil)) ?_
 refine gd (!(((((y4.1 != (0 : Int)) || (y4.2.2 != y12)) || (decide (y4.2.1.length < 1))) || (decide (a0.Places.length < y4.2.1.length))) || (!((ix y4.2.1 0) == a1.a0)))) (.fptr 2 [.agg [vt a1.a0,vt a1.a1]] 0 1) 181 (.aaddr 2 1 4 (ki 1)) 174 false rfl (fun hg=>(.cons rfl (.cons rfl .nil))) ?_
 refine gd (!(((((y4.1 != (0 : Int)) || (y4.2.2 != y12)) || (decide (y4.2.1.length < 1))) || (decide (a0.Places.length < y4.2.1.length))) || (!((ix y4.2.1 0) == a1.a0)))) (vt a1.a1) 182 (.load false 1 181) 174 false rfl (fun hg=>(.cons hg .nil)) ?_
 refine gd (!(((((y4.1 != (0 : Int)) || (y4.2.2 != y12)) || (decide (y4.2.1.length < 1))) || (decide (a0.Places.length < y4.2.1.length))) || (!((ix y4.2.1 0) == a1.a0)))) (vb (!((ix y4.2.1 ((((y4.2.1.length : Nat) : Int) - 1).toNat)) == a1.a1))) 183 (.bin .neq false 180 182) 174 false rfl (fun hg=>(.cons hg (.cons hg .nil))) ?_
 refine RegD.op (OpD.or (cy (I0 184 (.pick 174 (.c (.p (.bool true))) 183))) rfl rfl (by first | exact hokO1 | exact hokO0 | simp)) ?_
 refine dfi (ob':=[some (.row 6 [.agg [eS 1 vt a0.Places,eS 1 vt a0.Technicians,eS 4 eRoad a0.Roads,eS 3 eGrand a0.Grands,vi a0.Change,vi a0.Lasts]])]) (.d4 (.d4 (.d4 (.d4 (.d4 (.d4 (.d4 (.d4 (.d4 (.d3 (.k2 (.d (.k2 (.i 184 (vb ((((((y4.1 != (0 : Int)) || (y4.2.2 != y12)) || (decide (y4.2.1.length < 1))) || (decide (a0.Places.length < y4.2.1.length))) || (!((ix y4.2.1 0) == a1.a0))) || (!((ix y4.2.1 ((((y4.2.1.length : Nat) : Int) - 1).toNat)) == a1.a1)))) .n)))))))))))))) [0] (.cons rfl .nil) ?_
 refine tc h (fun c14 h=>?_) (fun c14 h=>?_)
 ·refine sk (.i 6 (vb false) .n) ?_
  refine q3 ?_
  have h:=si h
  subst h
  exact DoneS.ret (S' := ⟨[(6, vb false)], []⟩) (sc [] (by decide) (by kernel_rfl) ObRen.nil rfl rfl) rfl rfl
 refine q2 ?_
 refine TriE.seqK h (fun (_ : Unit)=>St.mk [(2,vi a2),(3,.ptr 0 0 0),(7,eS 1 vt y4.2.1),(8,vi y4.2.2)] [some (.row 6 [.agg [eS 1 vt a0.Places,eS 1 vt a0.Technicians,eS 4 eRoad a0.Roads,eS 3 eGrand a0.Grands,vi a0.Change,vi a0.Lasts]])]) ?_ ?_
 ·rintro ⟨⟩ h
  refine sj ?_
  refine rk 3 (.k4 (.i 200 (.agg [eS 1 vt a0.Places,eS 1 vt a0.Technicians,eS 4 eRoad a0.Roads,eS 3 eGrand a0.Grands,vi a0.Change,vi a0.Lasts]) (.i 201 (eS 1 vt y4.2.1) (.i 202 (vi a2) .n)))) ?_
  refine bK h fun y16 hy16 h=>?_
  refine jc 203 [200,201,202] (agrafferef09_CheckRoute_ok n a0 y4.2.1 a2 y16 hy16) ?_
  refine jk 5 (.d (.k4 (.i 17 (vi y16.2) (.i 18 (vi y16.1) .n)))) ?_
  refine sj ?_
  refine rk 3 (.d3 (.k3 (.i 207 (.agg [eS 1 vt a0.Places,eS 1 vt a0.Technicians,eS 4 eRoad a0.Roads,eS 3 eGrand a0.Grands,vi a0.Change,vi a0.Lasts]) (.i 208 (eS 1 vt y4.2.1) (.i 209 (vi a2) .n))))) ?_
  refine bK h fun y17 hy17 h=>?_
  refine jc 210 [207,208,209] (diary_CheckRoute_ok n a0 y4.2.1 a2 y17 hy17) ?_
  refine jk 5 (.d (.k3 (.i 19 (vi y17.2) (.i 20 (vi y17.1) .n)))) ?_
  refine sj ?_
  refine rk 3 (.k2 (.d (.k2 (.i 215 (vb (y16.1 == (0 : Int))) .n)))) ?_
  refine gj (vi y16.2) 216 (.mov 17) 215 true rfl ?_
  refine gj (vi y4.2.2) 217 (.mov 8) 215 true rfl ?_
  refine gk (vb (y16.2 == y4.2.2)) 218 (.bin .eql false 216 217) 215 true rfl (fun hg=>(.cons hg (.cons hg .nil))) ?_
  refine pa 219 215 218 rfl rfl ?_
  refine rk 1 (.d4 (.k (.d (.k2 (.i 220 (vb ((y16.1 == (0 : Int)) && (y16.2 == y4.2.2))) .n))))) ?_
  refine gj (vi y17.1) 221 (.mov 20) 220 true rfl ?_
  refine gk (vb (y17.1 == (0 : Int))) 222 (.bin .eql false 221 (ki 0)) 220 true rfl (fun hg=>(.cons hg (.cons rfl .nil))) ?_
  refine pa 223 220 222 rfl rfl ?_
  refine rk 1 (.d3 (.k2 (.i 224 (vb (((y16.1 == (0 : Int)) && (y16.2 == y4.2.2)) && (y17.1 == (0 : Int)))) .n))) ?_
  refine gj (vi y17.2) 225 (.mov 19) 224 true rfl ?_
  refine gj (vi y4.2.2) 226 (.mov 8) 224 true rfl ?_
  refine gk (vb (y17.2 == y4.2.2)) 227 (.bin .eql false 225 226) 224 true rfl (fun hg=>(.cons hg (.cons hg .nil))) ?_
  refine pa 228 224 227 rfl rfl ?_
  refine jk 1 (.i 6 (vb ((((y16.1 == (0 : Int)) && (y16.2 == y4.2.2)) && (y17.1 == (0 : Int))) && (y17.2 == y4.2.2))) .n) ?_
  refine q3 ?_
  have h:=si h
  subst h
  exact DoneS.ret (S' := ⟨[(6, vb ((((y16.1 == (0 : Int)) && (y16.2 == y4.2.2)) && (y17.1 == (0 : Int))) && (y17.2 == y4.2.2)))], []⟩) (sc [] (by decide) (by kernel_rfl) ObRen.nil rfl rfl) rfl rfl
 intro k1 h
 refine sk (.k4 (.i 16 (vi 0) .n)) ?_
 refine q4 ?_
 refine ts (.k4 (.i 16 (vi 0) .n)) ?_
 refine TriE.loopN h (fun (v14 : Nat)=>St.mk [(2,vi a2),(3,.ptr 0 0 0),(7,eS 1 vt y4.2.1),(8,vi y4.2.2),(16,vi v14)] [some (.row 6 [.agg [eS 1 vt a0.Places,eS 1 vt a0.Technicians,eS 4 eRoad a0.Roads,eS 3 eGrand a0.Grands,vi a0.Change,vi a0.Lasts]])]) rfl ?_
 clear h
 rintro back v14 h
 dsimp only [agraffelaw09_DiaryRoutes_L1] at h
 refine q1 ?_
 refine sj ?_
 refine rk 2 (.k4 (.k (.i 185 (vi v14) (.i 186 (eS 1 vt y4.2.1) .n)))) ?_
 refine jo 187 (.len 0 186) (ok_len_m rfl) ?_
 refine jo 188 (.bin .lss false 185 187) (n_lss (i:=v14) (j:=y4.2.1.length) rfl rfl) ?_
 refine jf (.d2 (.k4 (.k (.i 188 (vb (decide (v14 < y4.2.1.length))) .n)))) ?_
 refine tc h (fun c15 h=>?_) (fun c15 h=>?_)
 ·refine q2 ?_
  refine q7 ?_
  refine q1 ?_
  refine ts (.k4 (.k .n)) ?_
  refine TriE.draw (by kernel_rfl) ?_
  refine dko 2 (.i 192 (vi v14) (.i 191 (eS 1 vt y4.2.1) .a)) [some (.row 6 [.agg [eS 1 vt a0.Places,eS 1 vt a0.Technicians,eS 4 eRoad a0.Roads,eS 3 eGrand a0.Grands,vi a0.Change,vi a0.Lasts]]),none,none] ?_
  refine cK h fun c16 h=>?_
  refine dp 193 (.slc 1 191 none (some 192) none) (ok_slc_hi (j:=v14) rfl rfl rfl c16) ?_
  refine dko 2 (.i 195 (vi v14) (.i 194 (eS 1 vt y4.2.1) .a)) [some (.row 6 [.agg [eS 1 vt a0.Places,eS 1 vt a0.Technicians,eS 4 eRoad a0.Roads,eS 3 eGrand a0.Grands,vi a0.Change,vi a0.Lasts]]),none,none,none,none,none] ?_
  refine dp 196 (.iaddr 1 194 195) (ok_iaddr_m (j:=v14) rfl rfl rfl c15) ?_
  refine dp 197 (.load false 1 196) (ok_load_fm (v:=vt (ix y4.2.1 v14)) rfl c15 rfl) ?_
  refine bK h fun y15 hy15 h=>?_
  refine dc (vb y15) 0 198 [193,197] (agraffebase_HasText_ok n (List.take v14 y4.2.1) (ix y4.2.1 v14) y15 hy15) [] rfl ObsRen.nil ObsRen.nil rfl (.inr ⟨rfl,rfl⟩) ?_
  refine dfi (ob':=[some (.row 6 [.agg [eS 1 vt a0.Places,eS 1 vt a0.Technicians,eS 4 eRoad a0.Roads,eS 3 eGrand a0.Grands,vi a0.Change,vi a0.Lasts]])]) (.d4 (.d4 (.k4 (.k (.i 198 (vb y15) .n))))) [0] (.cons rfl .nil) ?_
  refine tc h (fun c17 h=>?_) (fun c17 h=>?_)
  ·refine sk (.i 6 (vb false) .n) ?_
   refine q3 ?_
   have h:=si h
   subst h
   exact DoneS.ret (S' := ⟨[(6, vb false)], []⟩) (sc [] (by decide) (by kernel_rfl) ObRen.nil rfl rfl) rfl rfl
  refine q2 ?_
  refine q6 ?_
  refine rk 1 (.k4 (.i 189 (vi v14) .n)) ?_
  refine cK h fun c18 h=>?_
  refine jo 190 (.bin .add false 189 (ki 1)) (r_addn (i:=v14) (j:=1) rfl rfl c18) ?_
  refine jk 1 (.d (.k4 (.i 16 (vi ((v14 + 1 : Nat) : Int)) .n))) ?_
  exact Vs.intro sy ⟨(v14 + 1), rfl, h⟩
 refine q5 ?_
 exact Vs.intro sy ⟨(), rfl, h⟩
end Go.Proofs.YtpmkdgnhllhaeaaGreat.As
