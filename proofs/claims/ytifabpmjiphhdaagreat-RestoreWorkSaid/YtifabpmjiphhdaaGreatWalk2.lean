/- The code computes what the plain functions say, part 2: no condition. -/
import Derived.Test.YtifabpmjiphhdaaGreatWalk1
namespace Go.Proofs.YtifabpmjiphhdaaGreat.As
open Go Go.Proofs
set_option maxRecDepth 4000
set_option maxHeartbeats 1000000 in
theorem q168k (n : Nat) (a0 : List PartCount) (a1 : Int) (a2 : Int) (a3 : Int) (r : Int × (List PartCount)) (h : q11k n a0 a1 a2 a3 = some r) : FnL Tryz.prog 210 [.own 0 0 a0.length,vi a1,vi a2,vi a3,.fn (.func 136) [] []] [some (.row 2 (List.map ePartCount a0))] (vi r.1) [some (.row 2 (List.map ePartCount r.2))] := by
 dsimp only [q11k] at h
 refine fob [10] Tryz.call210 Tryz.func210 rfl (.cons rfl .nil) ?_
 refine sk .a ?_
 refine q1 ?_
 refine ts .a ?_
 refine TriE.draw (by kernel_rfl) ?_
 refine dk 6 (.i 18 (vi a3) (.i 17 (.own 0 0 a0.length) (.i 16 (vi a3) (.i 15 (.own 0 0 a0.length) (.i 14 (vi a1) (.i 13 (.own 0 0 a0.length) .a)))))) ?_
 obtain ⟨c1,h⟩ := ck h
 refine dp 19 (.iaddr 2 17 18) (ok_iaddr_o0 (j := a3.toNat) rfl rfl rfl (inB_to c1) (inB_lt c1)) ?_
 obtain ⟨c2,h⟩ := ck h
 refine dp 20 (.load true 2 19) (ok_load_pm (l := a0) (e := ePartCount) (v := .agg [vt ((ix a0 a3.toNat).Part),vi ((ix a0 a3.toNat).Count)]) rfl rfl c2 rfl) ?_
 refine dk 2 (.i 22 (vi a1) (.i 21 (.own 0 0 a0.length) .a)) ?_
 obtain ⟨c3,h⟩ := ck h
 refine dp 23 (.iaddr 2 21 22) (ok_iaddr_o0 (j := a1.toNat) rfl rfl rfl (inB_to c3) (inB_lt c3)) ?_
 obtain ⟨c4,h⟩ := ck h
 refine dp 24 (.load true 2 23) (ok_load_pm (l := a0) (e := ePartCount) (v := .agg [vt ((ix a0 a1.toNat).Part),vi ((ix a0 a1.toNat).Count)]) rfl rfl c4 rfl) ?_
 refine dp 25 (.iaddr 2 13 14) (ok_iaddr_o0 (j := a1.toNat) rfl rfl rfl (inB_to c3) (inB_lt c3)) ?_
 refine dm (.store 2 25 20) _ (ok_store_m (l := a0) (e := ePartCount) (x' := (ix a0 a3.toNat)) (u := .agg [vt ((ix a0 a3.toNat).Part),vi ((ix a0 a3.toNat).Count)]) rfl rfl rfl c4 rfl rfl) rfl rfl ?_
 refine dp 26 (.iaddr 2 15 16) (ok_iaddr_o0 (j := a3.toNat) rfl rfl rfl (inB_to c1) (inB_lt c1)) ?_
 obtain ⟨c5,h⟩ := ck h
 refine dm (.store 2 26 24) _ (ok_store_m (l := (List.set a0 a1.toNat (ix a0 a3.toNat))) (e := ePartCount) (x' := (ix a0 a1.toNat)) (u := .agg [vt ((ix a0 a1.toNat).Part),vi ((ix a0 a1.toNat).Count)]) rfl rfl rfl c5 rfl rfl) rfl rfl ?_
 refine dfi (.d4 (.d4 (.d4 (.d2 (.k3 (.d .a)))))) [0] (obRen_row ePartCount_frz rfl .nil) ?_
 refine sj ?_
 refine rk 1 (.k4 (.i 27 (vi a1) .n)) ?_
 obtain ⟨c6,h⟩ := ck h
 refine jo 28 (.bin .add false 27 (ki 1)) (r_add rfl rfl c6) ?_
 refine rk 1 (.d (.k2 (.d (.k (.i 28 (vi (a1 + 1)) (.i 29 (vi a2) .n)))))) ?_
 obtain ⟨c7,h⟩ := ck h
 refine jo 30 (.bin .sub false 29 (ki 1)) (r_sub rfl rfl c7) ?_
 refine jk 2 (.d (.k3 (.i 11 (vi (a1 + 1)) (.i 12 (vi (a2 - 1)) .n)))) ?_
 refine TriE.seqK h (fun (t : Int × (List PartCount)) => match t with | (v20,v21) => St.mk [(11,vi v20)] [some (.row 2 (List.map ePartCount v21))]) ?_ ?_
 ·rintro ⟨v20,v21⟩ h
  refine sk (.i 10 (vi v20) .n) ?_
  refine q3 ?_
  have h := si h
  subst h
  exact DoneS.ret Sees.refl rfl rfl
 intro k3 h
 refine q4 ?_
 refine TriE.sees (S' := ⟨[(0,.own 0 0 (List.set (List.set a0 a1.toNat (ix a0 a3.toNat)) a3.toNat (ix a0 a1.toNat)).length),(1,vi a1),(4,.fn (.func 136) [] []),(11,vi (a1 + 1)),(12,vi (a2 - 1))],[some (.row 2 (List.map ePartCount (List.set (List.set a0 a1.toNat (ix a0 a3.toNat)) a3.toNat (ix a0 a1.toNat))))]⟩) (Sees.less (.cons (by simp only [List.length_set]; rfl) (.cons rfl (.cons rfl (.cons rfl (.cons rfl .nil)))))) ?_
 refine TriE.loopN h (fun (t : Int × Int × (List PartCount)) => match t with | (v9,v10,v11) => St.mk [(0,.own 0 0 v11.length),(1,vi a1),(4,.fn (.func 136) [] []),(11,vi v9),(12,vi v10)] [some (.row 2 (List.map ePartCount v11))]) rfl ?_
 clear h
 rintro back ⟨v9,v10,v11⟩ h
 dsimp only [q29k] at h
 refine q4 ?_
 refine TriE.seqK h (fun (v15 : Int) => St.mk [(0,.own 0 0 v11.length),(1,vi a1),(4,.fn (.func 136) [] []),(11,vi v15),(12,vi v10)] [some (.row 2 (List.map ePartCount v11))]) ?_ ?_
 ·rintro v15 h
  refine TriE.seqK h (fun (v19 : Int) => St.mk [(0,.own 0 0 v11.length),(1,vi a1),(4,.fn (.func 136) [] []),(11,vi v15),(12,vi v19)] [some (.row 2 (List.map ePartCount v11))]) ?_ ?_
  ·rintro v19 h
   refine q1 ?_
   refine sk (.k4 (.k (.i 70 (vb (decide (v19 < v15))) .n))) ?_
   refine tc h (fun c20 h => ?_) (fun c20 h => ?_)
   ·refine q5 ?_
    exact Vs.intro sy ⟨(v15,v11),rfl,h⟩
   refine q2 ?_
   refine q1 ?_
   refine ts (.k4 (.k .n)) ?_
   refine TriE.draw (by kernel_rfl) ?_
   refine dk 6 (.i 76 (vi v19) (.i 75 (.own 0 0 v11.length) (.i 74 (vi v19) (.i 73 (.own 0 0 v11.length) (.i 72 (vi v15) (.i 71 (.own 0 0 v11.length) .a)))))) ?_
   obtain ⟨c21,h⟩ := ck h
   refine dp 77 (.iaddr 2 75 76) (ok_iaddr_o0 (j := v19.toNat) rfl rfl rfl (inB_to c21) (inB_lt c21)) ?_
   obtain ⟨c22,h⟩ := ck h
   refine dp 78 (.load true 2 77) (ok_load_pm (l := v11) (e := ePartCount) (v := .agg [vt ((ix v11 v19.toNat).Part),vi ((ix v11 v19.toNat).Count)]) rfl rfl c22 rfl) ?_
   refine dk 2 (.i 80 (vi v15) (.i 79 (.own 0 0 v11.length) .a)) ?_
   obtain ⟨c23,h⟩ := ck h
   refine dp 81 (.iaddr 2 79 80) (ok_iaddr_o0 (j := v15.toNat) rfl rfl rfl (inB_to c23) (inB_lt c23)) ?_
   obtain ⟨c24,h⟩ := ck h
   refine dp 82 (.load true 2 81) (ok_load_pm (l := v11) (e := ePartCount) (v := .agg [vt ((ix v11 v15.toNat).Part),vi ((ix v11 v15.toNat).Count)]) rfl rfl c24 rfl) ?_
   refine dp 83 (.iaddr 2 71 72) (ok_iaddr_o0 (j := v15.toNat) rfl rfl rfl (inB_to c23) (inB_lt c23)) ?_
   refine dm (.store 2 83 78) _ (ok_store_m (l := v11) (e := ePartCount) (x' := (ix v11 v19.toNat)) (u := .agg [vt ((ix v11 v19.toNat).Part),vi ((ix v11 v19.toNat).Count)]) rfl rfl rfl c24 rfl rfl) rfl rfl ?_
   refine dp 84 (.iaddr 2 73 74) (ok_iaddr_o0 (j := v19.toNat) rfl rfl rfl (inB_to c21) (inB_lt c21)) ?_
   obtain ⟨c25,h⟩ := ck h
   refine dm (.store 2 84 82) _ (ok_store_m (l := (List.set v11 v15.toNat (ix v11 v19.toNat))) (e := ePartCount) (x' := (ix v11 v15.toNat)) (u := .agg [vt ((ix v11 v15.toNat).Part),vi ((ix v11 v15.toNat).Count)]) rfl rfl rfl c25 rfl rfl) rfl rfl ?_
   refine dfi (.d4 (.d4 (.d4 (.d2 .a)))) [0] (obRen_row ePartCount_frz rfl .nil) ?_
   refine sj ?_
   refine rk 1 (.k3 (.d (.k (.i 85 (vi v15) .n)))) ?_
   obtain ⟨c26,h⟩ := ck h
   refine jo 86 (.bin .add false 85 (ki 1)) (r_add rfl rfl c26) ?_
   refine jk 1 (.d (.k4 (.i 11 (vi (v15 + 1)) .n))) ?_
   refine q6 ?_
   refine rk 1 (.k3 (.d (.k (.i 87 (vi v19) .n)))) ?_
   obtain ⟨c27,h⟩ := ck h
   refine jo 88 (.bin .sub false 87 (ki 1)) (r_sub rfl rfl c27) ?_
   refine jk 1 (.d (.k4 (.i 12 (vi (v19 - 1)) .n))) ?_
   exact Vs.intro (Sees.less (.cons (by simp only [List.length_set]; rfl) (.cons rfl (.cons rfl (.cons rfl (.cons rfl .nil)))))) ⟨(v15 + 1,v19 - 1,(List.set (List.set v11 v15.toNat (ix v11 v19.toNat)) v19.toNat (ix v11 v15.toNat))),rfl,h⟩
  intro k2 h
  refine q4 ?_
  refine TriE.loopN h (fun (v17 : Int) => St.mk [(0,.own 0 0 v11.length),(1,vi a1),(4,.fn (.func 136) [] []),(11,vi v15),(12,vi v17)] [some (.row 2 (List.map ePartCount v11))]) rfl ?_
  clear h
  rintro back v17 h
  dsimp only [q28k] at h
  refine q1 ?_
  refine q1 ?_
  refine ts .a ?_
  refine TriE.draw (by kernel_rfl) ?_
  refine dk 4 (.i 53 (vb (decide (v15 ≤ v17))) (.i 52 (vb (decide (v15 ≤ v17))) (.i 51 (vi v17) (.i 50 (vi v15) .a)))) ?_
  refine gd (decide (v15 ≤ v17)) (.fn (.func 136) [] []) 54 (.mov 4) 53 true rfl (fun hg => (.cons rfl .nil)) ?_
  refine gd (decide (v15 ≤ v17)) (.own 0 0 v11.length) 55 (.mov 0) 53 true rfl (fun hg => (.cons rfl .nil)) ?_
  refine gd (decide (v15 ≤ v17)) (vi a1) 56 (.mov 1) 53 true rfl (fun hg => (.cons rfl .nil)) ?_
  obtain ⟨c14,h⟩ := ck h
  refine gu (decide (v15 ≤ v17)) 57 (.iaddr 2 55 56) 53 true rfl (fun hg => (ok_iaddr_o0 (j := a1.toNat) rfl rfl rfl (inB_to (gor c14 hg)) (inB_lt (gor c14 hg)))) (fun hg => (.cons hg (.cons hg .nil))) ?_
  obtain ⟨c15,h⟩ := ck h
  refine gu (decide (v15 ≤ v17)) 58 (.load true 2 57) 53 true rfl (fun hg => (ok_load_pm (l := v11) (e := ePartCount) (v := .agg [vt ((ix v11 a1.toNat).Part),vi ((ix v11 a1.toNat).Count)]) rfl rfl (gor c15 hg) rfl)) (fun hg => (.cons hg .nil)) ?_
  refine gd (decide (v15 ≤ v17)) (.own 0 0 v11.length) 59 (.mov 0) 53 true rfl (fun hg => (.cons rfl .nil)) ?_
  refine gd (decide (v15 ≤ v17)) (vi v17) 60 (.mov 12) 53 true rfl (fun hg => (.cons rfl .nil)) ?_
  obtain ⟨c16,h⟩ := ck h
  refine gu (decide (v15 ≤ v17)) 61 (.iaddr 2 59 60) 53 true rfl (fun hg => (ok_iaddr_o0 (j := v17.toNat) rfl rfl rfl (inB_to (gor c16 hg)) (inB_lt (gor c16 hg)))) (fun hg => (.cons hg (.cons hg .nil))) ?_
  obtain ⟨c17,h⟩ := ck h
  refine gu (decide (v15 ≤ v17)) 62 (.load true 2 61) 53 true rfl (fun hg => (ok_load_pm (l := v11) (e := ePartCount) (v := .agg [vt ((ix v11 v17.toNat).Part),vi ((ix v11 v17.toNat).Count)]) rfl rfl (gor c17 hg) rfl)) (fun hg => (.cons hg .nil)) ?_
  obtain ⟨y18,hy18,h⟩ := bs h
  refine RegD.op (OpD.dyng (g := decide (v15 ≤ v17)) (y' := vi y18) (obx := []) _ _ _ (cy (IG 63 (.dyn 54 [58,62]) 53 true)) rfl rfl (fun hg => q6k n (ix v11 a1.toNat) (ix v11 v17.toNat) y18 (gcall_some hy18 hg)) [] (fun hg => by kernel_rfl) (fun hg => (.cons hg (.cons hg (.cons hg .nil)))) (by kernel_rfl) (by kernel_rfl) ObsRen.nil (by kernel_rfl) (by kernel_rfl) rfl) ?_
  refine gd (decide (v15 ≤ v17)) (vb (decide (y18 < (0 : Int)))) 64 (.bin .lss false 63 (ki 0)) 53 true rfl (fun hg => (.cons hg (.cons rfl .nil))) ?_
  refine RegD.op (OpD.and (cy (I0 65 (.pick 53 64 (.c (.p (.bool false)))))) rfl rfl (by first | exact hokA1 | exact hokA0 | simp)) ?_
  refine dfi (.d4 (.d4 (.d4 (.d4 (.k4 (.k (.i 65 (vb ((decide (v15 ≤ v17)) && (decide (y18 < (0 : Int))))) .n))))))) [0] (obRen_row ePartCount_frz rfl .nil) ?_
  refine tc h (fun c18 h => ?_) (fun c18 h => ?_)
  ·refine q2 ?_
   refine q4 ?_
   refine q6 ?_
   refine rk 1 (.k4 (.i 66 (vi v17) .n)) ?_
   obtain ⟨c19,h⟩ := ck h
   refine jo 67 (.bin .sub false 66 (ki 1)) (r_sub rfl rfl c19) ?_
   refine jk 1 (.d (.k4 (.i 12 (vi (v17 - 1)) .n))) ?_
   exact Vs.intro Sees.refl ⟨(v17 - 1),rfl,h⟩
  refine q5 ?_
  exact Vs.intro sy ⟨v17,rfl,h⟩
 intro k1 h
 refine q4 ?_
 refine TriE.loopN h (fun (v13 : Int) => St.mk [(0,.own 0 0 v11.length),(1,vi a1),(4,.fn (.func 136) [] []),(11,vi v13),(12,vi v10)] [some (.row 2 (List.map ePartCount v11))]) rfl ?_
 clear h
 rintro back v13 h
 dsimp only [q27k] at h
 refine q1 ?_
 refine q1 ?_
 refine ts .a ?_
 refine TriE.draw (by kernel_rfl) ?_
 refine dk 4 (.i 34 (vb (decide (v13 ≤ v10))) (.i 33 (vb (decide (v13 ≤ v10))) (.i 32 (vi v10) (.i 31 (vi v13) .a)))) ?_
 refine gd (decide (v13 ≤ v10)) (.fn (.func 136) [] []) 35 (.mov 4) 34 true rfl (fun hg => (.cons rfl .nil)) ?_
 refine gd (decide (v13 ≤ v10)) (.own 0 0 v11.length) 36 (.mov 0) 34 true rfl (fun hg => (.cons rfl .nil)) ?_
 refine gd (decide (v13 ≤ v10)) (vi a1) 37 (.mov 1) 34 true rfl (fun hg => (.cons rfl .nil)) ?_
 obtain ⟨c8,h⟩ := ck h
 refine gu (decide (v13 ≤ v10)) 38 (.iaddr 2 36 37) 34 true rfl (fun hg => (ok_iaddr_o0 (j := a1.toNat) rfl rfl rfl (inB_to (gor c8 hg)) (inB_lt (gor c8 hg)))) (fun hg => (.cons hg (.cons hg .nil))) ?_
 obtain ⟨c9,h⟩ := ck h
 refine gu (decide (v13 ≤ v10)) 39 (.load true 2 38) 34 true rfl (fun hg => (ok_load_pm (l := v11) (e := ePartCount) (v := .agg [vt ((ix v11 a1.toNat).Part),vi ((ix v11 a1.toNat).Count)]) rfl rfl (gor c9 hg) rfl)) (fun hg => (.cons hg .nil)) ?_
 refine gd (decide (v13 ≤ v10)) (.own 0 0 v11.length) 40 (.mov 0) 34 true rfl (fun hg => (.cons rfl .nil)) ?_
 refine gd (decide (v13 ≤ v10)) (vi v13) 41 (.mov 11) 34 true rfl (fun hg => (.cons rfl .nil)) ?_
 obtain ⟨c10,h⟩ := ck h
 refine gu (decide (v13 ≤ v10)) 42 (.iaddr 2 40 41) 34 true rfl (fun hg => (ok_iaddr_o0 (j := v13.toNat) rfl rfl rfl (inB_to (gor c10 hg)) (inB_lt (gor c10 hg)))) (fun hg => (.cons hg (.cons hg .nil))) ?_
 obtain ⟨c11,h⟩ := ck h
 refine gu (decide (v13 ≤ v10)) 43 (.load true 2 42) 34 true rfl (fun hg => (ok_load_pm (l := v11) (e := ePartCount) (v := .agg [vt ((ix v11 v13.toNat).Part),vi ((ix v11 v13.toNat).Count)]) rfl rfl (gor c11 hg) rfl)) (fun hg => (.cons hg .nil)) ?_
 obtain ⟨y14,hy14,h⟩ := bs h
 refine RegD.op (OpD.dyng (g := decide (v13 ≤ v10)) (y' := vi y14) (obx := []) _ _ _ (cy (IG 44 (.dyn 35 [39,43]) 34 true)) rfl rfl (fun hg => q6k n (ix v11 a1.toNat) (ix v11 v13.toNat) y14 (gcall_some hy14 hg)) [] (fun hg => by kernel_rfl) (fun hg => (.cons hg (.cons hg (.cons hg .nil)))) (by kernel_rfl) (by kernel_rfl) ObsRen.nil (by kernel_rfl) (by kernel_rfl) rfl) ?_
 refine gd (decide (v13 ≤ v10)) (vb (decide (y14 < (0 : Int)))) 45 (.bin .lss false 44 (ki 0)) 34 true rfl (fun hg => (.cons hg (.cons rfl .nil))) ?_
 refine gd (decide (v13 ≤ v10)) (vb (!(decide (y14 < (0 : Int))))) 46 (.un .not 45) 34 true rfl (fun hg => (.cons hg .nil)) ?_
 refine RegD.op (OpD.and (cy (I0 47 (.pick 34 46 (.c (.p (.bool false)))))) rfl rfl (by first | exact hokA1 | exact hokA0 | simp)) ?_
 refine dfi (.d4 (.d4 (.d4 (.d4 (.d (.k4 (.k (.i 47 (vb ((decide (v13 ≤ v10)) && (!(decide (y14 < (0 : Int)))))) .n)))))))) [0] (obRen_row ePartCount_frz rfl .nil) ?_
 refine tc h (fun c12 h => ?_) (fun c12 h => ?_)
 ·refine q2 ?_
  refine q4 ?_
  refine q6 ?_
  refine rk 1 (.k3 (.d (.k (.i 48 (vi v13) .n)))) ?_
  obtain ⟨c13,h⟩ := ck h
  refine jo 49 (.bin .add false 48 (ki 1)) (r_add rfl rfl c13) ?_
  refine jk 1 (.d (.k4 (.i 11 (vi (v13 + 1)) .n))) ?_
  exact Vs.intro sy ⟨(v13 + 1),rfl,h⟩
 refine q5 ?_
 exact Vs.intro sy ⟨v13,rfl,h⟩
set_option maxHeartbeats 1000000 in
theorem q189k (n : Nat) (a0 : List PartCount) (a1 : Int) (a2 : Int) (a3 : Int) (r : Int × (List PartCount) × Bool) (h : q21k n a0 a1 a2 a3 = some r) : FnL Tryz.prog 211 [.own 0 0 a0.length,vi a1,vi a2,vi a3,.fn (.func 136) [] []] [some (.row 2 (List.map ePartCount a0))] (.tup [vi r.1,vb r.2.2]) [some (.row 2 (List.map ePartCount r.2.1))] := by
 dsimp only [q21k] at h
 refine fob [10,11] Tryz.call211 Tryz.func211 rfl (.cons rfl .nil) ?_
 refine sk .a ?_
 refine q1 ?_
 refine ts .a ?_
 refine TriE.draw (by kernel_rfl) ?_
 refine dk 6 (.i 19 (vi a3) (.i 18 (.own 0 0 a0.length) (.i 17 (vi a3) (.i 16 (.own 0 0 a0.length) (.i 15 (vi a1) (.i 14 (.own 0 0 a0.length) .a)))))) ?_
 obtain ⟨c1,h⟩ := ck h
 refine dp 20 (.iaddr 2 18 19) (ok_iaddr_o0 (j := a3.toNat) rfl rfl rfl (inB_to c1) (inB_lt c1)) ?_
 obtain ⟨c2,h⟩ := ck h
 refine dp 21 (.load true 2 20) (ok_load_pm (l := a0) (e := ePartCount) (v := .agg [vt ((ix a0 a3.toNat).Part),vi ((ix a0 a3.toNat).Count)]) rfl rfl c2 rfl) ?_
 refine dk 2 (.i 23 (vi a1) (.i 22 (.own 0 0 a0.length) .a)) ?_
 obtain ⟨c3,h⟩ := ck h
 refine dp 24 (.iaddr 2 22 23) (ok_iaddr_o0 (j := a1.toNat) rfl rfl rfl (inB_to c3) (inB_lt c3)) ?_
 obtain ⟨c4,h⟩ := ck h
 refine dp 25 (.load true 2 24) (ok_load_pm (l := a0) (e := ePartCount) (v := .agg [vt ((ix a0 a1.toNat).Part),vi ((ix a0 a1.toNat).Count)]) rfl rfl c4 rfl) ?_
 refine dp 26 (.iaddr 2 14 15) (ok_iaddr_o0 (j := a1.toNat) rfl rfl rfl (inB_to c3) (inB_lt c3)) ?_
 refine dm (.store 2 26 21) _ (ok_store_m (l := a0) (e := ePartCount) (x' := (ix a0 a3.toNat)) (u := .agg [vt ((ix a0 a3.toNat).Part),vi ((ix a0 a3.toNat).Count)]) rfl rfl rfl c4 rfl rfl) rfl rfl ?_
 refine dp 27 (.iaddr 2 16 17) (ok_iaddr_o0 (j := a3.toNat) rfl rfl rfl (inB_to c1) (inB_lt c1)) ?_
 obtain ⟨c5,h⟩ := ck h
 refine dm (.store 2 27 25) _ (ok_store_m (l := (List.set a0 a1.toNat (ix a0 a3.toNat))) (e := ePartCount) (x' := (ix a0 a1.toNat)) (u := .agg [vt ((ix a0 a1.toNat).Part),vi ((ix a0 a1.toNat).Count)]) rfl rfl rfl c5 rfl rfl) rfl rfl ?_
 refine dfi (.d4 (.d4 (.d4 (.d2 (.k3 (.d .a)))))) [0] (obRen_row ePartCount_frz rfl .nil) ?_
 refine sj ?_
 refine rk 1 (.k4 (.i 28 (vi a1) .n)) ?_
 obtain ⟨c6,h⟩ := ck h
 refine jo 29 (.bin .add false 28 (ki 1)) (r_add rfl rfl c6) ?_
 refine rk 1 (.d (.k2 (.d (.k (.i 29 (vi (a1 + 1)) (.i 30 (vi a2) .n)))))) ?_
 obtain ⟨c7,h⟩ := ck h
 refine jo 31 (.bin .sub false 30 (ki 1)) (r_sub rfl rfl c7) ?_
 refine jk 2 (.d (.k3 (.i 12 (vi (a1 + 1)) (.i 13 (vi (a2 - 1)) .n)))) ?_
 refine TriE.seqK h (fun (v4 : Int) => St.mk [(0,.own 0 0 a0.length),(1,vi a1),(4,.fn (.func 136) [] []),(12,vi v4),(13,vi (a2 - 1))] [some (.row 2 (List.map ePartCount (List.set (List.set a0 a1.toNat (ix a0 a3.toNat)) a3.toNat (ix a0 a1.toNat))))]) ?_ ?_
 ·rintro v4 h
  refine TriE.seqK h (fun (v8 : Int) => St.mk [(0,.own 0 0 a0.length),(1,vi a1),(4,.fn (.func 136) [] []),(12,vi v4),(13,vi v8)] [some (.row 2 (List.map ePartCount (List.set (List.set a0 a1.toNat (ix a0 a3.toNat)) a3.toNat (ix a0 a1.toNat))))]) ?_ ?_
  ·rintro v8 h
   refine q1 ?_
   refine sk (.k4 (.k (.i 71 (vb (decide (v8 < v4))) .n))) ?_
   refine tc h (fun c18 h => ?_) (fun c18 h => ?_)
   ·refine q1 ?_
    refine ts (.k2 (.d2 (.k .n))) ?_
    refine TriE.draw (by kernel_rfl) ?_
    refine dk 6 (.i 77 (vi a1) (.i 76 (.own 0 0 a0.length) (.i 75 (vi a1) (.i 74 (.own 0 0 a0.length) (.i 73 (vi v8) (.i 72 (.own 0 0 a0.length) .a)))))) ?_
    refine dp 78 (.iaddr 2 76 77) (ok_iaddr_o0 (j := a1.toNat) rfl rfl rfl (inB_to c3) (inB_lt c3)) ?_
    obtain ⟨c19,h⟩ := ck h
    refine dp 79 (.load true 2 78) (ok_load_pm (l := (List.set (List.set a0 a1.toNat (ix a0 a3.toNat)) a3.toNat (ix a0 a1.toNat))) (e := ePartCount) (v := .agg [vt ((ix (List.set (List.set a0 a1.toNat (ix a0 a3.toNat)) a3.toNat (ix a0 a1.toNat)) a1.toNat).Part),vi ((ix (List.set (List.set a0 a1.toNat (ix a0 a3.toNat)) a3.toNat (ix a0 a1.toNat)) a1.toNat).Count)]) rfl rfl c19 rfl) ?_
    refine dk 2 (.i 81 (vi v8) (.i 80 (.own 0 0 a0.length) .a)) ?_
    obtain ⟨c20,h⟩ := ck h
    refine dp 82 (.iaddr 2 80 81) (ok_iaddr_o0 (j := v8.toNat) rfl rfl rfl (inB_to c20) (inB_lt c20)) ?_
    obtain ⟨c21,h⟩ := ck h
    refine dp 83 (.load true 2 82) (ok_load_pm (l := (List.set (List.set a0 a1.toNat (ix a0 a3.toNat)) a3.toNat (ix a0 a1.toNat))) (e := ePartCount) (v := .agg [vt ((ix (List.set (List.set a0 a1.toNat (ix a0 a3.toNat)) a3.toNat (ix a0 a1.toNat)) v8.toNat).Part),vi ((ix (List.set (List.set a0 a1.toNat (ix a0 a3.toNat)) a3.toNat (ix a0 a1.toNat)) v8.toNat).Count)]) rfl rfl c21 rfl) ?_
    refine dp 84 (.iaddr 2 72 73) (ok_iaddr_o0 (j := v8.toNat) rfl rfl rfl (inB_to c20) (inB_lt c20)) ?_
    refine dm (.store 2 84 79) _ (ok_store_m (l := (List.set (List.set a0 a1.toNat (ix a0 a3.toNat)) a3.toNat (ix a0 a1.toNat))) (e := ePartCount) (x' := (ix (List.set (List.set a0 a1.toNat (ix a0 a3.toNat)) a3.toNat (ix a0 a1.toNat)) a1.toNat)) (u := .agg [vt ((ix (List.set (List.set a0 a1.toNat (ix a0 a3.toNat)) a3.toNat (ix a0 a1.toNat)) a1.toNat).Part),vi ((ix (List.set (List.set a0 a1.toNat (ix a0 a3.toNat)) a3.toNat (ix a0 a1.toNat)) a1.toNat).Count)]) rfl rfl rfl c21 rfl rfl) rfl rfl ?_
    refine dp 85 (.iaddr 2 74 75) (ok_iaddr_o0 (j := a1.toNat) rfl rfl rfl (inB_to c3) (inB_lt c3)) ?_
    obtain ⟨c22,h⟩ := ck h
    refine dm (.store 2 85 83) _ (ok_store_m (l := (List.set (List.set (List.set a0 a1.toNat (ix a0 a3.toNat)) a3.toNat (ix a0 a1.toNat)) v8.toNat (ix (List.set (List.set a0 a1.toNat (ix a0 a3.toNat)) a3.toNat (ix a0 a1.toNat)) a1.toNat))) (e := ePartCount) (x' := (ix (List.set (List.set a0 a1.toNat (ix a0 a3.toNat)) a3.toNat (ix a0 a1.toNat)) v8.toNat)) (u := .agg [vt ((ix (List.set (List.set a0 a1.toNat (ix a0 a3.toNat)) a3.toNat (ix a0 a1.toNat)) v8.toNat).Part),vi ((ix (List.set (List.set a0 a1.toNat (ix a0 a3.toNat)) a3.toNat (ix a0 a1.toNat)) v8.toNat).Count)]) rfl rfl rfl c22 rfl rfl) rfl rfl ?_
    refine dfi (.d4 (.d4 (.d4 (.d4 .a)))) [0] (obRen_row ePartCount_frz rfl .nil) ?_
    refine sk (.i 10 (vi v8) (.i 11 (vb true) .n)) ?_
    refine q3 ?_
    have h := si h
    subst h
    exact DoneS.ret Sees.refl rfl rfl
   refine q2 ?_
   refine q1 ?_
   refine ts (.k4 (.k .n)) ?_
   refine TriE.draw (by kernel_rfl) ?_
   refine dk 6 (.i 92 (vi v8) (.i 91 (.own 0 0 a0.length) (.i 90 (vi v8) (.i 89 (.own 0 0 a0.length) (.i 88 (vi v4) (.i 87 (.own 0 0 a0.length) .a)))))) ?_
   obtain ⟨c23,h⟩ := ck h
   refine dp 93 (.iaddr 2 91 92) (ok_iaddr_o0 (j := v8.toNat) rfl rfl rfl (inB_to c23) (inB_lt c23)) ?_
   obtain ⟨c24,h⟩ := ck h
   refine dp 94 (.load true 2 93) (ok_load_pm (l := (List.set (List.set a0 a1.toNat (ix a0 a3.toNat)) a3.toNat (ix a0 a1.toNat))) (e := ePartCount) (v := .agg [vt ((ix (List.set (List.set a0 a1.toNat (ix a0 a3.toNat)) a3.toNat (ix a0 a1.toNat)) v8.toNat).Part),vi ((ix (List.set (List.set a0 a1.toNat (ix a0 a3.toNat)) a3.toNat (ix a0 a1.toNat)) v8.toNat).Count)]) rfl rfl c24 rfl) ?_
   refine dk 2 (.i 96 (vi v4) (.i 95 (.own 0 0 a0.length) .a)) ?_
   obtain ⟨c25,h⟩ := ck h
   refine dp 97 (.iaddr 2 95 96) (ok_iaddr_o0 (j := v4.toNat) rfl rfl rfl (inB_to c25) (inB_lt c25)) ?_
   obtain ⟨c26,h⟩ := ck h
   refine dp 98 (.load true 2 97) (ok_load_pm (l := (List.set (List.set a0 a1.toNat (ix a0 a3.toNat)) a3.toNat (ix a0 a1.toNat))) (e := ePartCount) (v := .agg [vt ((ix (List.set (List.set a0 a1.toNat (ix a0 a3.toNat)) a3.toNat (ix a0 a1.toNat)) v4.toNat).Part),vi ((ix (List.set (List.set a0 a1.toNat (ix a0 a3.toNat)) a3.toNat (ix a0 a1.toNat)) v4.toNat).Count)]) rfl rfl c26 rfl) ?_
   refine dp 99 (.iaddr 2 87 88) (ok_iaddr_o0 (j := v4.toNat) rfl rfl rfl (inB_to c25) (inB_lt c25)) ?_
   refine dm (.store 2 99 94) _ (ok_store_m (l := (List.set (List.set a0 a1.toNat (ix a0 a3.toNat)) a3.toNat (ix a0 a1.toNat))) (e := ePartCount) (x' := (ix (List.set (List.set a0 a1.toNat (ix a0 a3.toNat)) a3.toNat (ix a0 a1.toNat)) v8.toNat)) (u := .agg [vt ((ix (List.set (List.set a0 a1.toNat (ix a0 a3.toNat)) a3.toNat (ix a0 a1.toNat)) v8.toNat).Part),vi ((ix (List.set (List.set a0 a1.toNat (ix a0 a3.toNat)) a3.toNat (ix a0 a1.toNat)) v8.toNat).Count)]) rfl rfl rfl c26 rfl rfl) rfl rfl ?_
   refine dp 100 (.iaddr 2 89 90) (ok_iaddr_o0 (j := v8.toNat) rfl rfl rfl (inB_to c23) (inB_lt c23)) ?_
   obtain ⟨c27,h⟩ := ck h
   refine dm (.store 2 100 98) _ (ok_store_m (l := (List.set (List.set (List.set a0 a1.toNat (ix a0 a3.toNat)) a3.toNat (ix a0 a1.toNat)) v4.toNat (ix (List.set (List.set a0 a1.toNat (ix a0 a3.toNat)) a3.toNat (ix a0 a1.toNat)) v8.toNat))) (e := ePartCount) (x' := (ix (List.set (List.set a0 a1.toNat (ix a0 a3.toNat)) a3.toNat (ix a0 a1.toNat)) v4.toNat)) (u := .agg [vt ((ix (List.set (List.set a0 a1.toNat (ix a0 a3.toNat)) a3.toNat (ix a0 a1.toNat)) v4.toNat).Part),vi ((ix (List.set (List.set a0 a1.toNat (ix a0 a3.toNat)) a3.toNat (ix a0 a1.toNat)) v4.toNat).Count)]) rfl rfl rfl c27 rfl rfl) rfl rfl ?_
   refine dfi (.d4 (.d4 (.d4 (.d2 .a)))) [0] (obRen_row ePartCount_frz rfl .nil) ?_
   refine sj ?_
   refine rk 1 (.k3 (.d (.k (.i 101 (vi v4) .n)))) ?_
   obtain ⟨c28,h⟩ := ck h
   refine jo 102 (.bin .add false 101 (ki 1)) (r_add rfl rfl c28) ?_
   refine jk 1 (.d (.k4 (.i 12 (vi (v4 + 1)) .n))) ?_
   refine sj ?_
   refine rk 1 (.k3 (.d (.k (.i 103 (vi v8) .n)))) ?_
   obtain ⟨c29,h⟩ := ck h
   refine jo 104 (.bin .sub false 103 (ki 1)) (r_sub rfl rfl c29) ?_
   refine jk 1 (.d (.k4 (.i 13 (vi (v8 - 1)) .n))) ?_
   refine TriE.seqK h (fun (t : Int × (List PartCount)) => match t with | (v28,v29) => St.mk [(0,.own 0 0 v29.length),(1,vi a1),(13,vi v28)] [some (.row 2 (List.map ePartCount v29))]) ?_ ?_
   ·rintro ⟨v28,v29⟩ h
    refine q1 ?_
    refine ts .a ?_
    refine TriE.draw (by kernel_rfl) ?_
    refine dk 6 (.i 168 (vi a1) (.i 167 (.own 0 0 v29.length) (.i 166 (vi a1) (.i 165 (.own 0 0 v29.length) (.i 164 (vi v28) (.i 163 (.own 0 0 v29.length) .a)))))) ?_
    obtain ⟨c50,h⟩ := ck h
    refine dp 169 (.iaddr 2 167 168) (ok_iaddr_o0 (j := a1.toNat) rfl rfl rfl (inB_to c50) (inB_lt c50)) ?_
    obtain ⟨c51,h⟩ := ck h
    refine dp 170 (.load true 2 169) (ok_load_pm (l := v29) (e := ePartCount) (v := .agg [vt ((ix v29 a1.toNat).Part),vi ((ix v29 a1.toNat).Count)]) rfl rfl c51 rfl) ?_
    refine dk 2 (.i 172 (vi v28) (.i 171 (.own 0 0 v29.length) .a)) ?_
    obtain ⟨c52,h⟩ := ck h
    refine dp 173 (.iaddr 2 171 172) (ok_iaddr_o0 (j := v28.toNat) rfl rfl rfl (inB_to c52) (inB_lt c52)) ?_
    obtain ⟨c53,h⟩ := ck h
    refine dp 174 (.load true 2 173) (ok_load_pm (l := v29) (e := ePartCount) (v := .agg [vt ((ix v29 v28.toNat).Part),vi ((ix v29 v28.toNat).Count)]) rfl rfl c53 rfl) ?_
    refine dp 175 (.iaddr 2 163 164) (ok_iaddr_o0 (j := v28.toNat) rfl rfl rfl (inB_to c52) (inB_lt c52)) ?_
    refine dm (.store 2 175 170) _ (ok_store_m (l := v29) (e := ePartCount) (x' := (ix v29 a1.toNat)) (u := .agg [vt ((ix v29 a1.toNat).Part),vi ((ix v29 a1.toNat).Count)]) rfl rfl rfl c53 rfl rfl) rfl rfl ?_
    refine dp 176 (.iaddr 2 165 166) (ok_iaddr_o0 (j := a1.toNat) rfl rfl rfl (inB_to c50) (inB_lt c50)) ?_
    obtain ⟨c54,h⟩ := ck h
    refine dm (.store 2 176 174) _ (ok_store_m (l := (List.set v29 v28.toNat (ix v29 a1.toNat))) (e := ePartCount) (x' := (ix v29 v28.toNat)) (u := .agg [vt ((ix v29 v28.toNat).Part),vi ((ix v29 v28.toNat).Count)]) rfl rfl rfl c54 rfl rfl) rfl rfl ?_
    refine dfi (.d4 (.d4 (.d4 (.d4 .a)))) [0] (obRen_row ePartCount_frz rfl .nil) ?_
    refine sk (.i 10 (vi v28) (.i 11 (vb false) .n)) ?_
    refine q3 ?_
    have h := si h
    subst h
    exact DoneS.ret Sees.refl rfl rfl
   intro k5 h
   refine q4 ?_
   refine TriE.sees (S' := ⟨[(0,.own 0 0 (List.set (List.set (List.set (List.set a0 a1.toNat (ix a0 a3.toNat)) a3.toNat (ix a0 a1.toNat)) v4.toNat (ix (List.set (List.set a0 a1.toNat (ix a0 a3.toNat)) a3.toNat (ix a0 a1.toNat)) v8.toNat)) v8.toNat (ix (List.set (List.set a0 a1.toNat (ix a0 a3.toNat)) a3.toNat (ix a0 a1.toNat)) v4.toNat)).length),(1,vi a1),(4,.fn (.func 136) [] []),(12,vi (v4 + 1)),(13,vi (v8 - 1))],[some (.row 2 (List.map ePartCount (List.set (List.set (List.set (List.set a0 a1.toNat (ix a0 a3.toNat)) a3.toNat (ix a0 a1.toNat)) v4.toNat (ix (List.set (List.set a0 a1.toNat (ix a0 a3.toNat)) a3.toNat (ix a0 a1.toNat)) v8.toNat)) v8.toNat (ix (List.set (List.set a0 a1.toNat (ix a0 a3.toNat)) a3.toNat (ix a0 a1.toNat)) v4.toNat))))]⟩) (Sees.less (.cons (by simp only [List.length_set]; rfl) (.cons rfl (.cons rfl (.cons rfl (.cons rfl .nil)))))) ?_
   refine TriE.loopN h (fun (t : Int × Int × (List PartCount)) => match t with | (v17,v18,v19) => St.mk [(0,.own 0 0 v19.length),(1,vi a1),(4,.fn (.func 136) [] []),(12,vi v17),(13,vi v18)] [some (.row 2 (List.map ePartCount v19))]) rfl ?_
   clear h
   rintro back ⟨v17,v18,v19⟩ h
   dsimp only [q37k] at h
   refine q4 ?_
   refine TriE.seqK h (fun (v23 : Int) => St.mk [(0,.own 0 0 v19.length),(1,vi a1),(4,.fn (.func 136) [] []),(12,vi v23),(13,vi v18)] [some (.row 2 (List.map ePartCount v19))]) ?_ ?_
   ·rintro v23 h
    refine TriE.seqK h (fun (v27 : Int) => St.mk [(0,.own 0 0 v19.length),(1,vi a1),(4,.fn (.func 136) [] []),(12,vi v23),(13,vi v27)] [some (.row 2 (List.map ePartCount v19))]) ?_ ?_
    ·rintro v27 h
     refine q1 ?_
     refine sk (.k4 (.k (.i 144 (vb (decide (v27 < v23))) .n))) ?_
     refine tc h (fun c42 h => ?_) (fun c42 h => ?_)
     ·refine q5 ?_
      exact Vs.intro sy ⟨(v27,v19),rfl,h⟩
     refine q2 ?_
     refine q1 ?_
     refine ts (.k4 (.k .n)) ?_
     refine TriE.draw (by kernel_rfl) ?_
     refine dk 6 (.i 150 (vi v27) (.i 149 (.own 0 0 v19.length) (.i 148 (vi v27) (.i 147 (.own 0 0 v19.length) (.i 146 (vi v23) (.i 145 (.own 0 0 v19.length) .a)))))) ?_
     obtain ⟨c43,h⟩ := ck h
     refine dp 151 (.iaddr 2 149 150) (ok_iaddr_o0 (j := v27.toNat) rfl rfl rfl (inB_to c43) (inB_lt c43)) ?_
     obtain ⟨c44,h⟩ := ck h
     refine dp 152 (.load true 2 151) (ok_load_pm (l := v19) (e := ePartCount) (v := .agg [vt ((ix v19 v27.toNat).Part),vi ((ix v19 v27.toNat).Count)]) rfl rfl c44 rfl) ?_
     refine dk 2 (.i 154 (vi v23) (.i 153 (.own 0 0 v19.length) .a)) ?_
     obtain ⟨c45,h⟩ := ck h
     refine dp 155 (.iaddr 2 153 154) (ok_iaddr_o0 (j := v23.toNat) rfl rfl rfl (inB_to c45) (inB_lt c45)) ?_
     obtain ⟨c46,h⟩ := ck h
     refine dp 156 (.load true 2 155) (ok_load_pm (l := v19) (e := ePartCount) (v := .agg [vt ((ix v19 v23.toNat).Part),vi ((ix v19 v23.toNat).Count)]) rfl rfl c46 rfl) ?_
     refine dp 157 (.iaddr 2 145 146) (ok_iaddr_o0 (j := v23.toNat) rfl rfl rfl (inB_to c45) (inB_lt c45)) ?_
     refine dm (.store 2 157 152) _ (ok_store_m (l := v19) (e := ePartCount) (x' := (ix v19 v27.toNat)) (u := .agg [vt ((ix v19 v27.toNat).Part),vi ((ix v19 v27.toNat).Count)]) rfl rfl rfl c46 rfl rfl) rfl rfl ?_
     refine dp 158 (.iaddr 2 147 148) (ok_iaddr_o0 (j := v27.toNat) rfl rfl rfl (inB_to c43) (inB_lt c43)) ?_
     obtain ⟨c47,h⟩ := ck h
     refine dm (.store 2 158 156) _ (ok_store_m (l := (List.set v19 v23.toNat (ix v19 v27.toNat))) (e := ePartCount) (x' := (ix v19 v23.toNat)) (u := .agg [vt ((ix v19 v23.toNat).Part),vi ((ix v19 v23.toNat).Count)]) rfl rfl rfl c47 rfl rfl) rfl rfl ?_
     refine dfi (.d4 (.d4 (.d4 (.d2 .a)))) [0] (obRen_row ePartCount_frz rfl .nil) ?_
     refine sj ?_
     refine rk 1 (.k3 (.d (.k (.i 159 (vi v23) .n)))) ?_
     obtain ⟨c48,h⟩ := ck h
     refine jo 160 (.bin .add false 159 (ki 1)) (r_add rfl rfl c48) ?_
     refine jk 1 (.d (.k4 (.i 12 (vi (v23 + 1)) .n))) ?_
     refine q6 ?_
     refine rk 1 (.k3 (.d (.k (.i 161 (vi v27) .n)))) ?_
     obtain ⟨c49,h⟩ := ck h
     refine jo 162 (.bin .sub false 161 (ki 1)) (r_sub rfl rfl c49) ?_
     refine jk 1 (.d (.k4 (.i 13 (vi (v27 - 1)) .n))) ?_
     exact Vs.intro (Sees.less (.cons (by simp only [List.length_set]; rfl) (.cons rfl (.cons rfl (.cons rfl (.cons rfl .nil)))))) ⟨(v23 + 1,v27 - 1,(List.set (List.set v19 v23.toNat (ix v19 v27.toNat)) v27.toNat (ix v19 v23.toNat))),rfl,h⟩
    intro k4 h
    refine q4 ?_
    refine TriE.loopN h (fun (v25 : Int) => St.mk [(0,.own 0 0 v19.length),(1,vi a1),(4,.fn (.func 136) [] []),(12,vi v23),(13,vi v25)] [some (.row 2 (List.map ePartCount v19))]) rfl ?_
    clear h
    rintro back v25 h
    dsimp only [q14k] at h
    refine q1 ?_
    refine q1 ?_
    refine ts .a ?_
    refine TriE.draw (by kernel_rfl) ?_
    refine dk 4 (.i 126 (vb (decide (v23 ≤ v25))) (.i 125 (vb (decide (v23 ≤ v25))) (.i 124 (vi v25) (.i 123 (vi v23) .a)))) ?_
    refine gd (decide (v23 ≤ v25)) (.fn (.func 136) [] []) 127 (.mov 4) 126 true rfl (fun hg => (.cons rfl .nil)) ?_
    refine gd (decide (v23 ≤ v25)) (.own 0 0 v19.length) 128 (.mov 0) 126 true rfl (fun hg => (.cons rfl .nil)) ?_
    refine gd (decide (v23 ≤ v25)) (vi v25) 129 (.mov 13) 126 true rfl (fun hg => (.cons rfl .nil)) ?_
    obtain ⟨c36,h⟩ := ck h
    refine gu (decide (v23 ≤ v25)) 130 (.iaddr 2 128 129) 126 true rfl (fun hg => (ok_iaddr_o0 (j := v25.toNat) rfl rfl rfl (inB_to (gor c36 hg)) (inB_lt (gor c36 hg)))) (fun hg => (.cons hg (.cons hg .nil))) ?_
    obtain ⟨c37,h⟩ := ck h
    refine gu (decide (v23 ≤ v25)) 131 (.load true 2 130) 126 true rfl (fun hg => (ok_load_pm (l := v19) (e := ePartCount) (v := .agg [vt ((ix v19 v25.toNat).Part),vi ((ix v19 v25.toNat).Count)]) rfl rfl (gor c37 hg) rfl)) (fun hg => (.cons hg .nil)) ?_
    refine gd (decide (v23 ≤ v25)) (.own 0 0 v19.length) 132 (.mov 0) 126 true rfl (fun hg => (.cons rfl .nil)) ?_
    refine gd (decide (v23 ≤ v25)) (vi a1) 133 (.mov 1) 126 true rfl (fun hg => (.cons rfl .nil)) ?_
    obtain ⟨c38,h⟩ := ck h
    refine gu (decide (v23 ≤ v25)) 134 (.iaddr 2 132 133) 126 true rfl (fun hg => (ok_iaddr_o0 (j := a1.toNat) rfl rfl rfl (inB_to (gor c38 hg)) (inB_lt (gor c38 hg)))) (fun hg => (.cons hg (.cons hg .nil))) ?_
    obtain ⟨c39,h⟩ := ck h
    refine gu (decide (v23 ≤ v25)) 135 (.load true 2 134) 126 true rfl (fun hg => (ok_load_pm (l := v19) (e := ePartCount) (v := .agg [vt ((ix v19 a1.toNat).Part),vi ((ix v19 a1.toNat).Count)]) rfl rfl (gor c39 hg) rfl)) (fun hg => (.cons hg .nil)) ?_
    obtain ⟨y26,hy26,h⟩ := bs h
    refine RegD.op (OpD.dyng (g := decide (v23 ≤ v25)) (y' := vi y26) (obx := []) _ _ _ (cy (IG 136 (.dyn 127 [131,135]) 126 true)) rfl rfl (fun hg => q6k n (ix v19 v25.toNat) (ix v19 a1.toNat) y26 (gcall_some hy26 hg)) [] (fun hg => by kernel_rfl) (fun hg => (.cons hg (.cons hg (.cons hg .nil)))) (by kernel_rfl) (by kernel_rfl) ObsRen.nil (by kernel_rfl) (by kernel_rfl) rfl) ?_
    refine gd (decide (v23 ≤ v25)) (vb (decide (y26 < (0 : Int)))) 137 (.bin .lss false 136 (ki 0)) 126 true rfl (fun hg => (.cons hg (.cons rfl .nil))) ?_
    refine gd (decide (v23 ≤ v25)) (vb (!(decide (y26 < (0 : Int))))) 138 (.un .not 137) 126 true rfl (fun hg => (.cons hg .nil)) ?_
    refine RegD.op (OpD.and (cy (I0 139 (.pick 126 138 (.c (.p (.bool false)))))) rfl rfl (by first | exact hokA1 | exact hokA0 | simp)) ?_
    refine dfi (.d4 (.d4 (.d4 (.d4 (.d (.k4 (.k (.i 139 (vb ((decide (v23 ≤ v25)) && (!(decide (y26 < (0 : Int)))))) .n)))))))) [0] (obRen_row ePartCount_frz rfl .nil) ?_
    refine tc h (fun c40 h => ?_) (fun c40 h => ?_)
    ·refine q2 ?_
     refine q4 ?_
     refine q6 ?_
     refine rk 1 (.k4 (.i 140 (vi v25) .n)) ?_
     obtain ⟨c41,h⟩ := ck h
     refine jo 141 (.bin .sub false 140 (ki 1)) (r_sub rfl rfl c41) ?_
     refine jk 1 (.d (.k4 (.i 13 (vi (v25 - 1)) .n))) ?_
     exact Vs.intro Sees.refl ⟨(v25 - 1),rfl,h⟩
    refine q5 ?_
    exact Vs.intro sy ⟨v25,rfl,h⟩
   intro k3 h
   refine q4 ?_
   refine TriE.loopN h (fun (v21 : Int) => St.mk [(0,.own 0 0 v19.length),(1,vi a1),(4,.fn (.func 136) [] []),(12,vi v21),(13,vi v18)] [some (.row 2 (List.map ePartCount v19))]) rfl ?_
   clear h
   rintro back v21 h
   dsimp only [q24k] at h
   refine q1 ?_
   refine q1 ?_
   refine ts .a ?_
   refine TriE.draw (by kernel_rfl) ?_
   refine dk 4 (.i 108 (vb (decide (v21 ≤ v18))) (.i 107 (vb (decide (v21 ≤ v18))) (.i 106 (vi v18) (.i 105 (vi v21) .a)))) ?_
   refine gd (decide (v21 ≤ v18)) (.fn (.func 136) [] []) 109 (.mov 4) 108 true rfl (fun hg => (.cons rfl .nil)) ?_
   refine gd (decide (v21 ≤ v18)) (.own 0 0 v19.length) 110 (.mov 0) 108 true rfl (fun hg => (.cons rfl .nil)) ?_
   refine gd (decide (v21 ≤ v18)) (vi v21) 111 (.mov 12) 108 true rfl (fun hg => (.cons rfl .nil)) ?_
   obtain ⟨c30,h⟩ := ck h
   refine gu (decide (v21 ≤ v18)) 112 (.iaddr 2 110 111) 108 true rfl (fun hg => (ok_iaddr_o0 (j := v21.toNat) rfl rfl rfl (inB_to (gor c30 hg)) (inB_lt (gor c30 hg)))) (fun hg => (.cons hg (.cons hg .nil))) ?_
   obtain ⟨c31,h⟩ := ck h
   refine gu (decide (v21 ≤ v18)) 113 (.load true 2 112) 108 true rfl (fun hg => (ok_load_pm (l := v19) (e := ePartCount) (v := .agg [vt ((ix v19 v21.toNat).Part),vi ((ix v19 v21.toNat).Count)]) rfl rfl (gor c31 hg) rfl)) (fun hg => (.cons hg .nil)) ?_
   refine gd (decide (v21 ≤ v18)) (.own 0 0 v19.length) 114 (.mov 0) 108 true rfl (fun hg => (.cons rfl .nil)) ?_
   refine gd (decide (v21 ≤ v18)) (vi a1) 115 (.mov 1) 108 true rfl (fun hg => (.cons rfl .nil)) ?_
   obtain ⟨c32,h⟩ := ck h
   refine gu (decide (v21 ≤ v18)) 116 (.iaddr 2 114 115) 108 true rfl (fun hg => (ok_iaddr_o0 (j := a1.toNat) rfl rfl rfl (inB_to (gor c32 hg)) (inB_lt (gor c32 hg)))) (fun hg => (.cons hg (.cons hg .nil))) ?_
   obtain ⟨c33,h⟩ := ck h
   refine gu (decide (v21 ≤ v18)) 117 (.load true 2 116) 108 true rfl (fun hg => (ok_load_pm (l := v19) (e := ePartCount) (v := .agg [vt ((ix v19 a1.toNat).Part),vi ((ix v19 a1.toNat).Count)]) rfl rfl (gor c33 hg) rfl)) (fun hg => (.cons hg .nil)) ?_
   obtain ⟨y22,hy22,h⟩ := bs h
   refine RegD.op (OpD.dyng (g := decide (v21 ≤ v18)) (y' := vi y22) (obx := []) _ _ _ (cy (IG 118 (.dyn 109 [113,117]) 108 true)) rfl rfl (fun hg => q6k n (ix v19 v21.toNat) (ix v19 a1.toNat) y22 (gcall_some hy22 hg)) [] (fun hg => by kernel_rfl) (fun hg => (.cons hg (.cons hg (.cons hg .nil)))) (by kernel_rfl) (by kernel_rfl) ObsRen.nil (by kernel_rfl) (by kernel_rfl) rfl) ?_
   refine gd (decide (v21 ≤ v18)) (vb (decide (y22 < (0 : Int)))) 119 (.bin .lss false 118 (ki 0)) 108 true rfl (fun hg => (.cons hg (.cons rfl .nil))) ?_
   refine RegD.op (OpD.and (cy (I0 120 (.pick 108 119 (.c (.p (.bool false)))))) rfl rfl (by first | exact hokA1 | exact hokA0 | simp)) ?_
   refine dfi (.d4 (.d4 (.d4 (.d4 (.k4 (.k (.i 120 (vb ((decide (v21 ≤ v18)) && (decide (y22 < (0 : Int))))) .n))))))) [0] (obRen_row ePartCount_frz rfl .nil) ?_
   refine tc h (fun c34 h => ?_) (fun c34 h => ?_)
   ·refine q2 ?_
    refine q4 ?_
    refine q6 ?_
    refine rk 1 (.k3 (.d (.k (.i 121 (vi v21) .n)))) ?_
    obtain ⟨c35,h⟩ := ck h
    refine jo 122 (.bin .add false 121 (ki 1)) (r_add rfl rfl c35) ?_
    refine jk 1 (.d (.k4 (.i 12 (vi (v21 + 1)) .n))) ?_
    exact Vs.intro sy ⟨(v21 + 1),rfl,h⟩
   refine q5 ?_
   exact Vs.intro sy ⟨v21,rfl,h⟩
  intro k2 h
  refine q4 ?_
  refine TriE.loopN h (fun (v6 : Int) => St.mk [(0,.own 0 0 a0.length),(1,vi a1),(4,.fn (.func 136) [] []),(12,vi v4),(13,vi v6)] [some (.row 2 (List.map ePartCount (List.set (List.set a0 a1.toNat (ix a0 a3.toNat)) a3.toNat (ix a0 a1.toNat))))]) rfl ?_
  clear h
  rintro back v6 h
  dsimp only [q36k] at h
  refine q1 ?_
  refine q1 ?_
  refine ts .a ?_
  refine TriE.draw (by kernel_rfl) ?_
  refine dk 4 (.i 53 (vb (decide (v4 ≤ v6))) (.i 52 (vb (decide (v4 ≤ v6))) (.i 51 (vi v6) (.i 50 (vi v4) .a)))) ?_
  refine gd (decide (v4 ≤ v6)) (.fn (.func 136) [] []) 54 (.mov 4) 53 true rfl (fun hg => (.cons rfl .nil)) ?_
  refine gd (decide (v4 ≤ v6)) (.own 0 0 a0.length) 55 (.mov 0) 53 true rfl (fun hg => (.cons rfl .nil)) ?_
  refine gd (decide (v4 ≤ v6)) (vi v6) 56 (.mov 13) 53 true rfl (fun hg => (.cons rfl .nil)) ?_
  obtain ⟨c13,h⟩ := ck h
  refine gu (decide (v4 ≤ v6)) 57 (.iaddr 2 55 56) 53 true rfl (fun hg => (ok_iaddr_o0 (j := v6.toNat) rfl rfl rfl (inB_to (gor c13 hg)) (inB_lt (gor c13 hg)))) (fun hg => (.cons hg (.cons hg .nil))) ?_
  obtain ⟨c14,h⟩ := ck h
  refine gu (decide (v4 ≤ v6)) 58 (.load true 2 57) 53 true rfl (fun hg => (ok_load_pm (l := (List.set (List.set a0 a1.toNat (ix a0 a3.toNat)) a3.toNat (ix a0 a1.toNat))) (e := ePartCount) (v := .agg [vt ((ix (List.set (List.set a0 a1.toNat (ix a0 a3.toNat)) a3.toNat (ix a0 a1.toNat)) v6.toNat).Part),vi ((ix (List.set (List.set a0 a1.toNat (ix a0 a3.toNat)) a3.toNat (ix a0 a1.toNat)) v6.toNat).Count)]) rfl rfl (gor c14 hg) rfl)) (fun hg => (.cons hg .nil)) ?_
  refine gd (decide (v4 ≤ v6)) (.own 0 0 a0.length) 59 (.mov 0) 53 true rfl (fun hg => (.cons rfl .nil)) ?_
  refine gd (decide (v4 ≤ v6)) (vi a1) 60 (.mov 1) 53 true rfl (fun hg => (.cons rfl .nil)) ?_
  refine gu (decide (v4 ≤ v6)) 61 (.iaddr 2 59 60) 53 true rfl (fun hg => (ok_iaddr_o0 (j := a1.toNat) rfl rfl rfl (inB_to c3) (inB_lt c3))) (fun hg => (.cons hg (.cons hg .nil))) ?_
  obtain ⟨c15,h⟩ := ck h
  refine gu (decide (v4 ≤ v6)) 62 (.load true 2 61) 53 true rfl (fun hg => (ok_load_pm (l := (List.set (List.set a0 a1.toNat (ix a0 a3.toNat)) a3.toNat (ix a0 a1.toNat))) (e := ePartCount) (v := .agg [vt ((ix (List.set (List.set a0 a1.toNat (ix a0 a3.toNat)) a3.toNat (ix a0 a1.toNat)) a1.toNat).Part),vi ((ix (List.set (List.set a0 a1.toNat (ix a0 a3.toNat)) a3.toNat (ix a0 a1.toNat)) a1.toNat).Count)]) rfl rfl (gor c15 hg) rfl)) (fun hg => (.cons hg .nil)) ?_
  obtain ⟨y7,hy7,h⟩ := bs h
  refine RegD.op (OpD.dyng (g := decide (v4 ≤ v6)) (y' := vi y7) (obx := []) _ _ _ (cy (IG 63 (.dyn 54 [58,62]) 53 true)) rfl rfl (fun hg => q6k n (ix (List.set (List.set a0 a1.toNat (ix a0 a3.toNat)) a3.toNat (ix a0 a1.toNat)) v6.toNat) (ix (List.set (List.set a0 a1.toNat (ix a0 a3.toNat)) a3.toNat (ix a0 a1.toNat)) a1.toNat) y7 (gcall_some hy7 hg)) [] (fun hg => by kernel_rfl) (fun hg => (.cons hg (.cons hg (.cons hg .nil)))) (by kernel_rfl) (by kernel_rfl) ObsRen.nil (by kernel_rfl) (by kernel_rfl) rfl) ?_
  refine gd (decide (v4 ≤ v6)) (vb (decide (y7 < (0 : Int)))) 64 (.bin .lss false 63 (ki 0)) 53 true rfl (fun hg => (.cons hg (.cons rfl .nil))) ?_
  refine gd (decide (v4 ≤ v6)) (vb (!(decide (y7 < (0 : Int))))) 65 (.un .not 64) 53 true rfl (fun hg => (.cons hg .nil)) ?_
  refine RegD.op (OpD.and (cy (I0 66 (.pick 53 65 (.c (.p (.bool false)))))) rfl rfl (by first | exact hokA1 | exact hokA0 | simp)) ?_
  refine dfi (.d4 (.d4 (.d4 (.d4 (.d (.k4 (.k (.i 66 (vb ((decide (v4 ≤ v6)) && (!(decide (y7 < (0 : Int)))))) .n)))))))) [0] (obRen_row ePartCount_frz rfl .nil) ?_
  refine tc h (fun c16 h => ?_) (fun c16 h => ?_)
  ·refine q2 ?_
   refine q4 ?_
   refine q6 ?_
   refine rk 1 (.k4 (.i 67 (vi v6) .n)) ?_
   obtain ⟨c17,h⟩ := ck h
   refine jo 68 (.bin .sub false 67 (ki 1)) (r_sub rfl rfl c17) ?_
   refine jk 1 (.d (.k4 (.i 13 (vi (v6 - 1)) .n))) ?_
   exact Vs.intro Sees.refl ⟨(v6 - 1),rfl,h⟩
  refine q5 ?_
  exact Vs.intro sy ⟨v6,rfl,h⟩
 intro k1 h
 refine q4 ?_
 refine TriE.loopN h (fun (v2 : Int) => St.mk [(0,.own 0 0 a0.length),(1,vi a1),(4,.fn (.func 136) [] []),(12,vi v2),(13,vi (a2 - 1))] [some (.row 2 (List.map ePartCount (List.set (List.set a0 a1.toNat (ix a0 a3.toNat)) a3.toNat (ix a0 a1.toNat))))]) rfl ?_
 clear h
 rintro back v2 h
 dsimp only [q35k] at h
 refine q1 ?_
 refine q1 ?_
 refine ts .a ?_
 refine TriE.draw (by kernel_rfl) ?_
 refine dk 4 (.i 35 (vb (decide (v2 ≤ (a2 - 1)))) (.i 34 (vb (decide (v2 ≤ (a2 - 1)))) (.i 33 (vi (a2 - 1)) (.i 32 (vi v2) .a)))) ?_
 refine gd (decide (v2 ≤ (a2 - 1))) (.fn (.func 136) [] []) 36 (.mov 4) 35 true rfl (fun hg => (.cons rfl .nil)) ?_
 refine gd (decide (v2 ≤ (a2 - 1))) (.own 0 0 a0.length) 37 (.mov 0) 35 true rfl (fun hg => (.cons rfl .nil)) ?_
 refine gd (decide (v2 ≤ (a2 - 1))) (vi v2) 38 (.mov 12) 35 true rfl (fun hg => (.cons rfl .nil)) ?_
 obtain ⟨c8,h⟩ := ck h
 refine gu (decide (v2 ≤ (a2 - 1))) 39 (.iaddr 2 37 38) 35 true rfl (fun hg => (ok_iaddr_o0 (j := v2.toNat) rfl rfl rfl (inB_to (gor c8 hg)) (inB_lt (gor c8 hg)))) (fun hg => (.cons hg (.cons hg .nil))) ?_
 obtain ⟨c9,h⟩ := ck h
 refine gu (decide (v2 ≤ (a2 - 1))) 40 (.load true 2 39) 35 true rfl (fun hg => (ok_load_pm (l := (List.set (List.set a0 a1.toNat (ix a0 a3.toNat)) a3.toNat (ix a0 a1.toNat))) (e := ePartCount) (v := .agg [vt ((ix (List.set (List.set a0 a1.toNat (ix a0 a3.toNat)) a3.toNat (ix a0 a1.toNat)) v2.toNat).Part),vi ((ix (List.set (List.set a0 a1.toNat (ix a0 a3.toNat)) a3.toNat (ix a0 a1.toNat)) v2.toNat).Count)]) rfl rfl (gor c9 hg) rfl)) (fun hg => (.cons hg .nil)) ?_
 refine gd (decide (v2 ≤ (a2 - 1))) (.own 0 0 a0.length) 41 (.mov 0) 35 true rfl (fun hg => (.cons rfl .nil)) ?_
 refine gd (decide (v2 ≤ (a2 - 1))) (vi a1) 42 (.mov 1) 35 true rfl (fun hg => (.cons rfl .nil)) ?_
 refine gu (decide (v2 ≤ (a2 - 1))) 43 (.iaddr 2 41 42) 35 true rfl (fun hg => (ok_iaddr_o0 (j := a1.toNat) rfl rfl rfl (inB_to c3) (inB_lt c3))) (fun hg => (.cons hg (.cons hg .nil))) ?_
 obtain ⟨c10,h⟩ := ck h
 refine gu (decide (v2 ≤ (a2 - 1))) 44 (.load true 2 43) 35 true rfl (fun hg => (ok_load_pm (l := (List.set (List.set a0 a1.toNat (ix a0 a3.toNat)) a3.toNat (ix a0 a1.toNat))) (e := ePartCount) (v := .agg [vt ((ix (List.set (List.set a0 a1.toNat (ix a0 a3.toNat)) a3.toNat (ix a0 a1.toNat)) a1.toNat).Part),vi ((ix (List.set (List.set a0 a1.toNat (ix a0 a3.toNat)) a3.toNat (ix a0 a1.toNat)) a1.toNat).Count)]) rfl rfl (gor c10 hg) rfl)) (fun hg => (.cons hg .nil)) ?_
 obtain ⟨y3,hy3,h⟩ := bs h
 refine RegD.op (OpD.dyng (g := decide (v2 ≤ (a2 - 1))) (y' := vi y3) (obx := []) _ _ _ (cy (IG 45 (.dyn 36 [40,44]) 35 true)) rfl rfl (fun hg => q6k n (ix (List.set (List.set a0 a1.toNat (ix a0 a3.toNat)) a3.toNat (ix a0 a1.toNat)) v2.toNat) (ix (List.set (List.set a0 a1.toNat (ix a0 a3.toNat)) a3.toNat (ix a0 a1.toNat)) a1.toNat) y3 (gcall_some hy3 hg)) [] (fun hg => by kernel_rfl) (fun hg => (.cons hg (.cons hg (.cons hg .nil)))) (by kernel_rfl) (by kernel_rfl) ObsRen.nil (by kernel_rfl) (by kernel_rfl) rfl) ?_
 refine gd (decide (v2 ≤ (a2 - 1))) (vb (decide (y3 < (0 : Int)))) 46 (.bin .lss false 45 (ki 0)) 35 true rfl (fun hg => (.cons hg (.cons rfl .nil))) ?_
 refine RegD.op (OpD.and (cy (I0 47 (.pick 35 46 (.c (.p (.bool false)))))) rfl rfl (by first | exact hokA1 | exact hokA0 | simp)) ?_
 refine dfi (.d4 (.d4 (.d4 (.d4 (.k4 (.k (.i 47 (vb ((decide (v2 ≤ (a2 - 1))) && (decide (y3 < (0 : Int))))) .n))))))) [0] (obRen_row ePartCount_frz rfl .nil) ?_
 refine tc h (fun c11 h => ?_) (fun c11 h => ?_)
 ·refine q2 ?_
  refine q4 ?_
  refine q6 ?_
  refine rk 1 (.k3 (.d (.k (.i 48 (vi v2) .n)))) ?_
  obtain ⟨c12,h⟩ := ck h
  refine jo 49 (.bin .add false 48 (ki 1)) (r_add rfl rfl c12) ?_
  refine jk 1 (.d (.k4 (.i 12 (vi (v2 + 1)) .n))) ?_
  exact Vs.intro sy ⟨(v2 + 1),rfl,h⟩
 refine q5 ?_
 exact Vs.intro sy ⟨v2,rfl,h⟩
theorem q234k (n : Nat) (a0 : Int) (r : Int) (h : q39k n a0 = some r) : FnL Tryz.prog 216 [vi a0] [] (vk .u64 r) [] := by
 dsimp only [q39k] at h
 refine fo [2] Tryz.call216 Tryz.func216 rfl ?_
 refine sk .a ?_
 refine sj ?_
 refine rk 2 (.i 4 (vk .u64 (IntKind.u64.wrap a0)) .n) ?_
 obtain ⟨y1,hy1,h⟩ := bs h
 refine jc 5 [4] (q243k n (IntKind.u64.wrap a0) y1 hy1) ?_
 obtain ⟨c1,h⟩ := ck h
 refine jo 6 (.bin .shl false (.c (.p (.int .u64 1))) 5) (r_shl rfl rfl c1) ?_
 refine jk 1 (.i 2 (vk .u64 (IntKind.u64.wrap (1 * 2 ^ (min y1.toNat 64)))) .n) ?_
 refine q3 ?_
 have h := si h
 subst h
 exact DoneS.ret Sees.refl rfl rfl
set_option maxHeartbeats 1000000 in
theorem q240k (n : Nat) (a0 : Int) (r : Unit) (h : q158k n a0 = some r) : FnL Tryz.prog 217 [.ptr 0 0 0] [some (.row 1 [vk .u64 a0])] (vk .u64 (iXor .u64 (iXor .u64 (iXor .u64 a0 (IntKind.u64.wrap (a0 * 2 ^ (min 13 64)))) (Int.fdiv (iXor .u64 a0 (IntKind.u64.wrap (a0 * 2 ^ (min 13 64)))) (2 ^ (min 7 64)))) (IntKind.u64.wrap ((iXor .u64 (iXor .u64 a0 (IntKind.u64.wrap (a0 * 2 ^ (min 13 64)))) (Int.fdiv (iXor .u64 a0 (IntKind.u64.wrap (a0 * 2 ^ (min 13 64)))) (2 ^ (min 7 64)))) * 2 ^ (min 17 64))))) [some (.row 1 [vk .u64 (iXor .u64 (iXor .u64 (iXor .u64 a0 (IntKind.u64.wrap (a0 * 2 ^ (min 13 64)))) (Int.fdiv (iXor .u64 a0 (IntKind.u64.wrap (a0 * 2 ^ (min 13 64)))) (2 ^ (min 7 64)))) (IntKind.u64.wrap ((iXor .u64 (iXor .u64 a0 (IntKind.u64.wrap (a0 * 2 ^ (min 13 64)))) (Int.fdiv (iXor .u64 a0 (IntKind.u64.wrap (a0 * 2 ^ (min 13 64)))) (2 ^ (min 7 64)))) * 2 ^ (min 17 64))))])] := by
 dsimp only [q158k] at h
 refine fob [2] Tryz.call217 Tryz.func217 rfl (.cons rfl .nil) ?_
 refine sk .a ?_
 refine q1 ?_
 refine ts .a ?_
 refine TriE.draw (by kernel_rfl) ?_
 refine dko 10 (.i 11 (.ptr 0 0 0) (.i 10 (vk .u64 (iXor .u64 a0 (IntKind.u64.wrap (a0 * 2 ^ (min 13 64))))) (.i 9 (vk .u64 (IntKind.u64.wrap (a0 * 2 ^ (min 13 64)))) (.i 8 (vk .u64 a0) (.i 7 (.ptr 0 0 0) (.i 6 (.ptr 0 0 0) (.i 5 (vk .u64 a0) (.i 4 (.ptr 0 0 0) (.i 3 (.ptr 0 0 0) .a))))))))) [some (.row 1 [vk .u64 (iXor .u64 a0 (IntKind.u64.wrap (a0 * 2 ^ (min 13 64))))]),none,none,none,none,none,none,none,none,none,none] ?_
 refine dfi (ob' := [some (.row 1 [vk .u64 (iXor .u64 a0 (IntKind.u64.wrap (a0 * 2 ^ (min 13 64))))])]) (.d4 (.d4 (.d .a))) [0] (.cons rfl .nil) ?_
 refine q1 ?_
 refine ts .a ?_
 refine TriE.draw (by kernel_rfl) ?_
 refine dko 10 (.i 20 (.ptr 0 0 0) (.i 19 (vk .u64 (iXor .u64 (iXor .u64 a0 (IntKind.u64.wrap (a0 * 2 ^ (min 13 64)))) (Int.fdiv (iXor .u64 a0 (IntKind.u64.wrap (a0 * 2 ^ (min 13 64)))) (2 ^ (min 7 64))))) (.i 18 (vk .u64 (Int.fdiv (iXor .u64 a0 (IntKind.u64.wrap (a0 * 2 ^ (min 13 64)))) (2 ^ (min 7 64)))) (.i 17 (vk .u64 (iXor .u64 a0 (IntKind.u64.wrap (a0 * 2 ^ (min 13 64))))) (.i 16 (.ptr 0 0 0) (.i 15 (.ptr 0 0 0) (.i 14 (vk .u64 (iXor .u64 a0 (IntKind.u64.wrap (a0 * 2 ^ (min 13 64))))) (.i 13 (.ptr 0 0 0) (.i 12 (.ptr 0 0 0) .a))))))))) [some (.row 1 [vk .u64 (iXor .u64 (iXor .u64 a0 (IntKind.u64.wrap (a0 * 2 ^ (min 13 64)))) (Int.fdiv (iXor .u64 a0 (IntKind.u64.wrap (a0 * 2 ^ (min 13 64)))) (2 ^ (min 7 64))))]),none,none,none,none,none,none,none,none,none,none] ?_
 refine dfi (ob' := [some (.row 1 [vk .u64 (iXor .u64 (iXor .u64 a0 (IntKind.u64.wrap (a0 * 2 ^ (min 13 64)))) (Int.fdiv (iXor .u64 a0 (IntKind.u64.wrap (a0 * 2 ^ (min 13 64)))) (2 ^ (min 7 64))))])]) (.d4 (.d4 (.d .a))) [0] (.cons rfl .nil) ?_
 refine q1 ?_
 refine ts .a ?_
 refine TriE.draw (by kernel_rfl) ?_
 refine dko 10 (.i 29 (.ptr 0 0 0) (.i 28 (vk .u64 (iXor .u64 (iXor .u64 (iXor .u64 a0 (IntKind.u64.wrap (a0 * 2 ^ (min 13 64)))) (Int.fdiv (iXor .u64 a0 (IntKind.u64.wrap (a0 * 2 ^ (min 13 64)))) (2 ^ (min 7 64)))) (IntKind.u64.wrap ((iXor .u64 (iXor .u64 a0 (IntKind.u64.wrap (a0 * 2 ^ (min 13 64)))) (Int.fdiv (iXor .u64 a0 (IntKind.u64.wrap (a0 * 2 ^ (min 13 64)))) (2 ^ (min 7 64)))) * 2 ^ (min 17 64))))) (.i 27 (vk .u64 (IntKind.u64.wrap ((iXor .u64 (iXor .u64 a0 (IntKind.u64.wrap (a0 * 2 ^ (min 13 64)))) (Int.fdiv (iXor .u64 a0 (IntKind.u64.wrap (a0 * 2 ^ (min 13 64)))) (2 ^ (min 7 64)))) * 2 ^ (min 17 64)))) (.i 26 (vk .u64 (iXor .u64 (iXor .u64 a0 (IntKind.u64.wrap (a0 * 2 ^ (min 13 64)))) (Int.fdiv (iXor .u64 a0 (IntKind.u64.wrap (a0 * 2 ^ (min 13 64)))) (2 ^ (min 7 64))))) (.i 25 (.ptr 0 0 0) (.i 24 (.ptr 0 0 0) (.i 23 (vk .u64 (iXor .u64 (iXor .u64 a0 (IntKind.u64.wrap (a0 * 2 ^ (min 13 64)))) (Int.fdiv (iXor .u64 a0 (IntKind.u64.wrap (a0 * 2 ^ (min 13 64)))) (2 ^ (min 7 64))))) (.i 22 (.ptr 0 0 0) (.i 21 (.ptr 0 0 0) .a))))))))) [some (.row 1 [vk .u64 (iXor .u64 (iXor .u64 (iXor .u64 a0 (IntKind.u64.wrap (a0 * 2 ^ (min 13 64)))) (Int.fdiv (iXor .u64 a0 (IntKind.u64.wrap (a0 * 2 ^ (min 13 64)))) (2 ^ (min 7 64)))) (IntKind.u64.wrap ((iXor .u64 (iXor .u64 a0 (IntKind.u64.wrap (a0 * 2 ^ (min 13 64)))) (Int.fdiv (iXor .u64 a0 (IntKind.u64.wrap (a0 * 2 ^ (min 13 64)))) (2 ^ (min 7 64)))) * 2 ^ (min 17 64))))]),none,none,none,none,none,none,none,none,none,none] ?_
 refine dfi (ob' := [some (.row 1 [vk .u64 (iXor .u64 (iXor .u64 (iXor .u64 a0 (IntKind.u64.wrap (a0 * 2 ^ (min 13 64)))) (Int.fdiv (iXor .u64 a0 (IntKind.u64.wrap (a0 * 2 ^ (min 13 64)))) (2 ^ (min 7 64)))) (IntKind.u64.wrap ((iXor .u64 (iXor .u64 a0 (IntKind.u64.wrap (a0 * 2 ^ (min 13 64)))) (Int.fdiv (iXor .u64 a0 (IntKind.u64.wrap (a0 * 2 ^ (min 13 64)))) (2 ^ (min 7 64)))) * 2 ^ (min 17 64))))])]) (.d4 (.d4 (.d .a))) [0] (.cons rfl .nil) ?_
 refine sk (.i 2 (vk .u64 (iXor .u64 (iXor .u64 (iXor .u64 a0 (IntKind.u64.wrap (a0 * 2 ^ (min 13 64)))) (Int.fdiv (iXor .u64 a0 (IntKind.u64.wrap (a0 * 2 ^ (min 13 64)))) (2 ^ (min 7 64)))) (IntKind.u64.wrap ((iXor .u64 (iXor .u64 a0 (IntKind.u64.wrap (a0 * 2 ^ (min 13 64)))) (Int.fdiv (iXor .u64 a0 (IntKind.u64.wrap (a0 * 2 ^ (min 13 64)))) (2 ^ (min 7 64)))) * 2 ^ (min 17 64))))) .n) ?_
 refine q3 ?_
 have h := si h
 subst h
 exact DoneS.ret Sees.refl rfl rfl
set_option maxHeartbeats 1000000 in
theorem q174k (n : Nat) (a0 : List PartCount) (a1 : Int) (a2 : Int) (r : (List PartCount)) (h : q23k n a0 a1 a2 = some r) : FnL Tryz.prog 206 [.own 0 0 a0.length,vi a1,vi a2,.fn (.func 136) [] []] [some (.row 2 (List.map ePartCount a0))] (.tup []) [some (.row 2 (List.map ePartCount r))] := by
 dsimp only [q23k] at h
 refine fob [] Tryz.call206 Tryz.func206 rfl (.cons rfl .nil) ?_
 refine sj ?_
 refine rk 2 (.k2 (.i 13 (vi a2) (.i 14 (vi a1) .n))) ?_
 obtain ⟨c1,h⟩ := ck h
 refine jo 15 (.bin .sub false 13 14) (r_sub rfl rfl c1) ?_
 refine jk 1 (.d (.k2 (.i 8 (vi (a2 - a1)) .n))) ?_
 refine sk (.k3 (.i 17 (vb (decide ((8 : Int) ≤ (a2 - a1)))) .n)) ?_
 refine tc h (fun c2 h => ?_) (fun c2 h => ?_)
 ·refine sko (.k3 (.i 9 (.ptr 1 0 0) .n)) [some (.row 2 (List.map ePartCount a0)),some (.row 1 [vk .u64 (IntKind.u64.wrap (a2 - a1))])] ?_
  refine sj ?_
  refine rk 1 (.k4 (.i 20 (vi (a2 - a1)) .n)) ?_
  obtain ⟨y1,hy1,h⟩ := bs h
  refine jc 21 [20] (q234k n (a2 - a1) y1 hy1) ?_
  refine jk 1 (.d (.k4 (.i 10 (vk .u64 y1) .n))) ?_
  refine sj ?_
  refine rk 2 (.k4 (.k (.i 22 (vi a1) (.i 23 (vi (a2 - a1)) .n)))) ?_
  obtain ⟨c3,h⟩ := ck h
  refine jo 24 (.bin .quo false 23 (ki 4)) (r_quo rfl rfl c3) ?_
  obtain ⟨c4,h⟩ := ck h
  refine jo 25 (.bin .mul false 24 (ki 2)) (r_mul rfl rfl c4) ?_
  obtain ⟨c5,h⟩ := ck h
  refine jo 26 (.bin .add false 22 25) (r_add rfl rfl c5) ?_
  obtain ⟨c6,h⟩ := ck h
  refine jo 27 (.bin .sub false 26 (ki 1)) (r_sub rfl rfl c6) ?_
  refine jk 1 (.d4 (.k4 (.k (.i 11 (vi ((a1 + ((Int.tdiv (a2 - a1) 4) * 2)) - 1)) .n)))) ?_
  refine q4 ?_
  refine TriE.loopN h (fun (t : Int × Int × (List PartCount)) => match t with | (v4,v5,v6) => St.mk [(0,.own 0 0 v6.length),(1,vi a1),(8,vi (a2 - a1)),(9,.ptr 1 0 0),(10,vk .u64 y1),(11,vi v4)] [some (.row 2 (List.map ePartCount v6)),some (.row 1 [vk .u64 v5])]) rfl ?_
  clear h
  rintro back ⟨v4,v5,v6⟩ h
  dsimp only [q3k] at h
  refine q1 ?_
  refine sj ?_
  refine rk 3 (.k4 (.k2 (.i 28 (vi v4) (.i 29 (vi a1) (.i 30 (vi (a2 - a1)) .n))))) ?_
  refine jo 31 (.bin .quo false 30 (ki 4)) (r_quo rfl rfl c3) ?_
  refine jo 32 (.bin .mul false 31 (ki 2)) (r_mul rfl rfl c4) ?_
  refine jo 33 (.bin .add false 29 32) (r_add rfl rfl c5) ?_
  obtain ⟨c7,h⟩ := ck h
  refine jo 34 (.bin .add false 33 (ki 1)) (r_add rfl rfl c7) ?_
  refine jk 1 (.d4 (.k4 (.k2 (.i 35 (vb (decide (v4 ≤ ((a1 + ((Int.tdiv (a2 - a1) 4) * 2)) + 1)))) .n)))) ?_
  refine tc h (fun c8 h => ?_) (fun c8 h => ?_)
  ·refine q2 ?_
   refine q7 ?_
   refine sj ?_
   obtain ⟨y7,hy7,h⟩ := bs h
   refine jco (vk .u64 (iXor .u64 (iXor .u64 (iXor .u64 v5 (IntKind.u64.wrap (v5 * 2 ^ (min 13 64)))) (Int.fdiv (iXor .u64 v5 (IntKind.u64.wrap (v5 * 2 ^ (min 13 64)))) (2 ^ (min 7 64)))) (IntKind.u64.wrap ((iXor .u64 (iXor .u64 v5 (IntKind.u64.wrap (v5 * 2 ^ (min 13 64)))) (Int.fdiv (iXor .u64 v5 (IntKind.u64.wrap (v5 * 2 ^ (min 13 64)))) (2 ^ (min 7 64)))) * 2 ^ (min 17 64))))) 38 [9] (q240k n v5 y7 hy7) [1] rfl (.cons rfl .nil) (.cons rfl .nil) rfl ?_
   refine rk 3 (.d (.k4 (.k2 (.i 41 (vk .u64 (iAnd .u64 (iXor .u64 (iXor .u64 (iXor .u64 v5 (IntKind.u64.wrap (v5 * 2 ^ (min 13 64)))) (Int.fdiv (iXor .u64 v5 (IntKind.u64.wrap (v5 * 2 ^ (min 13 64)))) (2 ^ (min 7 64)))) (IntKind.u64.wrap ((iXor .u64 (iXor .u64 v5 (IntKind.u64.wrap (v5 * 2 ^ (min 13 64)))) (Int.fdiv (iXor .u64 v5 (IntKind.u64.wrap (v5 * 2 ^ (min 13 64)))) (2 ^ (min 7 64)))) * 2 ^ (min 17 64)))) (IntKind.u64.wrap (y1 - 1)))) .n)))) ?_
   obtain ⟨c9,h⟩ := ck h
   refine jo 42 (.conv .i64 41) (ok_conv64 rfl c9) ?_
   refine jk 1 (.d (.k4 (.k2 (.i 12 (vi (iAnd .u64 (iXor .u64 (iXor .u64 (iXor .u64 v5 (IntKind.u64.wrap (v5 * 2 ^ (min 13 64)))) (Int.fdiv (iXor .u64 v5 (IntKind.u64.wrap (v5 * 2 ^ (min 13 64)))) (2 ^ (min 7 64)))) (IntKind.u64.wrap ((iXor .u64 (iXor .u64 v5 (IntKind.u64.wrap (v5 * 2 ^ (min 13 64)))) (Int.fdiv (iXor .u64 v5 (IntKind.u64.wrap (v5 * 2 ^ (min 13 64)))) (2 ^ (min 7 64)))) * 2 ^ (min 17 64)))) (IntKind.u64.wrap (y1 - 1)))) .n)))) ?_
   refine TriE.seqK h (fun (v8 : Int) => St.mk [(0,.own 0 0 v6.length),(1,vi a1),(8,vi (a2 - a1)),(9,.ptr 1 0 0),(10,vk .u64 y1),(11,vi v4),(12,vi v8)] [some (.row 2 (List.map ePartCount v6)),some (.row 1 [vk .u64 (iXor .u64 (iXor .u64 (iXor .u64 v5 (IntKind.u64.wrap (v5 * 2 ^ (min 13 64)))) (Int.fdiv (iXor .u64 v5 (IntKind.u64.wrap (v5 * 2 ^ (min 13 64)))) (2 ^ (min 7 64)))) (IntKind.u64.wrap ((iXor .u64 (iXor .u64 v5 (IntKind.u64.wrap (v5 * 2 ^ (min 13 64)))) (Int.fdiv (iXor .u64 v5 (IntKind.u64.wrap (v5 * 2 ^ (min 13 64)))) (2 ^ (min 7 64)))) * 2 ^ (min 17 64))))])]) ?_ ?_
   ·rintro v8 h
    refine ts .a ?_
    refine TriE.draw (by kernel_rfl) ?_
    refine dk 5 (.i 53 (vi v8) (.i 52 (vi a1) (.i 51 (.own 0 0 v6.length) (.i 50 (vi v4) (.i 49 (.own 0 0 v6.length) .a))))) ?_
    obtain ⟨c12,h⟩ := ck h
    refine dp 54 (.bin .add false 52 53) (r_add rfl rfl c12) ?_
    refine dk 3 (.i 57 (vi v8) (.i 56 (vi a1) (.i 55 (.own 0 0 v6.length) .a))) ?_
    refine dp 58 (.bin .add false 56 57) (r_add rfl rfl c12) ?_
    obtain ⟨c13,h⟩ := ck h
    refine dp 59 (.iaddr 2 55 58) (ok_iaddr_o0 (j := (a1 + v8).toNat) rfl rfl rfl (inB_to c13) (inB_lt c13)) ?_
    obtain ⟨c14,h⟩ := ck h
    refine dp 60 (.load true 2 59) (ok_load_pm (l := v6) (e := ePartCount) (v := .agg [vt ((ix v6 ((a1 + v8).toNat)).Part),vi ((ix v6 ((a1 + v8).toNat)).Count)]) rfl rfl c14 rfl) ?_
    refine dk 2 (.i 62 (vi v4) (.i 61 (.own 0 0 v6.length) .a)) ?_
    obtain ⟨c15,h⟩ := ck h
    refine dp 63 (.iaddr 2 61 62) (ok_iaddr_o0 (j := v4.toNat) rfl rfl rfl (inB_to c15) (inB_lt c15)) ?_
    obtain ⟨c16,h⟩ := ck h
    refine dp 64 (.load true 2 63) (ok_load_pm (l := v6) (e := ePartCount) (v := .agg [vt ((ix v6 v4.toNat).Part),vi ((ix v6 v4.toNat).Count)]) rfl rfl c16 rfl) ?_
    refine dp 65 (.iaddr 2 49 50) (ok_iaddr_o0 (j := v4.toNat) rfl rfl rfl (inB_to c15) (inB_lt c15)) ?_
    refine dm (.store 2 65 60) _ (ok_store_m (l := v6) (e := ePartCount) (x' := (ix v6 ((a1 + v8).toNat))) (u := .agg [vt ((ix v6 ((a1 + v8).toNat)).Part),vi ((ix v6 ((a1 + v8).toNat)).Count)]) rfl rfl rfl c16 rfl rfl) rfl rfl ?_
    refine dp 66 (.iaddr 2 51 54) (ok_iaddr_o0 (j := (a1 + v8).toNat) rfl rfl rfl (inB_to c13) (inB_lt c13)) ?_
    obtain ⟨c17,h⟩ := ck h
    refine dm (.store 2 66 64) _ (ok_store_m (l := (List.set v6 v4.toNat (ix v6 ((a1 + v8).toNat)))) (e := ePartCount) (x' := (ix v6 v4.toNat)) (u := .agg [vt ((ix v6 v4.toNat).Part),vi ((ix v6 v4.toNat).Count)]) rfl rfl rfl c17 rfl rfl) rfl rfl ?_
    refine dfi (ob' := [some (.row 2 (List.map ePartCount (List.set (List.set v6 v4.toNat (ix v6 ((a1 + v8).toNat))) ((a1 + v8).toNat) (ix v6 v4.toNat)))),some (.row 1 [vk .u64 (iXor .u64 (iXor .u64 (iXor .u64 v5 (IntKind.u64.wrap (v5 * 2 ^ (min 13 64)))) (Int.fdiv (iXor .u64 v5 (IntKind.u64.wrap (v5 * 2 ^ (min 13 64)))) (2 ^ (min 7 64)))) (IntKind.u64.wrap ((iXor .u64 (iXor .u64 v5 (IntKind.u64.wrap (v5 * 2 ^ (min 13 64)))) (Int.fdiv (iXor .u64 v5 (IntKind.u64.wrap (v5 * 2 ^ (min 13 64)))) (2 ^ (min 7 64)))) * 2 ^ (min 17 64))))])]) (.d4 (.d4 (.d4 (.d4 (.d2 (.k4 (.k2 .n))))))) [0,1] (obRen_row ePartCount_frz rfl (.cons rfl .nil)) ?_
    refine q6 ?_
    refine rk 1 (.k4 (.k (.i 36 (vi v4) .n))) ?_
    obtain ⟨c18,h⟩ := ck h
    refine jo 37 (.bin .add false 36 (ki 1)) (r_add rfl rfl c18) ?_
    refine jk 1 (.d (.k4 (.k (.i 11 (vi (v4 + 1)) .n)))) ?_
    exact Vs.intro (Sees.less (.cons (by simp only [List.length_set]; rfl) (.cons rfl (.cons rfl (.cons rfl (.cons rfl (.cons rfl .nil))))))) ⟨(v4 + 1,iXor .u64 (iXor .u64 (iXor .u64 v5 (IntKind.u64.wrap (v5 * 2 ^ (min 13 64)))) (Int.fdiv (iXor .u64 v5 (IntKind.u64.wrap (v5 * 2 ^ (min 13 64)))) (2 ^ (min 7 64)))) (IntKind.u64.wrap ((iXor .u64 (iXor .u64 v5 (IntKind.u64.wrap (v5 * 2 ^ (min 13 64)))) (Int.fdiv (iXor .u64 v5 (IntKind.u64.wrap (v5 * 2 ^ (min 13 64)))) (2 ^ (min 7 64)))) * 2 ^ (min 17 64))),(List.set (List.set v6 v4.toNat (ix v6 ((a1 + v8).toNat))) ((a1 + v8).toNat) (ix v6 v4.toNat))),rfl,h⟩
   intro k1 h
   refine sk (.k4 (.k3 (.i 45 (vb (decide ((a2 - a1) ≤ (iAnd .u64 (iXor .u64 (iXor .u64 (iXor .u64 v5 (IntKind.u64.wrap (v5 * 2 ^ (min 13 64)))) (Int.fdiv (iXor .u64 v5 (IntKind.u64.wrap (v5 * 2 ^ (min 13 64)))) (2 ^ (min 7 64)))) (IntKind.u64.wrap ((iXor .u64 (iXor .u64 v5 (IntKind.u64.wrap (v5 * 2 ^ (min 13 64)))) (Int.fdiv (iXor .u64 v5 (IntKind.u64.wrap (v5 * 2 ^ (min 13 64)))) (2 ^ (min 7 64)))) * 2 ^ (min 17 64)))) (IntKind.u64.wrap (y1 - 1)))))) .n))) ?_
   refine tc h (fun c10 h => ?_) (fun c10 h => ?_)
   ·refine q6 ?_
    refine rk 2 (.k4 (.k2 (.i 46 (vi (iAnd .u64 (iXor .u64 (iXor .u64 (iXor .u64 v5 (IntKind.u64.wrap (v5 * 2 ^ (min 13 64)))) (Int.fdiv (iXor .u64 v5 (IntKind.u64.wrap (v5 * 2 ^ (min 13 64)))) (2 ^ (min 7 64)))) (IntKind.u64.wrap ((iXor .u64 (iXor .u64 v5 (IntKind.u64.wrap (v5 * 2 ^ (min 13 64)))) (Int.fdiv (iXor .u64 v5 (IntKind.u64.wrap (v5 * 2 ^ (min 13 64)))) (2 ^ (min 7 64)))) * 2 ^ (min 17 64)))) (IntKind.u64.wrap (y1 - 1)))) (.i 47 (vi (a2 - a1)) .n)))) ?_
    obtain ⟨c11,h⟩ := ck h
    refine jo 48 (.bin .sub false 46 47) (r_sub rfl rfl c11) ?_
    refine jk 1 (.d (.k4 (.k2 (.i 12 (vi ((iAnd .u64 (iXor .u64 (iXor .u64 (iXor .u64 v5 (IntKind.u64.wrap (v5 * 2 ^ (min 13 64)))) (Int.fdiv (iXor .u64 v5 (IntKind.u64.wrap (v5 * 2 ^ (min 13 64)))) (2 ^ (min 7 64)))) (IntKind.u64.wrap ((iXor .u64 (iXor .u64 v5 (IntKind.u64.wrap (v5 * 2 ^ (min 13 64)))) (Int.fdiv (iXor .u64 v5 (IntKind.u64.wrap (v5 * 2 ^ (min 13 64)))) (2 ^ (min 7 64)))) * 2 ^ (min 17 64)))) (IntKind.u64.wrap (y1 - 1))) - (a2 - a1))) .n)))) ?_
    exact Vs.intro Sees.refl ⟨((iAnd .u64 (iXor .u64 (iXor .u64 (iXor .u64 v5 (IntKind.u64.wrap (v5 * 2 ^ (min 13 64)))) (Int.fdiv (iXor .u64 v5 (IntKind.u64.wrap (v5 * 2 ^ (min 13 64)))) (2 ^ (min 7 64)))) (IntKind.u64.wrap ((iXor .u64 (iXor .u64 v5 (IntKind.u64.wrap (v5 * 2 ^ (min 13 64)))) (Int.fdiv (iXor .u64 v5 (IntKind.u64.wrap (v5 * 2 ^ (min 13 64)))) (2 ^ (min 7 64)))) * 2 ^ (min 17 64)))) (IntKind.u64.wrap (y1 - 1))) - (a2 - a1)),rfl,h⟩
   refine q2 ?_
   exact Vs.intro sy ⟨(iAnd .u64 (iXor .u64 (iXor .u64 (iXor .u64 v5 (IntKind.u64.wrap (v5 * 2 ^ (min 13 64)))) (Int.fdiv (iXor .u64 v5 (IntKind.u64.wrap (v5 * 2 ^ (min 13 64)))) (2 ^ (min 7 64)))) (IntKind.u64.wrap ((iXor .u64 (iXor .u64 v5 (IntKind.u64.wrap (v5 * 2 ^ (min 13 64)))) (Int.fdiv (iXor .u64 v5 (IntKind.u64.wrap (v5 * 2 ^ (min 13 64)))) (2 ^ (min 7 64)))) * 2 ^ (min 17 64)))) (IntKind.u64.wrap (y1 - 1))),rfl,h⟩
  refine q5 ?_
  have h := si h
  subst h
  exact DoneS.normal (S' := ⟨[],[some (.row 2 (List.map ePartCount v6))]⟩) (sc [0] (by decide) (by kernel_rfl) (obRen_row ePartCount_frz rfl .nil) rfl rfl) rfl rfl
 refine q2 ?_
 have h := si h
 subst h
 exact dn .n rfl rfl
set_option maxHeartbeats 1000000 in
theorem q192k (n : Nat) : ∀ (fu : Nat) (a0 : List PartCount) (a1 : Int) (a2 : Int) (a3 : Int) (r : (List PartCount)),loopN (q12k n) fu (a0,a1,a2,a3) = some r → FnL Tryz.prog 178 [.own 0 0 a0.length,vi a1,vi a2,vi a3,.fn (.func 136) [] []] [some (.row 2 (List.map ePartCount a0))] (.tup []) [some (.row 2 (List.map ePartCount r))] := by
 intro fu
 induction fu with
 | zero =>
  intro a0 a1 a2 a3 r h
  cases h
 | succ fu ih =>
  intro a0 a1 a2 a3 r h
  replace h : q12k n (loopN (q12k n) fu) (a0,a1,a2,a3) = some r := h
  dsimp only [q12k] at h
  refine fob [] Tryz.call178 Tryz.func178 rfl (.cons rfl .nil) ?_
  refine sk (.k4 (.k (.i 10 (vb true) .n))) ?_
  refine sk (.k4 (.k2 (.i 11 (vb true) .n))) ?_
  refine q4 ?_
  refine TriE.loopN h (fun (t : Int × (List PartCount) × Bool × Bool × Int × Int) => match t with | (v15,v16,v17,v18,v19,v37) => St.mk [(0,.own 0 0 v16.length),(1,vi v15),(2,vi v19),(3,vi v37),(4,.fn (.func 136) [] []),(10,vb v17),(11,vb v18)] [some (.row 2 (List.map ePartCount v16))]) rfl ?_
  clear h
  rintro back ⟨v15,v16,v17,v18,v19,v37⟩ h
  dsimp only [q10k] at h
  refine q4 ?_
  refine sj ?_
  refine rk 2 (.k4 (.k3 (.i 21 (vi v19) (.i 22 (vi v15) .n)))) ?_
  obtain ⟨c1,h⟩ := ck h
  refine jo 23 (.bin .sub false 21 22) (r_sub rfl rfl c1) ?_
  refine jk 1 (.d (.k4 (.k3 (.i 12 (vi (v19 - v15)) .n)))) ?_
  refine q1 ?_
  refine sk (.k4 (.k4 (.i 25 (vb (decide ((v19 - v15) ≤ (12 : Int)))) .n))) ?_
  refine tc h (fun c2 h => ?_) (fun c2 h => ?_)
  ·refine sj ?_
   refine rk 4 (.i 26 (.own 0 0 v16.length) (.i 27 (vi v15) (.i 28 (vi v19) (.i 29 (.fn (.func 136) [] []) .n)))) ?_
   obtain ⟨y38,hy38,h⟩ := bs h
   refine jco (.tup []) 30 [26,27,28,29] (q175k n v16 v15 v19 y38 hy38) [0] rfl (.same (row_ren ePartCount_frz _ _ _) .nil) (.same (row_ren ePartCount_frz _ _ _) .nil) rfl ?_
   obtain ⟨c3,h⟩ := ck h
   refine RegJ.sees (S' := ⟨[(26,.own 0 0 y38.length),(27,vi v15),(28,vi v19),(29,.fn (.func 136) [] []),(30,.tup [])],[some (.row 2 (List.map ePartCount y38))]⟩) (Sees.cov (Cov.mk2 (rs := [0]) (by decide) rfl rfl (.cons (.inl (by rw [show v16.length = y38.length from of_decide_eq_true c3]; rfl)) (.cons (.inl rfl) (.cons (.inl rfl) (.cons (.inl rfl) (.cons (.inl rfl) .nil))))) (obRen_row ePartCount_frz rfl .nil))) ?_
   refine jf .n ?_
   refine q3 ?_
   have h := si h
   subst h
   exact DoneS.ret Sees.refl rfl rfl
  refine q2 ?_
  refine q1 ?_
  refine sk (.k4 (.k4 (.i 32 (vb (v37 == (0 : Int))) .n))) ?_
  refine tc h (fun c4 h => ?_) (fun c4 h => ?_)
  ·refine sj ?_
   refine rk 4 (.i 33 (.own 0 0 v16.length) (.i 34 (vi v15) (.i 35 (vi v19) (.i 36 (.fn (.func 136) [] []) .n)))) ?_
   obtain ⟨y39,hy39,h⟩ := bs h
   refine jco (.tup []) 37 [33,34,35,36] (q191k n v16 v15 v19 y39 hy39) [0] rfl (.same (row_ren ePartCount_frz _ _ _) .nil) (.same (row_ren ePartCount_frz _ _ _) .nil) rfl ?_
   obtain ⟨c5,h⟩ := ck h
   refine RegJ.sees (S' := ⟨[(33,.own 0 0 y39.length),(34,vi v15),(35,vi v19),(36,.fn (.func 136) [] []),(37,.tup [])],[some (.row 2 (List.map ePartCount y39))]⟩) (Sees.cov (Cov.mk2 (rs := [0]) (by decide) rfl rfl (.cons (.inl (by rw [show v16.length = y39.length from of_decide_eq_true c5]; rfl)) (.cons (.inl rfl) (.cons (.inl rfl) (.cons (.inl rfl) (.cons (.inl rfl) .nil))))) (obRen_row ePartCount_frz rfl .nil))) ?_
   refine jf .n ?_
   refine q3 ?_
   have h := si h
   subst h
   exact DoneS.ret Sees.refl rfl rfl
  refine q2 ?_
  refine TriE.seqK h (fun (t : (List PartCount) × Int) => match t with | (v41,v42) => St.mk [(0,.own 0 0 v41.length),(1,vi v15),(2,vi v19),(4,.fn (.func 136) [] []),(10,vb v17),(11,vb v18),(12,vi (v19 - v15)),(3,vi v42)] [some (.row 2 (List.map ePartCount v41))]) ?_ ?_
  ·rintro ⟨v41,v42⟩ h
   refine sj ?_
   refine rk 4 (.k4 (.k4 (.i 48 (.own 0 0 v41.length) (.i 49 (vi v15) (.i 50 (vi v19) (.i 51 (.fn (.func 136) [] []) .n)))))) ?_
   obtain ⟨y43,hy43,h⟩ := bs h
   refine jco (.tup [vi y43.1,vi y43.2]) 52 [48,49,50,51] (q186k n v41 v15 v19 y43 hy43) [0] rfl (.same (row_ren ePartCount_frz _ _ _) .nil) (.same (row_ren ePartCount_frz _ _ _) .nil) rfl ?_
   refine jk 5 (.d (.k4 (.k4 (.i 13 (vi y43.1) (.i 14 (vi y43.2) .n))))) ?_
   refine TriE.seqK h (fun (t : (List PartCount) × Int × Int) => match t with | (v45,v46,v47) => St.mk [(0,.own 0 0 v45.length),(1,vi v15),(2,vi v19),(4,.fn (.func 136) [] []),(10,vb v17),(11,vb v18),(12,vi (v19 - v15)),(3,vi v42),(13,vi v46),(14,vi v47)] [some (.row 2 (List.map ePartCount v45))]) ?_ ?_
   ·rintro ⟨v45,v46,v47⟩ h
    refine TriE.seqK h (fun (v49 : (List PartCount)) => St.mk [(0,.own 0 0 v49.length),(1,vi v15),(2,vi v19),(4,.fn (.func 136) [] []),(10,vb v17),(11,vb v18),(12,vi (v19 - v15)),(3,vi v42),(13,vi v46)] [some (.row 2 (List.map ePartCount v49))]) ?_ ?_
    ·rintro v49 h
     refine q1 ?_
     refine q1 ?_
     refine ts .a ?_
     refine TriE.draw (by kernel_rfl) ?_
     refine dk 3 (.i 83 (vb (decide ((0 : Int) < v15))) (.i 82 (vb (decide ((0 : Int) < v15))) (.i 81 (vi v15) .a))) ?_
     refine gd (decide ((0 : Int) < v15)) (.fn (.func 136) [] []) 84 (.mov 4) 83 true rfl (fun hg => (.cons rfl .nil)) ?_
     refine gd (decide ((0 : Int) < v15)) (.own 0 0 v49.length) 85 (.mov 0) 83 true rfl (fun hg => (.cons rfl .nil)) ?_
     refine gd (decide ((0 : Int) < v15)) (vi v15) 86 (.mov 1) 83 true rfl (fun hg => (.cons rfl .nil)) ?_
     obtain ⟨c17,h⟩ := ck h
     refine gu (decide ((0 : Int) < v15)) 87 (.bin .sub false 86 (ki 1)) 83 true rfl (fun hg => (r_sub rfl rfl (gor c17 hg))) (fun hg => (.cons hg (.cons rfl .nil))) ?_
     obtain ⟨c18,h⟩ := ck h
     refine gu (decide ((0 : Int) < v15)) 88 (.iaddr 2 85 87) 83 true rfl (fun hg => (ok_iaddr_o0 (j := (v15 - 1).toNat) rfl rfl rfl (inB_to (gor c18 hg)) (inB_lt (gor c18 hg)))) (fun hg => (.cons hg (.cons hg .nil))) ?_
     obtain ⟨c19,h⟩ := ck h
     refine gu (decide ((0 : Int) < v15)) 89 (.load true 2 88) 83 true rfl (fun hg => (ok_load_pm (l := v49) (e := ePartCount) (v := .agg [vt ((ix v49 ((v15 - 1).toNat)).Part),vi ((ix v49 ((v15 - 1).toNat)).Count)]) rfl rfl (gor c19 hg) rfl)) (fun hg => (.cons hg .nil)) ?_
     refine gd (decide ((0 : Int) < v15)) (.own 0 0 v49.length) 90 (.mov 0) 83 true rfl (fun hg => (.cons rfl .nil)) ?_
     refine gd (decide ((0 : Int) < v15)) (vi v46) 91 (.mov 13) 83 true rfl (fun hg => (.cons rfl .nil)) ?_
     obtain ⟨c20,h⟩ := ck h
     refine gu (decide ((0 : Int) < v15)) 92 (.iaddr 2 90 91) 83 true rfl (fun hg => (ok_iaddr_o0 (j := v46.toNat) rfl rfl rfl (inB_to (gor c20 hg)) (inB_lt (gor c20 hg)))) (fun hg => (.cons hg (.cons hg .nil))) ?_
     obtain ⟨c21,h⟩ := ck h
     refine gu (decide ((0 : Int) < v15)) 93 (.load true 2 92) 83 true rfl (fun hg => (ok_load_pm (l := v49) (e := ePartCount) (v := .agg [vt ((ix v49 v46.toNat).Part),vi ((ix v49 v46.toNat).Count)]) rfl rfl (gor c21 hg) rfl)) (fun hg => (.cons hg .nil)) ?_
     obtain ⟨y50,hy50,h⟩ := bs h
     refine RegD.op (OpD.dyng (g := decide ((0 : Int) < v15)) (y' := vi y50) (obx := []) _ _ _ (cy (IG 94 (.dyn 84 [89,93]) 83 true)) rfl rfl (fun hg => q6k n (ix v49 ((v15 - 1).toNat)) (ix v49 v46.toNat) y50 (gcall_some hy50 hg)) [] (fun hg => by kernel_rfl) (fun hg => (.cons hg (.cons hg (.cons hg .nil)))) (by kernel_rfl) (by kernel_rfl) ObsRen.nil (by kernel_rfl) (by kernel_rfl) rfl) ?_
     refine gd (decide ((0 : Int) < v15)) (vb (decide (y50 < (0 : Int)))) 95 (.bin .lss false 94 (ki 0)) 83 true rfl (fun hg => (.cons hg (.cons rfl .nil))) ?_
     refine gd (decide ((0 : Int) < v15)) (vb (!(decide (y50 < (0 : Int))))) 96 (.un .not 95) 83 true rfl (fun hg => (.cons hg .nil)) ?_
     refine RegD.op (OpD.and (cy (I0 97 (.pick 83 96 (.c (.p (.bool false)))))) rfl rfl (by first | exact hokA1 | exact hokA0 | simp)) ?_
     refine dfi (.d4 (.d4 (.d4 (.d4 (.d (.k4 (.k4 (.k (.i 97 (vb ((decide ((0 : Int) < v15)) && (!(decide (y50 < (0 : Int)))))) .n))))))))) [0] (obRen_row ePartCount_frz rfl .nil) ?_
     refine tc h (fun c22 h => ?_) (fun c22 h => ?_)
     ·refine sj ?_
      refine rk 5 (.k (.d (.k4 (.d (.k (.i 98 (.own 0 0 v49.length) (.i 99 (vi v15) (.i 100 (vi v19) (.i 101 (vi v46) (.i 102 (.fn (.func 136) [] []) .n)))))))))) ?_
      obtain ⟨y51,hy51,h⟩ := bs h
      refine jco (vi y51.1) 103 [98,99,100,101,102] (q168k n v49 v15 v19 v46 y51 hy51) [0] rfl (.same (row_ren ePartCount_frz _ _ _) .nil) (.same (row_ren ePartCount_frz _ _ _) .nil) rfl ?_
      obtain ⟨c23,h⟩ := ck h
      refine RegJ.sees (S' := ⟨[(0,.own 0 0 y51.2.length),(2,vi v19),(4,.fn (.func 136) [] []),(10,vb v17),(11,vb v18),(3,vi v42),(98,.own 0 0 y51.2.length),(99,vi v15),(100,vi v19),(101,vi v46),(102,.fn (.func 136) [] []),(103,vi y51.1)],[some (.row 2 (List.map ePartCount y51.2))]⟩) (Sees.cov (Cov.mk2 (rs := [0]) (by decide) rfl rfl (.cons (.inl (by rw [show v49.length = y51.2.length from of_decide_eq_true c23]; rfl)) (.cons (.inl rfl) (.cons (.inl rfl) (.cons (.inl rfl) (.cons (.inl rfl) (.cons (.inl rfl) (.cons (.inl (by rw [show v49.length = y51.2.length from of_decide_eq_true c23]; rfl)) (.cons (.inl rfl) (.cons (.inl rfl) (.cons (.inl rfl) (.cons (.inl rfl) (.cons (.inl rfl) .nil)))))))))))) (obRen_row ePartCount_frz rfl .nil))) ?_
      refine jk 1 (.k4 (.k2 (.i 15 (vi y51.1) .n))) ?_
      refine sk (.k4 (.k2 (.i 1 (vi y51.1) .n))) ?_
      refine q5 ?_
      exact Vs.intro sy ⟨(y51.1,y51.2,v17,v18,v19,v42),rfl,h⟩
     refine q2 ?_
     refine sj ?_
     refine rk 5 (.k4 (.d2 (.k2 (.i 106 (.own 0 0 v49.length) (.i 107 (vi v15) (.i 108 (vi v19) (.i 109 (vi v46) (.i 110 (.fn (.func 136) [] []) .n)))))))) ?_
     obtain ⟨y52,hy52,h⟩ := bs h
     refine jco (.tup [vi y52.1,vb y52.2.2]) 111 [106,107,108,109,110] (q189k n v49 v15 v19 v46 y52 hy52) [0] rfl (.same (row_ren ePartCount_frz _ _ _) .nil) (.same (row_ren ePartCount_frz _ _ _) .nil) rfl ?_
     obtain ⟨c24,h⟩ := ck h
     refine RegJ.sees (S' := ⟨[(0,.own 0 0 y52.2.1.length),(1,vi v15),(2,vi v19),(4,.fn (.func 136) [] []),(12,vi (v19 - v15)),(3,vi v42),(106,.own 0 0 y52.2.1.length),(107,vi v15),(108,vi v19),(109,vi v46),(110,.fn (.func 136) [] []),(111,.tup [vi y52.1,vb y52.2.2])],[some (.row 2 (List.map ePartCount y52.2.1))]⟩) (Sees.cov (Cov.mk2 (rs := [0]) (by decide) rfl rfl (.cons (.inl (by rw [show v49.length = y52.2.1.length from of_decide_eq_true c24]; rfl)) (.cons (.inl rfl) (.cons (.inl rfl) (.cons (.inl rfl) (.cons (.inl rfl) (.cons (.inl rfl) (.cons (.inl (by rw [show v49.length = y52.2.1.length from of_decide_eq_true c24]; rfl)) (.cons (.inl rfl) (.cons (.inl rfl) (.cons (.inl rfl) (.cons (.inl rfl) (.cons (.inl rfl) .nil)))))))))))) (obRen_row ePartCount_frz rfl .nil))) ?_
     refine jk 5 (.k4 (.k2 (.i 16 (vi y52.1) (.i 17 (vb y52.2.2) .n)))) ?_
     refine sk (.k4 (.k3 (.i 11 (vb y52.2.2) .n))) ?_
     refine sj ?_
     refine rk 2 (.k4 (.k4 (.i 115 (vi y52.1) (.i 116 (vi v15) .n)))) ?_
     obtain ⟨c25,h⟩ := ck h
     refine jo 117 (.bin .sub false 115 116) (r_sub rfl rfl c25) ?_
     refine rk 2 (.d (.k4 (.k4 (.i 117 (vi (y52.1 - v15)) (.i 118 (vi v19) (.i 119 (vi y52.1) .n)))))) ?_
     obtain ⟨c26,h⟩ := ck h
     refine jo 120 (.bin .sub false 118 119) (r_sub rfl rfl c26) ?_
     refine jk 2 (.d (.k4 (.k4 (.i 18 (vi (y52.1 - v15)) (.i 19 (vi (v19 - y52.1)) .n))))) ?_
     refine sj ?_
     refine rk 1 (.k4 (.d (.k4 (.k (.i 121 (vi (v19 - v15)) .n))))) ?_
     obtain ⟨c27,h⟩ := ck h
     refine jo 122 (.bin .quo false 121 (ki 8)) (r_quo rfl rfl c27) ?_
     refine jk 1 (.d (.k4 (.k4 (.k (.i 20 (vi (Int.tdiv (v19 - v15) 8)) .n))))) ?_
     refine sk (.k4 (.k4 (.k2 (.i 125 (vb (decide ((y52.1 - v15) < (v19 - y52.1)))) .n)))) ?_
     refine tc h (fun c28 h => ?_) (fun c28 h => ?_)
     ·refine sk (.k4 (.k3 (.i 10 (vb (decide ((Int.tdiv (v19 - v15) 8) ≤ (y52.1 - v15)))) .n))) ?_
      refine sj ?_
      refine rk 5 (.k (.d (.k4 (.k2 (.i 129 (.own 0 0 y52.2.1.length) (.i 130 (vi v15) (.i 131 (vi y52.1) (.i 132 (vi v42) (.i 133 (.fn (.func 136) [] []) .n))))))))) ?_
      obtain ⟨y53,hy53,h⟩ := bs h
      refine jco (.tup []) 134 [129,130,131,132,133] (ih y52.2.1 v15 y52.1 v42 y53 hy53) [0] rfl (.same (row_ren ePartCount_frz _ _ _) .nil) (.same (row_ren ePartCount_frz _ _ _) .nil) rfl ?_
      obtain ⟨c29,h⟩ := ck h
      refine RegJ.sees (S' := ⟨[(0,.own 0 0 y53.length),(2,vi v19),(4,.fn (.func 136) [] []),(3,vi v42),(16,vi y52.1),(11,vb y52.2.2),(10,vb (decide ((Int.tdiv (v19 - v15) 8) ≤ (y52.1 - v15)))),(129,.own 0 0 y53.length),(130,vi v15),(131,vi y52.1),(132,vi v42),(133,.fn (.func 136) [] []),(134,.tup [])],[some (.row 2 (List.map ePartCount y53))]⟩) (Sees.cov (Cov.mk2 (rs := [0]) (by decide) rfl rfl (.cons (.inl (by rw [show y52.2.1.length = y53.length from of_decide_eq_true c29]; rfl)) (.cons (.inl rfl) (.cons (.inl rfl) (.cons (.inl rfl) (.cons (.inl rfl) (.cons (.inl rfl) (.cons (.inl rfl) (.cons (.inl (by rw [show y52.2.1.length = y53.length from of_decide_eq_true c29]; rfl)) (.cons (.inl rfl) (.cons (.inl rfl) (.cons (.inl rfl) (.cons (.inl rfl) (.cons (.inl rfl) .nil))))))))))))) (obRen_row ePartCount_frz rfl .nil))) ?_
      refine jf (.k4 (.k3 .n)) ?_
      refine q6 ?_
      refine rk 1 (.k4 (.d (.k2 (.i 135 (vi y52.1) .n)))) ?_
      obtain ⟨c30,h⟩ := ck h
      refine jo 136 (.bin .add false 135 (ki 1)) (r_add rfl rfl c30) ?_
      refine jk 1 (.d (.k4 (.k2 (.i 1 (vi (y52.1 + 1)) .n)))) ?_
      exact Vs.intro sy ⟨(y52.1 + 1,y53,decide ((Int.tdiv (v19 - v15) 8) ≤ (y52.1 - v15)),y52.2.2,v19,v42),rfl,h⟩
     refine sk (.k4 (.k3 (.i 10 (vb (decide ((Int.tdiv (v19 - v15) 8) ≤ (v19 - y52.1)))) .n))) ?_
     refine sj ?_
     refine rk 2 (.k4 (.k4 (.i 140 (.own 0 0 y52.2.1.length) (.i 141 (vi y52.1) .n)))) ?_
     obtain ⟨c31,h⟩ := ck h
     refine jo 142 (.bin .add false 141 (ki 1)) (r_add rfl rfl c31) ?_
     refine rk 3 (.d (.k2 (.d (.k4 (.k2 (.i 142 (vi (y52.1 + 1)) (.i 143 (vi v19) (.i 144 (vi v42) (.i 145 (.fn (.func 136) [] []) .n))))))))) ?_
     obtain ⟨y54,hy54,h⟩ := bs h
     refine jco (.tup []) 146 [140,142,143,144,145] (ih y52.2.1 (y52.1 + 1) v19 v42 y54 hy54) [0] rfl (.same (row_ren ePartCount_frz _ _ _) .nil) (.same (row_ren ePartCount_frz _ _ _) .nil) rfl ?_
     obtain ⟨c32,h⟩ := ck h
     refine RegJ.sees (S' := ⟨[(0,.own 0 0 y54.length),(1,vi v15),(4,.fn (.func 136) [] []),(3,vi v42),(16,vi y52.1),(11,vb y52.2.2),(10,vb (decide ((Int.tdiv (v19 - v15) 8) ≤ (v19 - y52.1)))),(140,.own 0 0 y54.length),(142,vi (y52.1 + 1)),(143,vi v19),(144,vi v42),(145,.fn (.func 136) [] []),(146,.tup [])],[some (.row 2 (List.map ePartCount y54))]⟩) (Sees.cov (Cov.mk2 (rs := [0]) (by decide) rfl rfl (.cons (.inl (by rw [show y52.2.1.length = y54.length from of_decide_eq_true c32]; rfl)) (.cons (.inl rfl) (.cons (.inl rfl) (.cons (.inl rfl) (.cons (.inl rfl) (.cons (.inl rfl) (.cons (.inl rfl) (.cons (.inl (by rw [show y52.2.1.length = y54.length from of_decide_eq_true c32]; rfl)) (.cons (.inl rfl) (.cons (.inl rfl) (.cons (.inl rfl) (.cons (.inl rfl) (.cons (.inl rfl) .nil))))))))))))) (obRen_row ePartCount_frz rfl .nil))) ?_
     refine jf (.k4 (.k3 .n)) ?_
     refine tk (.k4 (.d (.k2 (.i 2 (vi y52.1) .n)))) ?_
     exact Vs.intro sy ⟨(v15,y54,decide ((Int.tdiv (v19 - v15) 8) ≤ (v19 - y52.1)),y52.2.2,y52.1,v42),rfl,h⟩
    intro k3 h
    refine sj ?_
    refine rk 2 (.k4 (.k4 (.k2 (.i 69 (vb v17) .n)))) ?_
    refine gj (vb v18) 70 (.mov 11) 69 true rfl ?_
    refine pa 71 69 70 rfl rfl ?_
    refine rk 1 (.d2 (.k4 (.k4 (.k2 (.i 70 (.cond v17 (vb v18)) (.i 72 (vb (v17 && v18)) .n)))))) ?_
    refine gj (vi v47) 73 (.mov 14) 72 true rfl ?_
    refine gk (vb (v47 == (1 : Int))) 74 (.bin .eql false 73 (ki 1)) 72 true rfl (fun hg => (.cons hg (.cons rfl .nil))) ?_
    refine pa 75 72 74 rfl rfl ?_
    refine jf (.d3 (.k4 (.k4 (.k (.i 75 (vb ((v17 && v18) && (v47 == (1 : Int)))) .n))))) ?_
    refine tc h (fun c14 h => ?_) (fun c14 h => ?_)
    ·refine sj ?_
     refine rk 4 (.k4 (.k4 (.k (.i 76 (.own 0 0 v45.length) (.i 77 (vi v15) (.i 78 (vi v19) (.i 79 (.fn (.func 136) [] []) .n))))))) ?_
     obtain ⟨y48,hy48,h⟩ := bs h
     refine jco (vb y48.2) 80 [76,77,78,79] (q131k n v45 v15 v19 y48 hy48) [0] rfl (.same (row_ren ePartCount_frz _ _ _) .nil) (.same (row_ren ePartCount_frz _ _ _) .nil) rfl ?_
     obtain ⟨c15,h⟩ := ck h
     refine RegJ.sees (S' := ⟨[(0,.own 0 0 y48.1.length),(1,vi v15),(2,vi v19),(4,.fn (.func 136) [] []),(10,vb v17),(11,vb v18),(12,vi (v19 - v15)),(3,vi v42),(13,vi v46),(76,.own 0 0 y48.1.length),(77,vi v15),(78,vi v19),(79,.fn (.func 136) [] []),(80,vb y48.2)],[some (.row 2 (List.map ePartCount y48.1))]⟩) (Sees.cov (Cov.mk2 (rs := [0]) (by decide) rfl rfl (.cons (.inl (by rw [show v45.length = y48.1.length from of_decide_eq_true c15]; rfl)) (.cons (.inl rfl) (.cons (.inl rfl) (.cons (.inl rfl) (.cons (.inl rfl) (.cons (.inl rfl) (.cons (.inl rfl) (.cons (.inl rfl) (.cons (.inl rfl) (.cons (.inl (by rw [show v45.length = y48.1.length from of_decide_eq_true c15]; rfl)) (.cons (.inl rfl) (.cons (.inl rfl) (.cons (.inl rfl) (.cons (.inl rfl) .nil)))))))))))))) (obRen_row ePartCount_frz rfl .nil))) ?_
     refine jf (.k4 (.k4 (.k (.d4 .a)))) ?_
     refine tc h (fun c16 h => ?_) (fun c16 h => ?_)
     ·refine q3 ?_
      have h := si h
      subst h
      exact dr .n rfl rfl
     refine q2 ?_
     exact Vs.intro sy ⟨y48.1,rfl,h⟩
    refine q2 ?_
    exact Vs.intro sy ⟨v45,rfl,h⟩
   intro k2 h
   refine sk (.k4 (.k4 (.k2 (.i 56 (vb (y43.2 == (2 : Int))) .n)))) ?_
   refine tc h (fun c9 h => ?_) (fun c9 h => ?_)
   ·refine sj ?_
    refine rk 4 (.k4 (.k4 (.k (.i 57 (.own 0 0 v41.length) (.i 58 (vi v15) (.i 59 (vi v19) (.i 60 (.fn (.func 136) [] []) .n))))))) ?_
    obtain ⟨y44,hy44,h⟩ := bs h
    refine jco (.tup []) 61 [57,58,59,60] (q178k n v41 v15 v19 y44 hy44) [0] rfl (.same (row_ren ePartCount_frz _ _ _) .nil) (.same (row_ren ePartCount_frz _ _ _) .nil) rfl ?_
    obtain ⟨c10,h⟩ := ck h
    refine RegJ.sees (S' := ⟨[(0,.own 0 0 y44.length),(1,vi v15),(2,vi v19),(4,.fn (.func 136) [] []),(10,vb v17),(11,vb v18),(12,vi (v19 - v15)),(3,vi v42),(13,vi y43.1),(57,.own 0 0 y44.length),(58,vi v15),(59,vi v19),(60,.fn (.func 136) [] []),(61,.tup [])],[some (.row 2 (List.map ePartCount y44))]⟩) (Sees.cov (Cov.mk2 (rs := [0]) (by decide) rfl rfl (.cons (.inl (by rw [show v41.length = y44.length from of_decide_eq_true c10]; rfl)) (.cons (.inl rfl) (.cons (.inl rfl) (.cons (.inl rfl) (.cons (.inl rfl) (.cons (.inl rfl) (.cons (.inl rfl) (.cons (.inl rfl) (.cons (.inl rfl) (.cons (.inl (by rw [show v41.length = y44.length from of_decide_eq_true c10]; rfl)) (.cons (.inl rfl) (.cons (.inl rfl) (.cons (.inl rfl) (.cons (.inl rfl) .nil)))))))))))))) (obRen_row ePartCount_frz rfl .nil))) ?_
    refine jf (.k4 (.k4 (.k .n))) ?_
    refine sj ?_
    refine rk 1 (.k4 (.k4 (.k (.i 62 (vi v19) .n)))) ?_
    obtain ⟨c11,h⟩ := ck h
    refine jo 63 (.bin .sub false 62 (ki 1)) (r_sub rfl rfl c11) ?_
    refine rk 2 (.d (.k4 (.k4 (.i 63 (vi (v19 - 1)) (.i 64 (vi y43.1) (.i 65 (vi v15) .n)))))) ?_
    obtain ⟨c12,h⟩ := ck h
    refine jo 66 (.bin .sub false 64 65) (r_sub rfl rfl c12) ?_
    obtain ⟨c13,h⟩ := ck h
    refine jo 67 (.bin .sub false 63 66) (r_sub rfl rfl c13) ?_
    refine jk 1 (.d2 (.k4 (.k4 (.i 13 (vi ((v19 - 1) - (y43.1 - v15))) .n)))) ?_
    refine tk (.k4 (.k4 (.k (.i 14 (vi 1) .n)))) ?_
    exact Vs.intro Sees.refl ⟨(y44,(v19 - 1) - (y43.1 - v15),1),rfl,h⟩
   refine q2 ?_
   exact Vs.intro sy ⟨(v41,y43.1,y43.2),rfl,h⟩
  intro k1 h
  refine sk (.k4 (.k4 (.i 39 (vb (!v17)) .n))) ?_
  refine tc h (fun c6 h => ?_) (fun c6 h => ?_)
  ·refine sj ?_
   refine rk 4 (.k4 (.k4 (.i 40 (.own 0 0 v16.length) (.i 41 (vi v15) (.i 42 (vi v19) (.i 43 (.fn (.func 136) [] []) .n)))))) ?_
   obtain ⟨y40,hy40,h⟩ := bs h
   refine jco (.tup []) 44 [40,41,42,43] (q174k n v16 v15 v19 y40 hy40) [0] rfl (.same (row_ren ePartCount_frz _ _ _) .nil) (.same (row_ren ePartCount_frz _ _ _) .nil) rfl ?_
   obtain ⟨c7,h⟩ := ck h
   refine RegJ.sees (S' := ⟨[(0,.own 0 0 y40.length),(1,vi v15),(2,vi v19),(3,vi v37),(4,.fn (.func 136) [] []),(10,vb v17),(11,vb v18),(12,vi (v19 - v15)),(40,.own 0 0 y40.length),(41,vi v15),(42,vi v19),(43,.fn (.func 136) [] []),(44,.tup [])],[some (.row 2 (List.map ePartCount y40))]⟩) (Sees.cov (Cov.mk2 (rs := [0]) (by decide) rfl rfl (.cons (.inl (by rw [show v16.length = y40.length from of_decide_eq_true c7]; rfl)) (.cons (.inl rfl) (.cons (.inl rfl) (.cons (.inl rfl) (.cons (.inl rfl) (.cons (.inl rfl) (.cons (.inl rfl) (.cons (.inl rfl) (.cons (.inl (by rw [show v16.length = y40.length from of_decide_eq_true c7]; rfl)) (.cons (.inl rfl) (.cons (.inl rfl) (.cons (.inl rfl) (.cons (.inl rfl) .nil))))))))))))) (obRen_row ePartCount_frz rfl .nil))) ?_
   refine jf (.k4 (.k4 .n)) ?_
   refine q6 ?_
   refine rk 1 (.k3 (.d (.k4 (.i 45 (vi v37) .n)))) ?_
   obtain ⟨c8,h⟩ := ck h
   refine jo 46 (.bin .sub false 45 (ki 1)) (r_sub rfl rfl c8) ?_
   refine jk 1 (.d (.k4 (.k3 (.i 3 (vi (v37 - 1)) .n)))) ?_
   exact Vs.intro Sees.refl ⟨(y40,v37 - 1),rfl,h⟩
  refine q2 ?_
  exact Vs.intro sy ⟨(v16,v37),rfl,h⟩
theorem q196k (n : Nat) (a0 : List PartCount) (a1 : Int) (a2 : Int) (a3 : Int) (r : (List PartCount)) (h : q89k n a0 a1 a2 a3 = some r) : FnL Tryz.prog 178 [.own 0 0 a0.length,vi a1,vi a2,vi a3,.fn (.func 136) [] []] [some (.row 2 (List.map ePartCount a0))] (.tup []) [some (.row 2 (List.map ePartCount r))] := q192k n n a0 a1 a2 a3 r h
theorem q213k (n : Nat) (a0 : List PartCount) (r : (List PartCount)) (h : q33k n a0 = some r) : FnL Tryz.prog 135 [.own 0 0 a0.length,.fn (.func 136) [] []] [some (.row 2 (List.map ePartCount a0))] (.tup []) [some (.row 2 (List.map ePartCount r))] := by
 dsimp only [q33k] at h
 refine fob [] Tryz.call135 Tryz.func135 rfl (.cons rfl .nil) ?_
 refine sk (.k2 (.i 4 (vi (a0.length : Int)) .n)) ?_
 refine q6 ?_
 refine rk 4 (.d (.k (.i 7 (.own 0 0 a0.length) (.i 8 (vi (a0.length : Int)) (.i 10 (vk .u64 (IntKind.u64.wrap (a0.length : Int))) .n))))) ?_
 obtain ⟨y1,hy1,h⟩ := bs h
 refine jc 11 [10] (q243k n (IntKind.u64.wrap (a0.length : Int)) y1 hy1) ?_
 refine rk 1 (.d2 (.k2 (.i 11 (vi y1) (.i 12 (.fn (.func 136) [] []) .n)))) ?_
 obtain ⟨y2,hy2,h⟩ := bs h
 refine jco (.tup []) 13 [7,(ki 0),8,11,12] (q196k n a0 0 (a0.length : Int) y1 y2 hy2) [0] rfl (.same (row_ren ePartCount_frz _ _ _) .nil) (.same (row_ren ePartCount_frz _ _ _) .nil) rfl ?_
 obtain ⟨c1,h⟩ := ck h
 refine RegJ.sees (S' := ⟨[(7,.own 0 0 y2.length),(8,vi (a0.length : Int)),(11,vi y1),(12,.fn (.func 136) [] []),(13,.tup [])],[some (.row 2 (List.map ePartCount y2))]⟩) (Sees.cov (Cov.mk2 (rs := [0]) (by decide) rfl rfl (.cons (.inl (by rw [show a0.length = y2.length from of_decide_eq_true c1]; rfl)) (.cons (.inl rfl) (.cons (.inl rfl) (.cons (.inl rfl) (.cons (.inl rfl) .nil))))) (obRen_row ePartCount_frz rfl .nil))) ?_
 refine jf .n ?_
 have h := si h
 subst h
 exact DoneS.normal Sees.refl rfl rfl
set_option maxHeartbeats 1000000 in
theorem q258k (n : Nat) (a0 : List Task) (a1 : List Str) (r : Int × (List PartCount)) (h : q129k n a0 a1 = some r) : FnL Tryz.prog 65 [eS 6 eTask a0,eS 1 vt a1] [] (.tup [eS 2 ePartCount r.2,vi r.1]) [] := by
 dsimp only [q129k] at h
 refine fo [4,5] Tryz.call65 Tryz.func65 rfl ?_
 refine sk .a ?_
 refine q1 ?_
 refine sj ?_
 refine rko 3 (.k2 (.i 15 (eS 6 eTask a0) (.i 17 (.own 0 0 1) .n))) [some (.row 1 [eS 1 vt a1])] ?_
 refine RegJ.sees (Sees.freeze 0 (fr' := [(0,eS 6 eTask a0),(1,eS 1 vt a1),(15,eS 6 eTask a0),(17,eS 1 (eS 1 vt) ([a1] : List (List Str)))]) (ob' := [none]) rfl (frzs_cons rfl frzs_nil) (.cons (.refl _) (.cons (.refl _) (.cons (.refl _) (.cons (.own rfl (Nat.le_of_ble_eq_true rfl)) .nil)))) rfl) ?_
 obtain ⟨y1,hy1,h⟩ := bs h
 refine jc 18 [15,17] (q208k n a0 ([a1] : List (List Str)) y1 hy1) ?_
 refine jk 1 (.d (.k2 (.i 6 (vi y1) .n))) ?_
 refine sk (.k3 (.i 20 (vb (y1 != (0 : Int))) .n)) ?_
 refine tc h (fun c1 h => ?_) (fun c1 h => ?_)
 ·refine sk (.i 4 .emp (.i 5 (vi y1) .n)) ?_
  refine q3 ?_
  have h := si h
  subst h
  exact DoneS.ret (S' := ⟨[(4,eS 2 ePartCount ([] : List PartCount)),(5,vi y1)],[]⟩) (Sees.trans (Sees.vco (fr' := [(4,eS 2 ePartCount ([] : List PartCount)),(5,vi y1)]) (.cons .sl (.cons .same .nil))) (sc [] (by decide) (by kernel_rfl) ObRen.nil rfl rfl)) rfl rfl
 refine q2 ?_
 refine sj ?_
 refine jx 22 .mkmap _ rfl rfl rfl ?_
 refine jk 1 (.d (.k2 (.i 7 (.map 1) .n))) ?_
 refine TriE.seqK h (fun (v12 : (List (Str × Int))) => St.mk [(7,.map 0)] [some (.mp (mpE vt vi v12))]) ?_ ?_
 ·rintro v12 h
  refine sk (.k (.i 12 .emp .n)) ?_
  refine TriE.seqK h (fun (v20 : (List PartCount)) => St.mk [(12,.own 0 0 v20.length)] [some (.row 2 (List.map ePartCount v20))]) ?_ ?_
  ·rintro v20 h
   refine sj ?_
   refine rk 1 (.k (.i 63 (.own 0 0 v20.length) .n)) ?_
   obtain ⟨y21,hy21,h⟩ := bs h
   refine jco (.tup []) 64 [63,(.c (.fn (.func 136) [] []))] (q213k n v20 y21 hy21) [0] rfl (.same (row_ren ePartCount_frz _ _ _) .nil) (.same (row_ren ePartCount_frz _ _ _) .nil) rfl ?_
   obtain ⟨c15,h⟩ := ck h
   refine RegJ.sees (S' := ⟨[(12,.own 0 0 y21.length),(63,.own 0 0 y21.length),(64,.tup [])],[some (.row 2 (List.map ePartCount y21))]⟩) (Sees.cov (Cov.mk2 (rs := [0]) (by decide) rfl rfl (.cons (.inl (by rw [show v20.length = y21.length from of_decide_eq_true c15]; rfl)) (.cons (.inl (by rw [show v20.length = y21.length from of_decide_eq_true c15]; rfl)) (.cons (.inl rfl) .nil))) (obRen_row ePartCount_frz rfl .nil))) ?_
   refine jf (.k .n) ?_
   refine sk (.i 4 (.own 0 0 y21.length) (.i 5 (vi 0) .n)) ?_
   refine q3 ?_
   have h := si h
   subst h
   exact DoneS.ret (S' := ⟨[(4,eS 2 ePartCount y21),(5,vi 0)],[]⟩) (Sees.trans (Sees.freeze 0 (fr' := [(4,eS 2 ePartCount y21),(5,vi 0)]) (ob' := [none]) rfl (frz_row ePartCount_frzE _) (.cons (frz_full rfl) (.cons (.refl _) .nil)) rfl) (sc [] (by decide) (by kernel_rfl) ObRen.nil rfl rfl)) rfl rfl
  intro k3 h
  refine sj ?_
  refine rk 1 (.d (.k (.i 50 (.map 0) .n))) ?_
  refine RegJ.rngM (d := some 51) (t := 50) (n := 0) (ek := vt) (ev := vi) (l := v12) (by kernel_rfl) rfl rfl vt_frz vi_frz ?_
  refine jp [(12,.emp),(51,.itp 1)] ?_
  refine q4 ?_
  refine TriE.sees (S' := ⟨[(12,.own 1 0 ([] : List PartCount).length),(51,.itp 0)],[some (itO vt vi none v12),some (.row 2 (List.map ePartCount ([] : List PartCount)))]⟩) (Sees.trans (Sees.co (fr' := [(12,.own 2 0 0),(51,.itp 1)]) (ob' := [none,some (itO vt vi none v12)]) (.cons .own (.cons .same .nil)) (.same (.same .nil)) 2) (sc [1,2] (by decide) (by kernel_rfl) (obRen_it rfl (obRen_row ePartCount_frz rfl .nil)) rfl rfl)) ?_
  refine TriE.loopN h (fun (t : (List PartCount) × (Option (Str × Int)) × (List (Str × Int))) => match t with | (v15,v16,v17) => St.mk [(12,.own 1 0 v15.length),(51,.itp 0)] [some (itO vt vi v16 v17),some (.row 2 (List.map ePartCount v15))]) rfl ?_
  clear h
  rintro back ⟨v15,v16,v17⟩ h
  dsimp only [q148k] at h
  refine sj ?_
  refine RegJ.nxtM (d := some 52) (n := 0) (t := 51) (c := v16) (l := v17) (by kernel_rfl) rfl rfl rfl (fun c10 => ?_) (fun j18 x19 c11 => ?_)
  ·have h := cond_t h (len0 c10)
   refine jq 1 [(12,.own 1 0 v15.length),(51,.itp 0),(53,vb false)] [some (itO vt vi v16 v17),some (.row 2 (List.map ePartCount v15))] ?_
   refine q1 ?_
   refine TriE.cond (b := false) rfl (fun c12 => ?_) (fun c12 => ?_)
   ·cases c12
   refine q5 ?_
   exact Vs.intro (sc [1] (by decide) (by kernel_rfl) (obRen_row ePartCount_frz rfl .nil) rfl rfl) ⟨v15,rfl,h⟩
  have h := pickK_at (cond_f h (lenS c11)) c11
  refine jq 1 [(12,.own 1 0 v15.length),(51,.itp 0),(53,vb true)] [some (itO vt vi (some x19) (List.eraseIdx v17 j18)),some (.row 2 (List.map ePartCount v15))] ?_
  refine q1 ?_
  refine TriE.cond (b := true) rfl (fun c13 => ?_) (fun c13 => ?_)
  rotate_left
  ·cases c13
  refine q2 ?_
  refine q4 ?_
  refine sj ?_
  refine RegJ.entM (d := some 54) (t := 51) (n := 0) (x := x19) (l := (List.eraseIdx v17 j18)) (by kernel_rfl) rfl rfl rfl ?_
  refine jq 4 [(12,.own 1 0 v15.length),(51,.itp 0),(13,vt x19.1),(14,vi x19.2)] [some (itO vt vi (some x19) (List.eraseIdx v17 j18)),some (.row 2 (List.map ePartCount v15))] ?_
  refine q6 ?_
  refine rko 5 (.d (.k (.i 57 (.own 1 0 v15.length) (.i 61 (.own 2 0 1) .n)))) [some (itO vt vi (some x19) (List.eraseIdx v17 j18)),some (.row 2 (List.map ePartCount v15)),some (.row 2 [.agg [vt x19.1,vi x19.2]])] ?_
  obtain ⟨c14,h⟩ := ck h
  refine jx 62 (.app 2 24 57 61) _ (ok_app_own (l := v15) (l2 := ([(PartCount.mk x19.1 x19.2)] : List PartCount)) (e := ePartCount) (u := .own 2 0 1) rfl rfl rfl rfl rfl c14) rfl rfl ?_
  refine jk 1 (.d (.k (.i 12 (.own 3 0 ((v15 ++ ([(PartCount.mk x19.1 x19.2)] : List PartCount)).length)) .n))) ?_
  exact Vs.intro (sc [0,3] (by decide) (by kernel_rfl) (obRen_it rfl (obRen_row ePartCount_frz rfl .nil)) rfl rfl) ⟨((v15 ++ ([(PartCount.mk x19.1 x19.2)] : List PartCount)),(some x19),(List.eraseIdx v17 j18)),rfl,h⟩
 intro k2 h
 refine sj ?_
 refine rk 1 (.k (.d (.k (.i 23 (eS 1 vt a1) .n)))) ?_
 refine jo 24 (.len 0 23) (ok_len_m rfl) ?_
 refine jk 1 (.d (.k3 (.i 24 (vi (a1.length : Int)) (.i 25 (vi 0) .n)))) ?_
 refine q4 ?_
 refine TriE.sees (S' := ⟨[(0,eS 6 eTask a0),(7,.map 0),(23,eS 1 vt a1),(24,vi (a1.length : Int)),(25,vi 0)],[some (.mp (mpE vt vi ([] : List (Str × Int))))]⟩) (sc [1] (by decide) (by kernel_rfl) (obRen_mp vt_frz vi_frz rfl .nil) rfl rfl) ?_
 refine TriE.loopN h (fun (t : Nat × (List (Str × Int))) => match t with | (v6,v7) => St.mk [(0,eS 6 eTask a0),(7,.map 0),(23,eS 1 vt a1),(24,vi (a1.length : Int)),(25,vi v6)] [some (.mp (mpE vt vi v7))]) rfl ?_
 clear h
 rintro back ⟨v6,v7⟩ h
 dsimp only [q147k] at h
 refine sj ?_
 refine jo 26 (.bin .lss false 25 24) (n_lss (i := v6) (j := a1.length) rfl rfl) ?_
 refine jf (.d (.k4 (.k (.i 26 (vb (decide (v6 < a1.length))) .n)))) ?_
 refine q1 ?_
 refine tc h (fun c2 h => ?_) (fun c2 h => ?_)
 ·refine q2 ?_
  refine TriE.seqK h (fun (v11 : (List (Str × Int))) => St.mk [(0,eS 6 eTask a0),(7,.map 0),(23,eS 1 vt a1),(24,vi (a1.length : Int)),(25,vi v6)] [some (.mp (mpE vt vi v11))]) ?_ ?_
  ·rintro v11 h
   refine q6 ?_
   obtain ⟨c9,h⟩ := ck h
   refine jo 49 (.bin .add false 25 (ki 1)) (r_addn (i := v6) (j := 1) rfl rfl c9) ?_
   refine jk 1 (.d (.k4 (.i 25 (vi ((v6 + 1 : Nat) : Int)) .n))) ?_
   exact Vs.intro sy ⟨(v6 + 1,v11),rfl,h⟩
  intro k1 h
  refine q4 ?_
  refine sj ?_
  refine jo 27 (.iaddr 1 23 25) (ok_iaddr_m (j := v6) rfl rfl rfl c2) ?_
  refine jo 28 (.load false 1 27) (ok_load_fm (v := vt (ix a1 v6)) rfl c2 rfl) ?_
  refine jk 1 (.d2 (.k4 (.k (.i 9 (vt (ix a1 v6)) .n)))) ?_
  refine sj ?_
  refine rk 3 (.k4 (.k (.i 29 (eS 6 eTask a0) (.i 30 (eS 6 eTask a0) (.i 31 (vt (ix a1 v6)) .n))))) ?_
  obtain ⟨y8,hy8,h⟩ := bs h
  refine jc 32 [30,31] (q111k n a0 (ix a1 v6) y8 hy8) ?_
  obtain ⟨c3,h⟩ := ck h
  refine jo 33 (.iaddr 6 29 32) (ok_iaddr_m (j := y8.toNat) rfl rfl (inB_to c3) (inB_lt c3)) ?_
  refine rk 1 (.d2 (.k4 (.k (.i 34 (.fptr 6 (List.map eTask a0) y8.toNat 5) .n)))) ?_
  obtain ⟨c4,h⟩ := ck h
  refine jo 35 (.load false 1 34) (ok_load_fm (v := eS 2 ePartCount ((ix a0 y8.toNat).Parts)) rfl c4 rfl) ?_
  refine jo 36 (.len 0 35) (ok_len_m rfl) ?_
  refine jk 1 (.d2 (.k4 (.k (.i 35 (eS 2 ePartCount ((ix a0 y8.toNat).Parts)) (.i 36 (vi ((((ix a0 y8.toNat).Parts).length : Nat) : Int)) (.i 37 (vi 0) .n)))))) ?_
  refine q4 ?_
  refine ts (.k4 (.k3 (.i 37 (vi 0) .n))) ?_
  refine TriE.loopN h (fun (t : Nat × (List (Str × Int))) => match t with | (v9,v10) => St.mk [(0,eS 6 eTask a0),(7,.map 0),(23,eS 1 vt a1),(24,vi (a1.length : Int)),(25,vi v6),(35,eS 2 ePartCount ((ix a0 y8.toNat).Parts)),(36,vi ((((ix a0 y8.toNat).Parts).length : Nat) : Int)),(37,vi v9)] [some (.mp (mpE vt vi v10))]) rfl ?_
  clear h
  rintro back ⟨v9,v10⟩ h
  dsimp only [q146k] at h
  refine sj ?_
  refine jo 38 (.bin .lss false 37 36) (n_lss (i := v9) (j := ((ix a0 y8.toNat).Parts).length) rfl rfl) ?_
  refine jf (.d (.k4 (.k4 (.i 38 (vb (decide (v9 < (((ix a0 y8.toNat).Parts).length)))) .n)))) ?_
  refine q1 ?_
  refine tc h (fun c5 h => ?_) (fun c5 h => ?_)
  ·refine q2 ?_
   refine q7 ?_
   refine sj ?_
   obtain ⟨c6,h⟩ := ck h
   refine jo 39 (.iaddr 2 35 37) (ok_iaddr_m (j := v9) rfl rfl rfl c6) ?_
   refine jo 40 (.load true 2 39) (ok_load_fm (v := .agg [vt ((ix ((ix a0 y8.toNat).Parts) v9).Part),vi ((ix ((ix a0 y8.toNat).Parts) v9).Count)]) rfl c6 rfl) ?_
   refine jko 2 (.d2 (.k4 (.k4 (.i 11 (.ptr 1 0 0) .n)))) [some (.mp (mpE vt vi v10)),some (.row 2 [.agg [vt ((ix ((ix a0 y8.toNat).Parts) v9).Part),vi ((ix ((ix a0 y8.toNat).Parts) v9).Count)]])] ?_
   refine q6 ?_
   refine rk 3 (.k4 (.k4 (.k (.i 41 (.map 0) (.i 43 (vt ((ix ((ix a0 y8.toNat).Parts) v9).Part)) .n))))) ?_
   refine jo 44 (.lookup true (.p (.int .i64 0)) false 41 43) (ok_lookup_s (l := v10) (ev := vi) (z0 := (0 : Int)) rfl rfl rfl rfl) ?_
   refine rk 2 (.d (.k4 (.k4 (.d (.k2 (.i 44 (vi (Option.getD (List.lookup ((ix ((ix a0 y8.toNat).Parts) v9).Part) v10) (0 : Int))) (.i 46 (vi ((ix ((ix a0 y8.toNat).Parts) v9).Count)) .n))))))) ?_
   obtain ⟨c7,h⟩ := ck h
   refine jo 47 (.bin .add false 44 46) (r_add rfl rfl c7) ?_
   refine jn (.mapset true 41 43 47) _ (ok_mapset_s (l := v10) (ev := vi) (v := (Option.getD (List.lookup ((ix ((ix a0 y8.toNat).Parts) v9).Part) v10) (0 : Int)) + ((ix ((ix a0 y8.toNat).Parts) v9).Count)) rfl rfl rfl rfl) rfl rfl ?_
   refine jf (.d (.k4 (.k4 .n))) ?_
   refine q6 ?_
   obtain ⟨c8,h⟩ := ck h
   refine jo 48 (.bin .add false 37 (ki 1)) (r_addn (i := v9) (j := 1) rfl rfl c8) ?_
   refine jk 1 (.d (.k4 (.k3 (.i 37 (vi ((v9 + 1 : Nat) : Int)) .n)))) ?_
   exact Vs.intro (sc [0] (by decide) (by kernel_rfl) (obRen_mp vt_frz vi_frz rfl .nil) rfl rfl) ⟨(v9 + 1,(mPut ((ix ((ix a0 y8.toNat).Parts) v9).Part) ((Option.getD (List.lookup ((ix ((ix a0 y8.toNat).Parts) v9).Part) v10) (0 : Int)) + ((ix ((ix a0 y8.toNat).Parts) v9).Count)) v10)),rfl,h⟩
  refine q5 ?_
  exact Vs.intro sy ⟨v10,rfl,h⟩
 refine q5 ?_
 exact Vs.intro sy ⟨v7,rfl,h⟩
theorem q188k (n : Nat) (a0 : Str) (a1 : List Str) (a2 : List Str) (r : Bool) (h : q50k n a0 a1 a2 = some r) : FnL Tryz.prog 149 [vt a0,.ptr 0 0 0,.ptr 2 0 0] [some (.row 1 [.fn (.func 162) [] [.ptr 1 0 0]]),some (.row 1 [eS 1 vt a1]),some (.row 1 [.own 3 0 a2.length]),some (.row 1 (List.map vt a2))] (vb r) [some (.row 1 [.fn (.func 162) [] [.ptr 1 0 0]]),some (.row 1 [eS 1 vt a1]),some (.row 1 [.own 3 0 a2.length]),some (.row 1 (List.map vt a2))] := by
 dsimp only [q50k] at h
 refine fob [4] Tryz.call149 Tryz.func149 rfl (.cons rfl (.cons rfl (.cons rfl (.cons rfl .nil)))) ?_
 refine sk .a ?_
 refine sj ?_
 refine rk 2 (.k (.d (.k (.i 5 (.fn (.func 162) [] [.ptr 1 0 0]) (.i 6 (vt a0) .n))))) ?_
 obtain ⟨y1,hy1,h⟩ := bs h
 refine jy (vb y1) 7 5 [6] rfl (q260k n a0 a1 y1 hy1) [1] rfl (.cons rfl .nil) (.cons rfl .nil) rfl ?_
 refine rk 1 (.d (.k2 (.i 8 (vb y1) .n))) ?_
 refine gj (.own 3 0 a2.length) 9 (.load false 1 2) 8 true rfl ?_
 refine gj (vt a0) 10 (.mov 0) 8 true rfl ?_
 obtain ⟨y2,hy2,h⟩ := bs h
 refine RegJ.op (Op1.callg (g := y1) (y' := vb y2) (obx := [some (.row 1 (List.map vt a2))]) _ _ (cy (IG 11 (.call 150 [9,10]) 8 true)) rfl (fun hg => q179k n a2 a0 y2 (gcall_some hy2 hg)) [3] (fun hg => by kernel_rfl) (fun hg => (.cons rfl (.cons hg (.cons hg .nil)))) (by kernel_rfl) (by kernel_rfl) (.same (row_ren vt_frz _ _ _) .nil) (by kernel_rfl) (by kernel_rfl)) ?_
 refine gk (vb (!y2)) 12 (.un .not 11) 8 true rfl (fun hg => (.cons hg .nil)) ?_
 refine pa 13 8 12 rfl rfl ?_
 refine jk 1 (.i 4 (vb (y1 && (!y2))) .n) ?_
 refine q3 ?_
 have h := si h
 subst h
 exact DoneS.ret Sees.refl rfl rfl
theorem q212k (n : Nat) (a0 : List Str) (a1 : List Str) (a2 : List Str) (r : Int) (h : q93k n a0 a1 a2 = some r) : FnL Tryz.prog 163 [eS 1 vt a0,.fn (.func 149) [] [.ptr 0 0 0,.ptr 2 0 0]] [some (.row 1 [.fn (.func 162) [] [.ptr 1 0 0]]),some (.row 1 [eS 1 vt a1]),some (.row 1 [.own 3 0 a2.length]),some (.row 1 (List.map vt a2))] (vi r) [some (.row 1 [.fn (.func 162) [] [.ptr 1 0 0]]),some (.row 1 [eS 1 vt a1]),some (.row 1 [.own 3 0 a2.length]),some (.row 1 (List.map vt a2))] := by
 dsimp only [q93k] at h
 refine fob [4] Tryz.call163 Tryz.func163 rfl (.cons rfl (.cons rfl (.cons rfl (.cons rfl .nil)))) ?_
 refine sk .a ?_
 refine TriE.seqK h (fun (_ : Unit) => St.mk [] [some (.row 1 [.fn (.func 162) [] [.ptr 1 0 0]]),some (.row 1 [eS 1 vt a1]),some (.row 1 [.own 3 0 a2.length]),some (.row 1 (List.map vt a2))]) ?_ ?_
 ·rintro ⟨⟩ h
  refine sk (.i 4 (vi (-1)) .n) ?_
  refine q3 ?_
  have h := si h
  subst h
  exact DoneS.ret Sees.refl rfl rfl
 intro k1 h
 refine sj ?_
 refine rk 1 (.k2 (.i 6 (eS 1 vt a0) .n)) ?_
 refine jo 7 (.len 0 6) (ok_len_m rfl) ?_
 refine jk 1 (.d (.k2 (.i 7 (vi (a0.length : Int)) (.i 8 (vi 0) .n)))) ?_
 refine q4 ?_
 refine ts (.k3 (.i 8 (vi 0) .n)) ?_
 refine TriE.loopN h (fun (v2 : Nat) => St.mk [(0,eS 1 vt a0),(1,.fn (.func 149) [] [.ptr 0 0 0,.ptr 2 0 0]),(7,vi (a0.length : Int)),(8,vi v2)] [some (.row 1 [.fn (.func 162) [] [.ptr 1 0 0]]),some (.row 1 [eS 1 vt a1]),some (.row 1 [.own 3 0 a2.length]),some (.row 1 (List.map vt a2))]) rfl ?_
 clear h
 rintro back v2 h
 dsimp only [q59k] at h
 refine sj ?_
 refine jo 9 (.bin .lss false 8 7) (n_lss (i := v2) (j := a0.length) rfl rfl) ?_
 refine jf (.d (.k4 (.i 9 (vb (decide (v2 < a0.length))) .n))) ?_
 refine q1 ?_
 refine tc h (fun c1 h => ?_) (fun c1 h => ?_)
 ·refine q2 ?_
  refine q7 ?_
  refine sk (.k4 (.i 5 (vi v2) .n)) ?_
  refine sj ?_
  refine rk 3 (.k4 (.k (.i 11 (.fn (.func 149) [] [.ptr 0 0 0,.ptr 2 0 0]) (.i 12 (eS 1 vt a0) (.i 13 (vi v2) .n))))) ?_
  refine jo 14 (.iaddr 1 12 13) (ok_iaddr_m (j := v2) rfl rfl rfl c1) ?_
  refine jo 15 (.load false 1 14) (ok_load_fm (v := vt (ix a0 v2)) rfl c1 rfl) ?_
  obtain ⟨y3,hy3,h⟩ := bs h
  refine jy (vb y3) 16 11 [15] rfl (q188k n (ix a0 v2) a1 a2 y3 hy3) [0,1,2,3] rfl (.cons rfl (.cons rfl (.cons rfl (.same (row_ren vt_frz _ _ _) .nil)))) (.cons rfl (.cons rfl (.cons rfl (.same (row_ren vt_frz _ _ _) .nil)))) rfl ?_
  refine jf (.d3 (.k4 (.k (.i 16 (vb y3) .n)))) ?_
  refine tc h (fun c2 h => ?_) (fun c2 h => ?_)
  ·refine sk (.i 4 (vi v2) .n) ?_
   refine q3 ?_
   have h := si h
   subst h
   exact DoneS.ret Sees.refl rfl rfl
  refine q2 ?_
  refine q6 ?_
  obtain ⟨c3,h⟩ := ck h
  refine jo 18 (.bin .add false 8 (ki 1)) (r_addn (i := v2) (j := 1) rfl rfl c3) ?_
  refine jk 1 (.d (.k3 (.i 8 (vi ((v2 + 1 : Nat) : Int)) .n))) ?_
  exact Vs.intro sy ⟨(v2 + 1),rfl,h⟩
 refine q5 ?_
 exact Vs.intro sy ⟨(),rfl,h⟩
theorem q201k (n : Nat) (a0 : List Str) (a1 : List Str) (a2 : List Str) (r : Bool) (h : q46k n a0 a1 a2 = some r) : FnL Tryz.prog 108 [eS 1 vt a0,.fn (.func 149) [] [.ptr 0 0 0,.ptr 2 0 0]] [some (.row 1 [.fn (.func 162) [] [.ptr 1 0 0]]),some (.row 1 [eS 1 vt a1]),some (.row 1 [.own 3 0 a2.length]),some (.row 1 (List.map vt a2))] (vb r) [some (.row 1 [.fn (.func 162) [] [.ptr 1 0 0]]),some (.row 1 [eS 1 vt a1]),some (.row 1 [.own 3 0 a2.length]),some (.row 1 (List.map vt a2))] := by
 dsimp only [q46k] at h
 refine fob [4] Tryz.call108 Tryz.func108 rfl (.cons rfl (.cons rfl (.cons rfl (.cons rfl .nil)))) ?_
 refine sk .a ?_
 refine sj ?_
 refine rk 2 (.i 5 (eS 1 vt a0) (.i 6 (.fn (.func 149) [] [.ptr 0 0 0,.ptr 2 0 0]) .n)) ?_
 obtain ⟨y1,hy1,h⟩ := bs h
 refine jco (vi y1) 7 [5,6] (q212k n a0 a1 a2 y1 hy1) [0,1,2,3] rfl (.cons rfl (.cons rfl (.cons rfl (.same (row_ren vt_frz _ _ _) .nil)))) (.cons rfl (.cons rfl (.cons rfl (.same (row_ren vt_frz _ _ _) .nil)))) rfl ?_
 refine jk 2 (.i 4 (vb (decide ((0 : Int) ≤ y1))) .n) ?_
 refine q3 ?_
 have h := si h
 subst h
 exact DoneS.ret Sees.refl rfl rfl
theorem q221k (n : Nat) (a0 : Task) (a1 : List Str) (a2 : List Str) (r : Bool) (h : q73k n a0 a1 a2 = some r) : FnL Tryz.prog 152 [.agg [vt a0.Name,vi a0.Cents,vi a0.Hours,eS 1 vt a0.Needs,eS 1 (eS 1 vt) a0.OneOf,eS 2 ePartCount a0.Parts],.ptr 0 0 0] [some (.row 1 [.fn (.func 149) [] [.ptr 1 0 0,.ptr 3 0 0]]),some (.row 1 [.fn (.func 162) [] [.ptr 2 0 0]]),some (.row 1 [eS 1 vt a1]),some (.row 1 [.own 4 0 a2.length]),some (.row 1 (List.map vt a2))] (vb r) [some (.row 1 [.fn (.func 149) [] [.ptr 1 0 0,.ptr 3 0 0]]),some (.row 1 [.fn (.func 162) [] [.ptr 2 0 0]]),some (.row 1 [eS 1 vt a1]),some (.row 1 [.own 4 0 a2.length]),some (.row 1 (List.map vt a2))] := by
 dsimp only [q73k] at h
 refine fob [3] Tryz.call152 Tryz.func152 rfl (.cons rfl (.cons rfl (.cons rfl (.cons rfl (.cons rfl .nil))))) ?_
 refine sko (.d (.k (.i 2 (.ptr 5 0 0) .n))) [some (.row 1 [.fn (.func 149) [] [.ptr 1 0 0,.ptr 3 0 0]]),some (.row 1 [.fn (.func 162) [] [.ptr 2 0 0]]),some (.row 1 [eS 1 vt a1]),some (.row 1 [.own 4 0 a2.length]),some (.row 1 (List.map vt a2)),some (.row 6 [.agg [vt a0.Name,vi a0.Cents,vi a0.Hours,eS 1 vt a0.Needs,eS 1 (eS 1 vt) a0.OneOf,eS 2 ePartCount a0.Parts]])] ?_
 refine q1 ?_
 refine ts .a ?_
 refine TriE.draw (by kernel_rfl) ?_
 refine dk 3 (.i 6 (vt a0.Name) (.i 5 (.ptr 5 0 0) (.i 4 (.fn (.func 149) [] [.ptr 1 0 0,.ptr 3 0 0]) .a))) ?_
 obtain ⟨y1,hy1,h⟩ := bs h
 refine RegD.op (OpD.dyn (y' := vb y1) (obx := [some (.row 1 [.fn (.func 162) [] [.ptr 2 0 0]]),some (.row 1 [eS 1 vt a1]),some (.row 1 [.own 4 0 a2.length]),some (.row 1 (List.map vt a2))]) (oby := [some (.row 1 [.fn (.func 162) [] [.ptr 2 0 0]]),some (.row 1 [eS 1 vt a1]),some (.row 1 [.own 4 0 a2.length]),some (.row 1 (List.map vt a2))]) (ob2 := [some (.row 1 [.fn (.func 149) [] [.ptr 1 0 0,.ptr 3 0 0]]),some (.row 1 [.fn (.func 162) [] [.ptr 2 0 0]]),some (.row 1 [eS 1 vt a1]),some (.row 1 [.own 4 0 a2.length]),some (.row 1 (List.map vt a2)),some (.row 6 [.agg [vt a0.Name,vi a0.Cents,vi a0.Hours,eS 1 vt a0.Needs,eS 1 (eS 1 vt) a0.OneOf,eS 2 ePartCount a0.Parts]]),none,none,none,none]) (tch := []) 0 _ _ _ (cy (I0 7 (.dyn 4 [6]))) rfl (q188k n a0.Name a1 a2 y1 hy1) [1,2,3,4] (by kernel_rfl) (.cons rfl (.cons rfl .nil)) (by kernel_rfl) (by kernel_rfl) (.cons rfl (.cons rfl (.cons rfl (.same (row_ren vt_frz _ _ _) .nil)))) (by kernel_rfl) (.cons rfl (.cons rfl (.cons rfl (.same (row_ren vt_frz _ _ _) .nil)))) (by kernel_rfl) rfl (.inr ⟨rfl,rfl⟩)) ?_
 refine dk 1 (.i 8 (vb y1) .a) ?_
 refine gd y1 (.agg [vt a0.Name,vi a0.Cents,vi a0.Hours,eS 1 vt a0.Needs,eS 1 (eS 1 vt) a0.OneOf,eS 2 ePartCount a0.Parts]) 9 (.load true 6 2) 8 true rfl (fun hg => (.cons rfl .nil)) ?_
 obtain ⟨y2,hy2,h⟩ := bs h
 refine du y1 10 [9] 8 true rfl (fun hg => q209k n a0 y2 (gcall_some hy2 hg)) (fun hg => (.cons rfl (.cons hg .nil))) (fun hg => by kernel_rfl) ?_
 refine gd y1 (.fn (.func 149) [] [.ptr 1 0 0,.ptr 3 0 0]) 11 (.load false 1 1) 8 true rfl (fun hg => (.cons rfl .nil)) ?_
 obtain ⟨y3,hy3,h⟩ := bs h
 refine RegD.op (OpD.callg (g := y1) (y' := vb y3) (obx := [some (.row 1 [.fn (.func 162) [] [.ptr 2 0 0]]),some (.row 1 [eS 1 vt a1]),some (.row 1 [.own 4 0 a2.length]),some (.row 1 (List.map vt a2))]) _ _ (cy (IG 12 (.call 108 [10,11]) 8 true)) rfl (fun hg => q201k n y2 a1 a2 y3 (gcall_some hy3 hg)) [1,2,3,4] (fun hg => by kernel_rfl) (fun hg => (.cons rfl (.cons hg (.cons hg .nil)))) (by kernel_rfl) (by kernel_rfl) (.cons rfl (.cons rfl (.cons rfl (.same (row_ren vt_frz _ _ _) .nil)))) (by kernel_rfl) (by kernel_rfl) rfl) ?_
 refine gd y1 (vb (!y3)) 13 (.un .not 12) 8 true rfl (fun hg => (.cons hg .nil)) ?_
 refine RegD.op (OpD.and (cy (I0 14 (.pick 8 13 (.c (.p (.bool false)))))) rfl rfl (by first | exact hokA1 | exact hokA0 | simp)) ?_
 refine dk 1 (.i 3 (vb (y1 && (!y3))) (.i 14 (vb (y1 && (!y3))) (.d .a))) ?_
 refine dfi (ob' := [some (.row 1 [.fn (.func 149) [] [.ptr 1 0 0,.ptr 3 0 0]]),some (.row 1 [.fn (.func 162) [] [.ptr 2 0 0]]),some (.row 1 [eS 1 vt a1]),some (.row 1 [.own 4 0 a2.length]),some (.row 1 (List.map vt a2))]) (.k .n) [0,1,2,3,4] (.cons rfl (.cons rfl (.cons rfl (.cons rfl (obRen_row vt_frz rfl .nil))))) ?_
 refine q3 ?_
 have h := si h
 subst h
 exact DoneS.ret Sees.refl rfl rfl
theorem q223k (n : Nat) (a0 : List Task) (a1 : List Str) (a2 : List Str) (r : Int) (h : q75k n a0 a1 a2 = some r) : FnL Tryz.prog 151 [eS 6 eTask a0,.fn (.func 152) [] [.ptr 0 0 0]] [some (.row 1 [.fn (.func 149) [] [.ptr 1 0 0,.ptr 3 0 0]]),some (.row 1 [.fn (.func 162) [] [.ptr 2 0 0]]),some (.row 1 [eS 1 vt a1]),some (.row 1 [.own 4 0 a2.length]),some (.row 1 (List.map vt a2))] (vi r) [some (.row 1 [.fn (.func 149) [] [.ptr 1 0 0,.ptr 3 0 0]]),some (.row 1 [.fn (.func 162) [] [.ptr 2 0 0]]),some (.row 1 [eS 1 vt a1]),some (.row 1 [.own 4 0 a2.length]),some (.row 1 (List.map vt a2))] := by
 dsimp only [q75k] at h
 refine fob [4] Tryz.call151 Tryz.func151 rfl (.cons rfl (.cons rfl (.cons rfl (.cons rfl (.cons rfl .nil))))) ?_
 refine sk .a ?_
 refine TriE.seqK h (fun (_ : Unit) => St.mk [] [some (.row 1 [.fn (.func 149) [] [.ptr 1 0 0,.ptr 3 0 0]]),some (.row 1 [.fn (.func 162) [] [.ptr 2 0 0]]),some (.row 1 [eS 1 vt a1]),some (.row 1 [.own 4 0 a2.length]),some (.row 1 (List.map vt a2))]) ?_ ?_
 ·rintro ⟨⟩ h
  refine sk (.i 4 (vi (-1)) .n) ?_
  refine q3 ?_
  have h := si h
  subst h
  exact DoneS.ret Sees.refl rfl rfl
 intro k1 h
 refine sj ?_
 refine rk 1 (.k2 (.i 6 (eS 6 eTask a0) .n)) ?_
 refine jo 7 (.len 0 6) (ok_len_m rfl) ?_
 refine jk 1 (.d (.k2 (.i 7 (vi (a0.length : Int)) (.i 8 (vi 0) .n)))) ?_
 refine q4 ?_
 refine ts (.k3 (.i 8 (vi 0) .n)) ?_
 refine TriE.loopN h (fun (v2 : Nat) => St.mk [(0,eS 6 eTask a0),(1,.fn (.func 152) [] [.ptr 0 0 0]),(7,vi (a0.length : Int)),(8,vi v2)] [some (.row 1 [.fn (.func 149) [] [.ptr 1 0 0,.ptr 3 0 0]]),some (.row 1 [.fn (.func 162) [] [.ptr 2 0 0]]),some (.row 1 [eS 1 vt a1]),some (.row 1 [.own 4 0 a2.length]),some (.row 1 (List.map vt a2))]) rfl ?_
 clear h
 rintro back v2 h
 dsimp only [q84k] at h
 refine sj ?_
 refine jo 9 (.bin .lss false 8 7) (n_lss (i := v2) (j := a0.length) rfl rfl) ?_
 refine jf (.d (.k4 (.i 9 (vb (decide (v2 < a0.length))) .n))) ?_
 refine q1 ?_
 refine tc h (fun c1 h => ?_) (fun c1 h => ?_)
 ·refine q2 ?_
  refine q7 ?_
  refine sk (.k4 (.i 5 (vi v2) .n)) ?_
  refine sj ?_
  refine rk 3 (.k4 (.k (.i 11 (.fn (.func 152) [] [.ptr 0 0 0]) (.i 12 (eS 6 eTask a0) (.i 13 (vi v2) .n))))) ?_
  refine jo 14 (.iaddr 6 12 13) (ok_iaddr_m (j := v2) rfl rfl rfl c1) ?_
  refine jo 15 (.load true 6 14) (ok_load_fm (v := .agg [vt ((ix a0 v2).Name),vi ((ix a0 v2).Cents),vi ((ix a0 v2).Hours),eS 1 vt ((ix a0 v2).Needs),eS 1 (eS 1 vt) ((ix a0 v2).OneOf),eS 2 ePartCount ((ix a0 v2).Parts)]) rfl c1 rfl) ?_
  obtain ⟨y3,hy3,h⟩ := bs h
  refine jy (vb y3) 16 11 [15] rfl (q221k n (ix a0 v2) a1 a2 y3 hy3) [0,1,2,3,4] rfl (.cons rfl (.cons rfl (.cons rfl (.cons rfl (.same (row_ren vt_frz _ _ _) .nil))))) (.cons rfl (.cons rfl (.cons rfl (.cons rfl (.same (row_ren vt_frz _ _ _) .nil))))) rfl ?_
  refine jf (.d3 (.k4 (.k (.i 16 (vb y3) .n)))) ?_
  refine tc h (fun c2 h => ?_) (fun c2 h => ?_)
  ·refine sk (.i 4 (vi v2) .n) ?_
   refine q3 ?_
   have h := si h
   subst h
   exact DoneS.ret Sees.refl rfl rfl
  refine q2 ?_
  refine q6 ?_
  obtain ⟨c3,h⟩ := ck h
  refine jo 18 (.bin .add false 8 (ki 1)) (r_addn (i := v2) (j := 1) rfl rfl c3) ?_
  refine jk 1 (.d (.k3 (.i 8 (vi ((v2 + 1 : Nat) : Int)) .n))) ?_
  exact Vs.intro sy ⟨(v2 + 1),rfl,h⟩
 refine q5 ?_
 exact Vs.intro sy ⟨(),rfl,h⟩
theorem q238k (n : Nat) (a0 : List Task) (a1 : List Str) (r : (List Str)) (h : q112k n a0 a1 = some r) : FnL Tryz.prog 83 [eS 6 eTask a0,.fn (.func 162) [] [.ptr 0 0 0]] [some (.row 1 [eS 1 vt a1])] (eS 1 vt r) [some (.row 1 [eS 1 vt a1])] := by
 dsimp only [q112k] at h
 refine fob [4] Tryz.call83 Tryz.func83 rfl (.cons rfl .nil) ?_
 refine sko (.k (.i 3 (.ptr 1 0 0) .n)) [some (.row 1 [eS 1 vt a1]),some (.row 1 [.fn (.func 162) [] [.ptr 0 0 0]])] ?_
 refine sko (.k2 (.i 5 (.ptr 2 0 0) .n)) [some (.row 1 [eS 1 vt a1]),some (.row 1 [.fn (.func 162) [] [.ptr 0 0 0]]),some (.row 1 [.emp])] ?_
 refine sko (.k (.d (.k (.i 6 (.ptr 3 0 0) .n)))) [some (.row 1 [eS 1 vt a1]),some (.row 1 [.fn (.func 162) [] [.ptr 0 0 0]]),some (.row 1 [.emp]),some (.row 1 [.fn (.func 149) [] [.ptr 1 0 0,.ptr 2 0 0]])] ?_
 refine q4 ?_
 refine TriE.sees (S' := ⟨[(0,eS 6 eTask a0),(5,.ptr 2 0 0),(6,.ptr 3 0 0)],[some (.row 1 [eS 1 vt a1]),some (.row 1 [.fn (.func 162) [] [.ptr 0 0 0]]),some (.row 1 [.own 4 0 ([] : List Str).length]),some (.row 1 [.fn (.func 149) [] [.ptr 1 0 0,.ptr 2 0 0]]),some (.row 1 (List.map vt ([] : List Str)))]⟩) (Sees.trans (Sees.co (fr' := [(0,eS 6 eTask a0),(5,.ptr 2 0 0),(6,.ptr 3 0 0)]) (ob' := [some (.row 1 [eS 1 vt a1]),some (.row 1 [.fn (.func 162) [] [.ptr 0 0 0]]),some (.row 1 [.own 4 0 0]),some (.row 1 [.fn (.func 149) [] [.ptr 1 0 0,.ptr 2 0 0]])]) (.cons .same (.cons .same (.cons .same .nil))) (.same (.same (.cell (.cons .own .nil) rfl (.same .nil)))) 1) sy) ?_
 refine TriE.loopN h (fun (v2 : (List Str)) => St.mk [(0,eS 6 eTask a0),(5,.ptr 2 0 0),(6,.ptr 3 0 0)] [some (.row 1 [eS 1 vt a1]),some (.row 1 [.fn (.func 162) [] [.ptr 0 0 0]]),some (.row 1 [.own 4 0 v2.length]),some (.row 1 [.fn (.func 149) [] [.ptr 1 0 0,.ptr 2 0 0]]),some (.row 1 (List.map vt v2))]) rfl ?_
 clear h
 rintro back v2 h
 dsimp only [q162k] at h
 refine q4 ?_
 refine sj ?_
 refine rk 2 (.k3 (.i 9 (eS 6 eTask a0) (.i 10 (.fn (.func 152) [] [.ptr 3 0 0]) .n))) ?_
 obtain ⟨y3,hy3,h⟩ := bs h
 refine jco (vi y3) 11 [9,10] (q223k n a0 a1 v2 y3 hy3) [3,1,0,2,4] rfl (.cons rfl (.cons rfl (.cons rfl (.cons rfl (.same (row_ren vt_frz _ _ _) .nil))))) (.cons rfl (.cons rfl (.cons rfl (.cons rfl (.same (row_ren vt_frz _ _ _) .nil))))) rfl ?_
 refine jk 1 (.d (.k3 (.i 7 (vi y3) .n))) ?_
 refine q1 ?_
 refine sk (.k4 (.i 13 (vb (decide (y3 < (0 : Int)))) .n)) ?_
 refine tc h (fun c1 h => ?_) (fun c1 h => ?_)
 ·refine sk (.i 4 (.own 4 0 v2.length) .n) ?_
  refine q3 ?_
  have h := si h
  subst h
  exact DoneS.ret (S' := ⟨[(4,eS 1 vt v2)],[some (.row 1 [eS 1 vt a1])]⟩) (Sees.trans (Sees.freeze 4 (fr' := [(4,eS 1 vt v2)]) (ob' := [some (.row 1 [eS 1 vt a1]),some (.row 1 [.fn (.func 162) [] [.ptr 0 0 0]]),some (.row 1 [.own 4 0 v2.length]),some (.row 1 [.fn (.func 149) [] [.ptr 1 0 0,.ptr 2 0 0]]),none]) rfl (frz_row vt_frzE _) (.cons (frz_full rfl) .nil) rfl) (sc [0] (by decide) (by kernel_rfl) (.cons rfl .nil) rfl rfl)) rfl rfl
 refine q2 ?_
 refine ts (.k4 .n) ?_
 refine TriE.draw (by kernel_rfl) ?_
 refine dk 3 (.i 17 (vi y3) (.i 16 (eS 6 eTask a0) (.i 15 (.own 4 0 v2.length) .a))) ?_
 obtain ⟨c2,h⟩ := ck h
 refine dp 18 (.iaddr 6 16 17) (ok_iaddr_m (j := y3.toNat) rfl rfl (inB_to c2) (inB_lt c2)) ?_
 refine dk 1 (.i 19 (.fptr 6 (List.map eTask a0) y3.toNat 0) .a) ?_
 obtain ⟨c3,h⟩ := ck h
 refine dp 20 (.load false 1 19) (ok_load_fm (v := vt ((ix a0 y3.toNat).Name)) rfl c3 rfl) ?_
 refine dko 1 (.i 21 (.own 11 0 1) .a) [some (.row 1 [eS 1 vt a1]),some (.row 1 [.fn (.func 162) [] [.ptr 0 0 0]]),some (.row 1 [.own 4 0 v2.length]),some (.row 1 [.fn (.func 149) [] [.ptr 1 0 0,.ptr 2 0 0]]),some (.row 1 (List.map vt v2)),none,none,none,none,none,none,some (.row 1 [vt ((ix a0 y3.toNat).Name)])] ?_
 obtain ⟨c4,h⟩ := ck h
 refine dx 22 (.app 1 16 15 21) _ (ok_app_own (l := v2) (l2 := ([(ix a0 y3.toNat).Name] : List Str)) (e := vt) (u := .own 11 0 1) rfl rfl rfl rfl rfl c4) rfl rfl ?_
 refine dko 1 .a [some (.row 1 [eS 1 vt a1]),some (.row 1 [.fn (.func 162) [] [.ptr 0 0 0]]),some (.row 1 [.own 12 0 ((v2 ++ ([(ix a0 y3.toNat).Name] : List Str)).length)]),some (.row 1 [.fn (.func 149) [] [.ptr 1 0 0,.ptr 2 0 0]]),none,none,none,none,none,none,none,some (.row 1 [vt ((ix a0 y3.toNat).Name)]),some (.row 1 (List.map vt (v2 ++ ([(ix a0 y3.toNat).Name] : List Str)))),none] ?_
 refine dfi (ob' := [some (.row 1 [eS 1 vt a1]),some (.row 1 [.fn (.func 162) [] [.ptr 0 0 0]]),some (.row 1 [.own 4 0 ((v2 ++ ([(ix a0 y3.toNat).Name] : List Str)).length)]),some (.row 1 [.fn (.func 149) [] [.ptr 1 0 0,.ptr 2 0 0]]),some (.row 1 (List.map vt (v2 ++ ([(ix a0 y3.toNat).Name] : List Str))))]) (.d4 (.d4 (.k3 .n))) [0,1,2,3,12] (.cons rfl (.cons rfl (.cons rfl (.cons rfl (obRen_row vt_frz rfl .nil))))) ?_
 exact Vs.intro Sees.refl ⟨(v2 ++ ([(ix a0 y3.toNat).Name] : List Str)),rfl,h⟩
theorem q225k (n : Nat) (a0 : List Task) (a1 : List Str) (r : Int × (List Str)) (h : q81k n a0 a1 = some r) : FnL Tryz.prog 68 [eS 6 eTask a0,eS 1 vt a1] [] (.tup [eS 1 vt r.2,vi r.1]) [] := by
 dsimp only [q81k] at h
 refine fo [4,5] Tryz.call68 Tryz.func68 rfl ?_
 refine sk .a ?_
 refine q1 ?_
 refine sj ?_
 refine rko 3 (.k2 (.i 7 (eS 6 eTask a0) (.i 9 (.own 0 0 1) .n))) [some (.row 1 [eS 1 vt a1])] ?_
 refine RegJ.sees (Sees.freeze 0 (fr' := [(0,eS 6 eTask a0),(1,eS 1 vt a1),(7,eS 6 eTask a0),(9,eS 1 (eS 1 vt) ([a1] : List (List Str)))]) (ob' := [none]) rfl (frzs_cons rfl frzs_nil) (.cons (.refl _) (.cons (.refl _) (.cons (.refl _) (.cons (.own rfl (Nat.le_of_ble_eq_true rfl)) .nil)))) rfl) ?_
 obtain ⟨y1,hy1,h⟩ := bs h
 refine jc 10 [7,9] (q208k n a0 ([a1] : List (List Str)) y1 hy1) ?_
 refine jk 1 (.d (.k2 (.i 6 (vi y1) .n))) ?_
 refine sk (.k3 (.i 12 (vb (y1 != (0 : Int))) .n)) ?_
 refine tc h (fun c1 h => ?_) (fun c1 h => ?_)
 ·refine sk (.i 4 .emp (.i 5 (vi y1) .n)) ?_
  refine q3 ?_
  have h := si h
  subst h
  exact DoneS.ret (S' := ⟨[(4,eS 1 vt ([] : List Str)),(5,vi y1)],[]⟩) (Sees.trans (Sees.vco (fr' := [(4,eS 1 vt ([] : List Str)),(5,vi y1)]) (.cons .sl (.cons .same .nil))) (sc [] (by decide) (by kernel_rfl) ObRen.nil rfl rfl)) rfl rfl
 refine q2 ?_
 refine sj ?_
 refine rk 2 (.i 14 (eS 6 eTask a0) (.i 15 (eS 1 vt a1) .n)) ?_
 obtain ⟨y2,hy2,h⟩ := bs h
 refine jco (.fn (.func 162) [] [.ptr 1 0 0]) 16 [15] (q261k n a1 y2 hy2) [] rfl ObsRen.nil (.cons rfl .nil) rfl ?_
 obtain ⟨y3,hy3,h⟩ := bs h
 refine jco (eS 1 vt y3) 17 [14,16] (q238k n a0 a1 y3 hy3) [1] rfl (.cons rfl .nil) (.cons rfl .nil) rfl ?_
 refine jk 2 (.i 4 (eS 1 vt y3) (.i 5 (vi 0) .n)) ?_
 refine q3 ?_
 have h := si h
 subst h
 exact DoneS.ret (S' := ⟨[(4,eS 1 vt y3),(5,vi 0)],[]⟩) (sc [] (by decide) (by kernel_rfl) ObRen.nil rfl rfl) rfl rfl
set_option maxHeartbeats 1000000 in
theorem q259k (n : Nat) (a0 : List Task) (a1 : List Str) (r : Int × Int × Int) (h : q172k n a0 a1 = some r) : FnL Tryz.prog 69 [eS 6 eTask a0,eS 1 vt a1] [] (.tup [vi r.1,vi r.2.1,vi r.2.2]) [] := by
 dsimp only [q172k] at h
 refine fo [4,5,6] Tryz.call69 Tryz.func69 rfl ?_
 refine sk .a ?_
 refine sj ?_
 refine rk 2 (.k (.i 19 (eS 6 eTask a0) (.i 20 (eS 1 vt a1) .n))) ?_
 obtain ⟨y1,hy1,h⟩ := bs h
 refine jc 21 [19,20] (q225k n a0 a1 y1 hy1) ?_
 refine jk 5 (.d (.k (.i 7 (eS 1 vt y1.2) (.i 8 (vi y1.1) .n)))) ?_
 refine sk (.k3 (.i 9 (vi 0) (.i 10 (vi 0) .n))) ?_
 refine sj ?_
 refine jx 24 .mkmap _ rfl rfl rfl ?_
 refine jk 1 (.d (.k4 (.k (.i 11 (.map 0) .n)))) ?_
 refine TriE.seqK h (fun (t : Int × Int) => match t with | (v16,v17) => St.mk [(8,vi y1.1),(9,vi v16),(10,vi v17)] []) ?_ ?_
 ·rintro ⟨v16,v17⟩ h
  refine sk (.i 4 (vi v16) (.i 5 (vi v17) (.i 6 (vi y1.1) .n))) ?_
  refine q3 ?_
  have h := si h
  subst h
  exact DoneS.ret Sees.refl rfl rfl
 intro k2 h
 refine sj ?_
 refine rk 1 (.k (.d (.k4 (.i 25 (eS 1 vt y1.2) .n)))) ?_
 refine jo 26 (.len 0 25) (ok_len_m rfl) ?_
 refine jk 1 (.d (.k4 (.k2 (.i 26 (vi ((y1.2.length : Nat) : Int)) (.i 27 (vi 0) .n))))) ?_
 refine q4 ?_
 refine ts (.k4 (.k3 (.i 27 (vi 0) .n))) ?_
 refine TriE.loopN h (fun (t : Int × Int × Nat × (List (Str × Int))) => match t with | (v7,v8,v9,v10) => St.mk [(0,eS 6 eTask a0),(8,vi y1.1),(9,vi v7),(10,vi v8),(11,.map 0),(25,eS 1 vt y1.2),(26,vi ((y1.2.length : Nat) : Int)),(27,vi v9)] [some (.mp (mpE vt vi v10))]) rfl ?_
 clear h
 rintro back ⟨v7,v8,v9,v10⟩ h
 dsimp only [q110k] at h
 refine sj ?_
 refine jo 28 (.bin .lss false 27 26) (n_lss (i := v9) (j := y1.2.length) rfl rfl) ?_
 refine jf (.d (.k4 (.k4 (.i 28 (vb (decide (v9 < y1.2.length))) .n)))) ?_
 refine q1 ?_
 refine tc h (fun c1 h => ?_) (fun c1 h => ?_)
 ·refine q2 ?_
  refine q7 ?_
  refine sj ?_
  refine jo 29 (.iaddr 1 25 27) (ok_iaddr_m (j := v9) rfl rfl rfl c1) ?_
  refine jo 30 (.load false 1 29) (ok_load_fm (v := vt (ix y1.2 v9)) rfl c1 rfl) ?_
  refine jk 1 (.d2 (.k4 (.k4 (.i 13 (vt (ix y1.2 v9)) .n)))) ?_
  refine sj ?_
  refine rk 3 (.k4 (.k4 (.k (.i 31 (eS 6 eTask a0) (.i 32 (eS 6 eTask a0) (.i 33 (vt (ix y1.2 v9)) .n)))))) ?_
  obtain ⟨y11,hy11,h⟩ := bs h
  refine jc 34 [32,33] (q111k n a0 (ix y1.2 v9) y11 hy11) ?_
  obtain ⟨c2,h⟩ := ck h
  refine jo 35 (.iaddr 6 31 34) (ok_iaddr_m (j := y11.toNat) rfl rfl (inB_to c2) (inB_lt c2)) ?_
  obtain ⟨c3,h⟩ := ck h
  refine jo 36 (.load true 6 35) (ok_load_fm (v := .agg [vt ((ix a0 y11.toNat).Name),vi ((ix a0 y11.toNat).Cents),vi ((ix a0 y11.toNat).Hours),eS 1 vt ((ix a0 y11.toNat).Needs),eS 1 (eS 1 vt) ((ix a0 y11.toNat).OneOf),eS 2 ePartCount ((ix a0 y11.toNat).Parts)]) rfl c3 rfl) ?_
  refine jko 2 (.d3 (.k4 (.k4 (.k (.i 14 (.ptr 1 0 0) .n))))) [some (.mp (mpE vt vi v10)),some (.row 6 [.agg [vt ((ix a0 y11.toNat).Name),vi ((ix a0 y11.toNat).Cents),vi ((ix a0 y11.toNat).Hours),eS 1 vt ((ix a0 y11.toNat).Needs),eS 1 (eS 1 vt) ((ix a0 y11.toNat).OneOf),eS 2 ePartCount ((ix a0 y11.toNat).Parts)]])] ?_
  refine sk (.k4 (.k4 (.k2 (.i 15 (vi 0) .n)))) ?_
  refine TriE.seqK h (fun (v15 : Int) => St.mk [(0,eS 6 eTask a0),(8,vi y1.1),(9,vi v7),(10,vi v8),(11,.map 0),(25,eS 1 vt y1.2),(26,vi ((y1.2.length : Nat) : Int)),(27,vi v9),(13,vt (ix y1.2 v9)),(14,.ptr 1 0 0),(15,vi v15)] [some (.mp (mpE vt vi v10)),some (.row 6 [.agg [vt ((ix a0 y11.toNat).Name),vi ((ix a0 y11.toNat).Cents),vi ((ix a0 y11.toNat).Hours),eS 1 vt ((ix a0 y11.toNat).Needs),eS 1 (eS 1 vt) ((ix a0 y11.toNat).OneOf),eS 2 ePartCount ((ix a0 y11.toNat).Parts)]])]) ?_ ?_
  ·rintro v15 h
   refine sj ?_
   refine rk 5 (.k4 (.k4 (.k2 (.i 50 (.map 0) (.i 51 (vt (ix y1.2 v9)) (.i 52 (vi v15) (.i 54 (vi ((ix a0 y11.toNat).Hours)) .n))))))) ?_
   obtain ⟨c6,h⟩ := ck h
   refine jo 55 (.bin .add false 52 54) (r_add rfl rfl c6) ?_
   refine jn (.mapset true 50 51 55) _ (ok_mapset_s (l := v10) (ev := vi) (v := v15 + ((ix a0 y11.toNat).Hours)) rfl rfl rfl rfl) rfl rfl ?_
   refine jf (.d (.k4 (.k4 (.k2 .n)))) ?_
   refine ts .a ?_
   refine TriE.draw (by kernel_rfl) ?_
   refine dk 3 (.i 58 (vi ((ix a0 y11.toNat).Hours)) (.i 57 (.ptr 1 0 2) (.i 56 (vi v7) .a))) ?_
   obtain ⟨c7,h⟩ := ck h
   refine dp 59 (.bin .add false 56 58) (r_add rfl rfl c7) ?_
   refine dk 3 (.i 62 (vt (ix y1.2 v9)) (.i 61 (.map 0) (.i 60 (vi v8) .a))) ?_
   refine dp 63 (.lookup true (.p (.int .i64 0)) false 61 62) (ok_lookup_s (l := (mPut (ix y1.2 v9) (v15 + ((ix a0 y11.toNat).Hours)) v10)) (ev := vi) (z0 := (0 : Int)) rfl rfl rfl rfl) ?_
   refine dk 3 (.i 10 (vi (iMax v8 (Option.getD (List.lookup (ix y1.2 v9) (mPut (ix y1.2 v9) (v15 + ((ix a0 y11.toNat).Hours)) v10)) (0 : Int)))) (.i 9 (vi (v7 + ((ix a0 y11.toNat).Hours))) (.i 64 (vi (iMax v8 (Option.getD (List.lookup (ix y1.2 v9) (mPut (ix y1.2 v9) (v15 + ((ix a0 y11.toNat).Hours)) v10)) (0 : Int)))) .a))) ?_
   refine dfi (.d4 (.d4 (.d3 (.k2 (.d2 (.k4 (.i 9 (vi (v7 + ((ix a0 y11.toNat).Hours))) (.i 10 (vi (iMax v8 (Option.getD (List.lookup (ix y1.2 v9) (mPut (ix y1.2 v9) (v15 + ((ix a0 y11.toNat).Hours)) v10)) (0 : Int)))) .n)))))))) [0] (obRen_mp vt_frz vi_frz rfl .nil) ?_
   refine q6 ?_
   obtain ⟨c8,h⟩ := ck h
   refine jo 65 (.bin .add false 27 (ki 1)) (r_addn (i := v9) (j := 1) rfl rfl c8) ?_
   refine jk 1 (.d (.k4 (.k (.d (.k2 (.i 27 (vi ((v9 + 1 : Nat) : Int)) .n)))))) ?_
   exact Vs.intro sy ⟨(v7 + ((ix a0 y11.toNat).Hours),iMax v8 (Option.getD (List.lookup (ix y1.2 v9) (mPut (ix y1.2 v9) (v15 + ((ix a0 y11.toNat).Hours)) v10)) (0 : Int)),v9 + 1,(mPut (ix y1.2 v9) (v15 + ((ix a0 y11.toNat).Hours)) v10)),rfl,h⟩
  intro k1 h
  refine sj ?_
  refine rk 1 (.k4 (.k4 (.k3 (.i 37 (.agg [vt ((ix a0 y11.toNat).Name),vi ((ix a0 y11.toNat).Cents),vi ((ix a0 y11.toNat).Hours),eS 1 vt ((ix a0 y11.toNat).Needs),eS 1 (eS 1 vt) ((ix a0 y11.toNat).OneOf),eS 2 ePartCount ((ix a0 y11.toNat).Parts)]) .n)))) ?_
  obtain ⟨y12,hy12,h⟩ := bs h
  refine jc 38 [37] (q209k n (ix a0 y11.toNat) y12 hy12) ?_
  refine jo 39 (.len 0 38) (ok_len_m rfl) ?_
  refine jk 1 (.d2 (.k4 (.k4 (.k3 (.i 38 (eS 1 vt y12) (.i 39 (vi (y12.length : Int)) (.i 40 (vi 0) .n))))))) ?_
  refine q4 ?_
  refine ts (.k4 (.k4 (.k4 (.k (.i 40 (vi 0) .n))))) ?_
  refine TriE.loopN h (fun (t : Int × Nat) => match t with | (v13,v14) => St.mk [(0,eS 6 eTask a0),(8,vi y1.1),(9,vi v7),(10,vi v8),(11,.map 0),(25,eS 1 vt y1.2),(26,vi ((y1.2.length : Nat) : Int)),(27,vi v9),(13,vt (ix y1.2 v9)),(14,.ptr 1 0 0),(15,vi v13),(38,eS 1 vt y12),(39,vi (y12.length : Int)),(40,vi v14)] [some (.mp (mpE vt vi v10)),some (.row 6 [.agg [vt ((ix a0 y11.toNat).Name),vi ((ix a0 y11.toNat).Cents),vi ((ix a0 y11.toNat).Hours),eS 1 vt ((ix a0 y11.toNat).Needs),eS 1 (eS 1 vt) ((ix a0 y11.toNat).OneOf),eS 2 ePartCount ((ix a0 y11.toNat).Parts)]])]) rfl ?_
  clear h
  rintro back ⟨v13,v14⟩ h
  dsimp only [q195k] at h
  refine sj ?_
  refine jo 41 (.bin .lss false 40 39) (n_lss (i := v14) (j := y12.length) rfl rfl) ?_
  refine jf (.d (.k4 (.k4 (.k4 (.k2 (.i 41 (vb (decide (v14 < y12.length))) .n)))))) ?_
  refine q1 ?_
  refine tc h (fun c4 h => ?_) (fun c4 h => ?_)
  ·refine q2 ?_
   refine q7 ?_
   refine sj ?_
   refine jo 42 (.iaddr 1 38 40) (ok_iaddr_m (j := v14) rfl rfl rfl c4) ?_
   refine jo 43 (.load false 1 42) (ok_load_fm (v := vt (ix y12 v14)) rfl c4 rfl) ?_
   refine jk 1 (.d2 (.k4 (.k4 (.k4 (.k2 (.i 17 (vt (ix y12 v14)) .n)))))) ?_
   refine q6 ?_
   refine rk 3 (.k4 (.k4 (.k2 (.d (.k3 (.i 44 (vi v13) (.i 45 (.map 0) (.i 46 (vt (ix y12 v14)) .n)))))))) ?_
   refine jo 47 (.lookup true (.p (.int .i64 0)) false 45 46) (ok_lookup_s (l := v10) (ev := vi) (z0 := (0 : Int)) rfl rfl rfl rfl) ?_
   refine jk 2 (.d (.k4 (.k4 (.k4 (.k (.i 15 (vi (iMax v13 (Option.getD (List.lookup (ix y12 v14) v10) (0 : Int)))) .n)))))) ?_
   refine q6 ?_
   obtain ⟨c5,h⟩ := ck h
   refine jo 49 (.bin .add false 40 (ki 1)) (r_addn (i := v14) (j := 1) rfl rfl c5) ?_
   refine jk 1 (.d (.k4 (.k4 (.k4 (.d (.k (.i 40 (vi ((v14 + 1 : Nat) : Int)) .n))))))) ?_
   exact Vs.intro sy ⟨(iMax v13 (Option.getD (List.lookup (ix y12 v14) v10) (0 : Int)),v14 + 1),rfl,h⟩
  refine q5 ?_
  exact Vs.intro sy ⟨v13,rfl,h⟩
 refine q5 ?_
 exact Vs.intro (sc [] (by decide) (by kernel_rfl) ObRen.nil rfl rfl) ⟨(v7,v8),rfl,h⟩
set_option maxHeartbeats 1000000 in
theorem q247k (n : Nat) (a0 : List Task) (a1 : List Str) (r : Int × Int) (h : q144k n a0 a1 = some r) : FnL Tryz.prog 70 [eS 6 eTask a0,eS 1 vt a1] [] (.tup [vi r.1,vi r.2]) [] := by
 dsimp only [q144k] at h
 refine fo [4,5] Tryz.call70 Tryz.func70 rfl ?_
 refine sk .a ?_
 refine sj ?_
 refine rk 2 (.k2 (.i 14 (eS 6 eTask a0) (.i 15 (eS 1 vt a1) .n))) ?_
 obtain ⟨y1,hy1,h⟩ := bs h
 refine jc 16 [14,15] (q184k n a0 a1 y1 hy1) ?_
 refine jk 1 (.d (.k2 (.i 6 (eS 1 vt y1) .n))) ?_
 refine sk (.k3 (.i 7 (vi 0) (.i 8 (vi 0) .n))) ?_
 refine sj ?_
 refine rk 1 (.k4 (.k (.i 17 (eS 6 eTask a0) .n))) ?_
 refine jo 18 (.len 0 17) (ok_len_m rfl) ?_
 obtain ⟨c1,h⟩ := ck h
 refine jx 19 (.mkslice 1 8 (.p (.int .i64 0)) 18 18) _ (ok_mkslice_n (e := vi) (v0 := (0 : Int)) (j := a0.length) rfl rfl rfl rfl rfl rfl c1) rfl rfl ?_
 refine jk 1 (.d2 (.k4 (.k (.i 9 (.own 0 0 ((List.replicate a0.length (0 : Int)).length)) .n)))) ?_
 refine TriE.seqK h (fun (t : Int × Int) => match t with | (v28,v29) => St.mk [(7,vi v28),(8,vi v29)] []) ?_ ?_
 ·rintro ⟨v28,v29⟩ h
  refine sk (.i 4 (vi v28) (.i 5 (vi v29) .n)) ?_
  refine q3 ?_
  have h := si h
  subst h
  exact DoneS.ret Sees.refl rfl rfl
 intro k3 h
 refine sk (.k4 (.k2 (.i 10 (vi 0) .n))) ?_
 refine q4 ?_
 refine ts (.k4 (.k (.i 9 (.own 0 0 (List.replicate a0.length (0 : Int)).length) (.i 10 (vi 0) .n)))) ?_
 refine TriE.loopN h (fun (t : Int × Int × Nat × (List Int)) => match t with | (v13,v14,v15,v16) => St.mk [(0,eS 6 eTask a0),(1,eS 1 vt a1),(6,eS 1 vt y1),(7,vi v13),(8,vi v14),(9,.own 0 0 v16.length),(10,vi v15)] [some (.row 1 (List.map vi v16))]) rfl ?_
 clear h
 rintro back ⟨v13,v14,v15,v16⟩ h
 dsimp only [q62k] at h
 refine q1 ?_
 refine sj ?_
 refine rk 2 (.k4 (.k3 (.i 20 (vi v15) (.i 21 (eS 1 vt y1) .n)))) ?_
 refine jo 22 (.len 0 21) (ok_len_m rfl) ?_
 refine jo 23 (.bin .lss false 20 22) (n_lss (i := v15) (j := y1.length) rfl rfl) ?_
 refine jf (.d2 (.k4 (.k3 (.i 23 (vb (decide (v15 < y1.length))) .n)))) ?_
 refine tc h (fun c2 h => ?_) (fun c2 h => ?_)
 ·refine q2 ?_
  refine q7 ?_
  refine sj ?_
  refine rk 3 (.k4 (.k3 (.i 26 (eS 6 eTask a0) (.i 27 (eS 1 vt y1) (.i 28 (vi v15) .n))))) ?_
  refine jo 29 (.iaddr 1 27 28) (ok_iaddr_m (j := v15) rfl rfl rfl c2) ?_
  refine jo 30 (.load false 1 29) (ok_load_fm (v := vt (ix y1 v15)) rfl c2 rfl) ?_
  obtain ⟨y17,hy17,h⟩ := bs h
  refine jc 31 [26,30] (q44k n a0 (ix y1 v15) y17 hy17) ?_
  refine jk 1 (.d3 (.k4 (.k3 (.i 11 (vi y17) .n)))) ?_
  refine sj ?_
  refine rk 3 (.k3 (.d (.k4 (.i 32 (vi v13) (.i 33 (eS 6 eTask a0) (.i 34 (vi y17) .n)))))) ?_
  obtain ⟨c3,h⟩ := ck h
  refine jo 35 (.iaddr 6 33 34) (ok_iaddr_m (j := y17.toNat) rfl rfl (inB_to c3) (inB_lt c3)) ?_
  refine rk 1 (.d (.k4 (.k4 (.i 36 (.fptr 6 (List.map eTask a0) y17.toNat 2) .n)))) ?_
  obtain ⟨c4,h⟩ := ck h
  refine jo 37 (.load false 1 36) (ok_load_fm (v := vi ((ix a0 y17.toNat).Hours)) rfl c4 rfl) ?_
  obtain ⟨c5,h⟩ := ck h
  refine jo 38 (.bin .add false 32 37) (r_add rfl rfl c5) ?_
  refine jk 1 (.d2 (.k4 (.k3 (.i 7 (vi (v13 + ((ix a0 y17.toNat).Hours))) .n)))) ?_
  refine sj ?_
  refine rk 2 (.k4 (.k4 (.i 39 (eS 6 eTask a0) (.i 40 (vi y17) .n)))) ?_
  refine jo 41 (.iaddr 6 39 40) (ok_iaddr_m (j := y17.toNat) rfl rfl (inB_to c3) (inB_lt c3)) ?_
  refine jo 42 (.load true 6 41) (ok_load_fm (v := .agg [vt ((ix a0 y17.toNat).Name),vi ((ix a0 y17.toNat).Cents),vi ((ix a0 y17.toNat).Hours),eS 1 vt ((ix a0 y17.toNat).Needs),eS 1 (eS 1 vt) ((ix a0 y17.toNat).OneOf),eS 2 ePartCount ((ix a0 y17.toNat).Parts)]) rfl c4 rfl) ?_
  obtain ⟨y18,hy18,h⟩ := bs h
  refine jc 43 [42] (q182k n (ix a0 y17.toNat) y18 hy18) ?_
  refine jk 1 (.d3 (.k4 (.k4 (.i 12 (eS 1 vt y18) .n)))) ?_
  refine TriE.seqK h (fun (v27 : (List Int)) => St.mk [(0,eS 6 eTask a0),(1,eS 1 vt a1),(6,eS 1 vt y1),(8,vi v14),(9,.own 0 0 v27.length),(10,vi v15),(11,vi y17),(7,vi (v13 + ((ix a0 y17.toNat).Hours)))] [some (.row 1 (List.map vi v27))]) ?_ ?_
  ·rintro v27 h
   refine q1 ?_
   refine ts .a ?_
   refine TriE.draw (by kernel_rfl) ?_
   refine dk 4 (.i 76 (vi y17) (.i 75 (.own 0 0 v27.length) (.i 74 (vi y17) (.i 73 (.own 0 0 v27.length) .a)))) ?_
   obtain ⟨c13,h⟩ := ck h
   refine dp 77 (.iaddr 1 75 76) (ok_iaddr_o0 (j := y17.toNat) rfl rfl rfl (inB_to c13) (inB_lt c13)) ?_
   obtain ⟨c14,h⟩ := ck h
   refine dp 78 (.load false 1 77) (ok_load_pm (l := v27) (e := vi) (v := vi (ix v27 y17.toNat)) rfl rfl c14 rfl) ?_
   refine dk 2 (.i 80 (vi y17) (.i 79 (eS 6 eTask a0) .a)) ?_
   refine dp 81 (.iaddr 6 79 80) (ok_iaddr_m (j := y17.toNat) rfl rfl (inB_to c3) (inB_lt c3)) ?_
   refine dk 1 (.i 82 (.fptr 6 (List.map eTask a0) y17.toNat 2) .a) ?_
   refine dp 83 (.load false 1 82) (ok_load_fm (v := vi ((ix a0 y17.toNat).Hours)) rfl c4 rfl) ?_
   obtain ⟨c15,h⟩ := ck h
   refine dp 84 (.bin .add false 78 83) (r_add rfl rfl c15) ?_
   refine dp 85 (.iaddr 1 73 74) (ok_iaddr_o0 (j := y17.toNat) rfl rfl rfl (inB_to c13) (inB_lt c13)) ?_
   refine dm (.store 1 85 84) _ (ok_store_m (l := v27) (e := vi) (x' := (ix v27 y17.toNat) + ((ix a0 y17.toNat).Hours)) (u := vi ((ix v27 y17.toNat) + ((ix a0 y17.toNat).Hours))) rfl rfl rfl c14 rfl rfl) rfl rfl ?_
   refine dfi (.d4 (.d4 (.d4 (.d .a)))) [0] (obRen_row vi_frz rfl .nil) ?_
   refine q6 ?_
   refine rk 3 (.k3 (.d (.k2 (.d (.k (.i 86 (vi v14) (.i 87 (.own 0 0 v27.length) (.i 88 (vi y17) .n)))))))) ?_
   refine jo 89 (.iaddr 1 87 88) (ok_iaddr_o0 (j := y17.toNat) rfl rfl rfl (inB_to c13) (inB_lt c13)) ?_
   obtain ⟨c16,h⟩ := ck h
   refine jo 90 (.load false 1 89) (ok_load_pm (l := (List.set v27 y17.toNat ((ix v27 y17.toNat) + ((ix a0 y17.toNat).Hours)))) (e := vi) (v := vi (ix (List.set v27 y17.toNat ((ix v27 y17.toNat) + ((ix a0 y17.toNat).Hours))) y17.toNat)) rfl rfl c16 rfl) ?_
   refine jk 2 (.d2 (.k4 (.k2 (.i 8 (vi (iMax v14 (ix (List.set v27 y17.toNat ((ix v27 y17.toNat) + ((ix a0 y17.toNat).Hours))) y17.toNat))) .n)))) ?_
   refine q6 ?_
   refine rk 1 (.k4 (.d (.k2 (.i 24 (vi v15) .n)))) ?_
   obtain ⟨c17,h⟩ := ck h
   refine jo 25 (.bin .add false 24 (ki 1)) (r_addn (i := v15) (j := 1) rfl rfl c17) ?_
   refine jk 1 (.d (.k4 (.k2 (.i 10 (vi ((v15 + 1 : Nat) : Int)) .n)))) ?_
   exact Vs.intro (Sees.less (.cons rfl (.cons rfl (.cons rfl (.cons rfl (.cons rfl (.cons (by simp only [List.length_set]; rfl) (.cons rfl .nil)))))))) ⟨(v13 + ((ix a0 y17.toNat).Hours),iMax v14 (ix (List.set v27 y17.toNat ((ix v27 y17.toNat) + ((ix a0 y17.toNat).Hours))) y17.toNat),v15 + 1,(List.set v27 y17.toNat ((ix v27 y17.toNat) + ((ix a0 y17.toNat).Hours)))),rfl,h⟩
  intro k2 h
  refine sk (.k4 (.k4 (.k (.i 13 (vi 0) .n)))) ?_
  refine q4 ?_
  refine ts (.k4 (.k4 (.k (.i 13 (vi 0) .n)))) ?_
  refine TriE.loopN h (fun (t : Nat × (List Int)) => match t with | (v22,v23) => St.mk [(0,eS 6 eTask a0),(1,eS 1 vt a1),(6,eS 1 vt y1),(8,vi v14),(9,.own 0 0 v23.length),(10,vi v15),(11,vi y17),(7,vi (v13 + ((ix a0 y17.toNat).Hours))),(12,eS 1 vt y18),(13,vi v22)] [some (.row 1 (List.map vi v23))]) rfl ?_
  clear h
  rintro back ⟨v22,v23⟩ h
  dsimp only [q135k] at h
  refine q1 ?_
  refine sj ?_
  refine rk 2 (.k4 (.k4 (.k2 (.i 44 (vi v22) (.i 45 (eS 1 vt y18) .n))))) ?_
  refine jo 46 (.len 0 45) (ok_len_m rfl) ?_
  refine jo 47 (.bin .lss false 44 46) (n_lss (i := v22) (j := y18.length) rfl rfl) ?_
  refine jf (.d2 (.k4 (.k4 (.k2 (.i 47 (vb (decide (v22 < y18.length))) .n))))) ?_
  refine tc h (fun c6 h => ?_) (fun c6 h => ?_)
  ·refine q2 ?_
   refine TriE.seqK h (fun (v26 : (List Int)) => St.mk [(0,eS 6 eTask a0),(1,eS 1 vt a1),(6,eS 1 vt y1),(8,vi v14),(9,.own 0 0 v26.length),(10,vi v15),(11,vi y17),(7,vi (v13 + ((ix a0 y17.toNat).Hours))),(12,eS 1 vt y18),(13,vi v22)] [some (.row 1 (List.map vi v26))]) ?_ ?_
   ·rintro v26 h
    refine q6 ?_
    refine rk 1 (.k4 (.k4 (.k (.i 48 (vi v22) .n)))) ?_
    obtain ⟨c12,h⟩ := ck h
    refine jo 49 (.bin .add false 48 (ki 1)) (r_addn (i := v22) (j := 1) rfl rfl c12) ?_
    refine jk 1 (.d (.k4 (.k4 (.k (.i 13 (vi ((v22 + 1 : Nat) : Int)) .n))))) ?_
    exact Vs.intro sy ⟨(v22 + 1,v26),rfl,h⟩
   intro k1 h
   refine q4 ?_
   refine sj ?_
   refine rk 3 (.k4 (.k4 (.k2 (.i 50 (eS 1 vt a1) (.i 51 (eS 1 vt y18) (.i 52 (vi v22) .n)))))) ?_
   refine jo 53 (.iaddr 1 51 52) (ok_iaddr_m (j := v22) rfl rfl rfl c6) ?_
   refine jo 54 (.load false 1 53) (ok_load_fm (v := vt (ix y18 v22)) rfl c6 rfl) ?_
   obtain ⟨y24,hy24,h⟩ := bs h
   refine jc 55 [50,54] (q86k n a1 (ix y18 v22) y24 hy24) ?_
   refine jf (.d3 (.k4 (.k4 (.k2 (.i 55 (vb y24) .n))))) ?_
   refine tc h (fun c7 h => ?_) (fun c7 h => ?_)
   ·refine ts (.k4 (.k4 (.k2 .n))) ?_
    refine TriE.draw (by kernel_rfl) ?_
    refine dk 4 (.i 59 (vi y17) (.i 58 (.own 0 0 v23.length) (.i 57 (vi y17) (.i 56 (.own 0 0 v23.length) .a)))) ?_
    obtain ⟨c8,h⟩ := ck h
    refine dp 60 (.iaddr 1 58 59) (ok_iaddr_o0 (j := y17.toNat) rfl rfl rfl (inB_to c8) (inB_lt c8)) ?_
    obtain ⟨c9,h⟩ := ck h
    refine dp 61 (.load false 1 60) (ok_load_pm (l := v23) (e := vi) (v := vi (ix v23 y17.toNat)) rfl rfl c9 rfl) ?_
    refine dk 4 (.i 65 (vi v22) (.i 64 (eS 1 vt y18) (.i 63 (eS 6 eTask a0) (.i 62 (.own 0 0 v23.length) .a)))) ?_
    refine dp 66 (.iaddr 1 64 65) (ok_iaddr_m (j := v22) rfl rfl rfl c6) ?_
    refine dp 67 (.load false 1 66) (ok_load_fm (v := vt (ix y18 v22)) rfl c6 rfl) ?_
    obtain ⟨y25,hy25,h⟩ := bs h
    refine dc (vi y25) 0 68 [63,67] (q44k n a0 (ix y18 v22) y25 hy25) [] rfl ObsRen.nil ObsRen.nil rfl (.inr ⟨rfl,rfl⟩) ?_
    obtain ⟨c10,h⟩ := ck h
    refine dp 69 (.iaddr 1 62 68) (ok_iaddr_o0 (j := y25.toNat) rfl rfl rfl (inB_to c10) (inB_lt c10)) ?_
    obtain ⟨c11,h⟩ := ck h
    refine dp 70 (.load false 1 69) (ok_load_pm (l := v23) (e := vi) (v := vi (ix v23 y25.toNat)) rfl rfl c11 rfl) ?_
    refine dk 1 (.i 71 (vi (iMax (ix v23 y17.toNat) (ix v23 y25.toNat))) .a) ?_
    refine dp 72 (.iaddr 1 56 57) (ok_iaddr_o0 (j := y17.toNat) rfl rfl rfl (inB_to c8) (inB_lt c8)) ?_
    refine dm (.store 1 72 71) _ (ok_store_m (l := v23) (e := vi) (x' := iMax (ix v23 y17.toNat) (ix v23 y25.toNat)) (u := vi (iMax (ix v23 y17.toNat) (ix v23 y25.toNat))) rfl rfl rfl c9 rfl rfl) rfl rfl ?_
    refine dfi (.d4 (.d4 (.d4 (.d4 (.d .a))))) [0] (obRen_row vi_frz rfl .nil) ?_
    exact Vs.intro (Sees.less (.cons rfl (.cons rfl (.cons rfl (.cons rfl (.cons (by simp only [List.length_set]; rfl) (.cons rfl (.cons rfl (.cons rfl (.cons rfl (.cons rfl .nil))))))))))) ⟨(List.set v23 y17.toNat (iMax (ix v23 y17.toNat) (ix v23 y25.toNat))),rfl,h⟩
   refine q2 ?_
   exact Vs.intro sy ⟨v23,rfl,h⟩
  refine q5 ?_
  exact Vs.intro sy ⟨v23,rfl,h⟩
 refine q5 ?_
 exact Vs.intro (sc [] (by decide) (by kernel_rfl) ObRen.nil rfl rfl) ⟨(v13,v14),rfl,h⟩
set_option maxHeartbeats 1000000 in
theorem q236k (n : Nat) (a0 : List Task) (a1 : List Str) (r : (List PartCount)) (h : q109k n a0 a1 = some r) : FnL Tryz.prog 72 [eS 6 eTask a0,eS 1 vt a1] [] (eS 2 ePartCount r) [] := by
 dsimp only [q109k] at h
 refine fo [4] Tryz.call72 Tryz.func72 rfl ?_
 refine sk .a ?_
 refine sk (.k2 (.i 5 .emp .n)) ?_
 refine TriE.seqK h (fun (v15 : (List Str)) => St.mk [(0,eS 6 eTask a0),(1,eS 1 vt a1),(5,eS 1 vt v15)] []) ?_ ?_
 ·rintro v15 h
  refine sk (.k3 (.i 9 .emp .n)) ?_
  refine TriE.seqK h (fun (v36 : (List PartCount)) => St.mk [(9,.own 0 0 v36.length)] [some (.row 2 (List.map ePartCount v36))]) ?_ ?_
  ·rintro v36 h
   refine sk (.i 4 (.own 0 0 v36.length) .n) ?_
   refine q3 ?_
   have h := si h
   subst h
   exact DoneS.ret (S' := ⟨[(4,eS 2 ePartCount v36)],[]⟩) (Sees.trans (Sees.freeze 0 (fr' := [(4,eS 2 ePartCount v36)]) (ob' := [none]) rfl (frz_row ePartCount_frzE _) (.cons (frz_full rfl) .nil) rfl) (sc [] (by decide) (by kernel_rfl) ObRen.nil rfl rfl)) rfl rfl
  intro k5 h
  refine sk (.k4 (.i 10 (vi 0) .n)) ?_
  refine q4 ?_
  refine TriE.sees (S' := ⟨[(0,eS 6 eTask a0),(1,eS 1 vt a1),(5,eS 1 vt v15),(9,.own 0 0 ([] : List PartCount).length),(10,vi 0)],[some (.row 2 (List.map ePartCount ([] : List PartCount)))]⟩) (Sees.trans (Sees.co (fr' := [(0,eS 6 eTask a0),(1,eS 1 vt a1),(5,eS 1 vt v15),(9,.own 0 0 0),(10,vi 0)]) (ob' := []) (.cons .same (.cons .same (.cons .same (.cons .own (.cons .same .nil))))) ObCo.nil 2) sy) ?_
  refine TriE.loopN h (fun (t : (List PartCount) × Nat) => match t with | (v25,v26) => St.mk [(0,eS 6 eTask a0),(1,eS 1 vt a1),(5,eS 1 vt v15),(9,.own 0 0 v25.length),(10,vi v26)] [some (.row 2 (List.map ePartCount v25))]) rfl ?_
  clear h
  rintro back ⟨v25,v26⟩ h
  dsimp only [q71k] at h
  refine q1 ?_
  refine sj ?_
  refine rk 2 (.k4 (.k (.i 44 (vi v26) (.i 45 (eS 1 vt v15) .n)))) ?_
  refine jo 46 (.len 0 45) (ok_len_m rfl) ?_
  refine jo 47 (.bin .lss false 44 46) (n_lss (i := v26) (j := v15.length) rfl rfl) ?_
  refine jf (.d2 (.k4 (.k (.i 47 (vb (decide (v26 < v15.length))) .n)))) ?_
  refine tc h (fun c8 h => ?_) (fun c8 h => ?_)
  ·refine q2 ?_
   refine q7 ?_
   refine sj ?_
   refine rk 2 (.k4 (.k (.i 50 (eS 1 vt v15) (.i 51 (vi v26) .n)))) ?_
   refine jo 52 (.iaddr 1 50 51) (ok_iaddr_m (j := v26) rfl rfl rfl c8) ?_
   refine jo 53 (.load false 1 52) (ok_load_fm (v := vt (ix v15 v26)) rfl c8 rfl) ?_
   refine jko 3 (.d2 (.k4 (.k (.i 11 (.ptr 1 0 0) .n)))) [some (.row 2 (List.map ePartCount v25)),some (.row 2 [.agg [vt (ix v15 v26),vi 0]])] ?_
   refine TriE.seqK h (fun (v35 : Int) => St.mk [(0,eS 6 eTask a0),(1,eS 1 vt a1),(5,eS 1 vt v15),(9,.own 0 0 v25.length),(10,vi v26),(11,.ptr 1 0 0)] [some (.row 2 (List.map ePartCount v25)),some (.row 2 [.agg [vt (ix v15 v26),vi v35]])]) ?_ ?_
   ·rintro v35 h
    refine q6 ?_
    refine rko 3 (.k3 (.d (.k (.i 88 (.own 0 0 v25.length) (.i 90 (.own 2 0 1) .n))))) [some (.row 2 (List.map ePartCount v25)),some (.row 2 [.agg [vt (ix v15 v26),vi v35]]),some (.row 2 [.agg [vt (ix v15 v26),vi v35]])] ?_
    obtain ⟨c17,h⟩ := ck h
    refine jx 91 (.app 2 24 88 90) _ (ok_app_own (l := v25) (l2 := ([(PartCount.mk (ix v15 v26) v35)] : List PartCount)) (e := ePartCount) (u := .own 2 0 1) rfl rfl rfl rfl rfl c17) rfl rfl ?_
    refine jk 1 (.d (.k4 (.i 9 (.own 3 0 ((v25 ++ ([(PartCount.mk (ix v15 v26) v35)] : List PartCount)).length)) .n))) ?_
    refine q6 ?_
    refine rk 1 (.k3 (.d (.k (.i 48 (vi v26) .n)))) ?_
    obtain ⟨c18,h⟩ := ck h
    refine jo 49 (.bin .add false 48 (ki 1)) (r_addn (i := v26) (j := 1) rfl rfl c18) ?_
    refine jk 1 (.d (.k4 (.i 10 (vi ((v26 + 1 : Nat) : Int)) .n))) ?_
    exact Vs.intro (sc [3] (by decide) (by kernel_rfl) (obRen_row ePartCount_frz rfl .nil) rfl rfl) ⟨((v25 ++ ([(PartCount.mk (ix v15 v26) v35)] : List PartCount)),v26 + 1),rfl,h⟩
   intro k4 h
   refine sk (.k4 (.k2 (.i 12 (vi 0) .n))) ?_
   refine q4 ?_
   refine ts (.k4 (.k2 (.i 12 (vi 0) .n))) ?_
   refine TriE.loopN h (fun (t : Nat × Int) => match t with | (v30,v31) => St.mk [(0,eS 6 eTask a0),(1,eS 1 vt a1),(5,eS 1 vt v15),(9,.own 0 0 v25.length),(10,vi v26),(11,.ptr 1 0 0),(12,vi v30)] [some (.row 2 (List.map ePartCount v25)),some (.row 2 [.agg [vt (ix v15 v26),vi v31]])]) rfl ?_
   clear h
   rintro back ⟨v30,v31⟩ h
   dsimp only [q114k] at h
   refine q1 ?_
   refine sj ?_
   refine rk 2 (.k4 (.k3 (.i 55 (vi v30) (.i 56 (eS 1 vt a1) .n)))) ?_
   refine jo 57 (.len 0 56) (ok_len_m rfl) ?_
   refine jo 58 (.bin .lss false 55 57) (n_lss (i := v30) (j := a1.length) rfl rfl) ?_
   refine jf (.d2 (.k4 (.k3 (.i 58 (vb (decide (v30 < a1.length))) .n)))) ?_
   refine tc h (fun c9 h => ?_) (fun c9 h => ?_)
   ·refine q2 ?_
    refine TriE.seqK h (fun (v34 : Int) => St.mk [(0,eS 6 eTask a0),(1,eS 1 vt a1),(5,eS 1 vt v15),(9,.own 0 0 v25.length),(10,vi v26),(11,.ptr 1 0 0),(12,vi v30)] [some (.row 2 (List.map ePartCount v25)),some (.row 2 [.agg [vt (ix v15 v26),vi v34]])]) ?_ ?_
    ·rintro v34 h
     refine q6 ?_
     refine rk 1 (.k4 (.k2 (.i 59 (vi v30) .n))) ?_
     obtain ⟨c16,h⟩ := ck h
     refine jo 60 (.bin .add false 59 (ki 1)) (r_addn (i := v30) (j := 1) rfl rfl c16) ?_
     refine jk 1 (.d (.k4 (.k2 (.i 12 (vi ((v30 + 1 : Nat) : Int)) .n)))) ?_
     exact Vs.intro sy ⟨(v30 + 1,v34),rfl,h⟩
    intro k3 h
    refine q4 ?_
    refine sj ?_
    refine rk 4 (.k4 (.k3 (.i 61 (eS 6 eTask a0) (.i 62 (eS 6 eTask a0) (.i 63 (eS 1 vt a1) (.i 64 (vi v30) .n)))))) ?_
    refine jo 65 (.iaddr 1 63 64) (ok_iaddr_m (j := v30) rfl rfl rfl c9) ?_
    refine jo 66 (.load false 1 65) (ok_load_fm (v := vt (ix a1 v30)) rfl c9 rfl) ?_
    obtain ⟨y32,hy32,h⟩ := bs h
    refine jc 67 [62,66] (q44k n a0 (ix a1 v30) y32 hy32) ?_
    obtain ⟨c10,h⟩ := ck h
    refine jo 68 (.iaddr 6 61 67) (ok_iaddr_m (j := y32.toNat) rfl rfl (inB_to c10) (inB_lt c10)) ?_
    refine rk 1 (.d4 (.k4 (.k3 (.i 69 (.fptr 6 (List.map eTask a0) y32.toNat 5) .n)))) ?_
    obtain ⟨c11,h⟩ := ck h
    refine jo 70 (.load false 1 69) (ok_load_fm (v := eS 2 ePartCount ((ix a0 y32.toNat).Parts)) rfl c11 rfl) ?_
    refine jk 1 (.d (.k4 (.k3 (.i 13 (eS 2 ePartCount ((ix a0 y32.toNat).Parts)) .n)))) ?_
    refine sj ?_
    refine rk 3 (.k4 (.k4 (.i 71 (eS 2 ePartCount ((ix a0 y32.toNat).Parts)) (.i 72 (eS 1 vt v15) (.i 73 (vi v26) .n))))) ?_
    refine jo 74 (.iaddr 1 72 73) (ok_iaddr_m (j := v26) rfl rfl rfl c8) ?_
    refine jo 75 (.load false 1 74) (ok_load_fm (v := vt (ix v15 v26)) rfl c8 rfl) ?_
    obtain ⟨y33,hy33,h⟩ := bs h
    refine jc 76 [71,75] (q194k n ((ix a0 y32.toNat).Parts) (ix v15 v26) y33 hy33) ?_
    refine jk 1 (.d3 (.k4 (.k4 (.i 14 (vi y33) .n)))) ?_
    refine sk (.k4 (.k4 (.k (.i 78 (vb (decide ((0 : Int) ≤ y33))) .n)))) ?_
    refine tc h (fun c12 h => ?_) (fun c12 h => ?_)
    ·refine ts (.k4 (.k4 (.k .n))) ?_
     refine TriE.draw (by kernel_rfl) ?_
     refine dk 4 (.i 82 (vi y33) (.i 81 (eS 2 ePartCount ((ix a0 y32.toNat).Parts)) (.i 80 (vi v31) (.i 79 (.ptr 1 0 1) .a)))) ?_
     obtain ⟨c13,h⟩ := ck h
     refine dp 83 (.iaddr 2 81 82) (ok_iaddr_m (j := y33.toNat) rfl rfl (inB_to c13) (inB_lt c13)) ?_
     refine dk 1 (.i 84 (.fptr 2 (List.map ePartCount ((ix a0 y32.toNat).Parts)) y33.toNat 1) .a) ?_
     obtain ⟨c14,h⟩ := ck h
     refine dp 85 (.load false 1 84) (ok_load_fm (v := vi ((ix ((ix a0 y32.toNat).Parts) y33.toNat).Count)) rfl c14 rfl) ?_
     obtain ⟨c15,h⟩ := ck h
     refine dp 86 (.bin .add false 80 85) (r_add rfl rfl c15) ?_
     refine dko 2 (.i 87 (.ptr 1 0 1) .a) [some (.row 2 (List.map ePartCount v25)),some (.row 2 [.agg [vt (ix v15 v26),vi (v31 + ((ix ((ix a0 y32.toNat).Parts) y33.toNat).Count))]]),none,none,none,none,none,none,none,none,none,none] ?_
     refine dfi (ob' := [some (.row 2 (List.map ePartCount v25)),some (.row 2 [.agg [vt (ix v15 v26),vi (v31 + ((ix ((ix a0 y32.toNat).Parts) y33.toNat).Count))]])]) (.d4 (.d4 (.d (.k4 (.k3 .n))))) [0,1] (obRen_row ePartCount_frz rfl (.cons rfl .nil)) ?_
     exact Vs.intro Sees.refl ⟨(v31 + ((ix ((ix a0 y32.toNat).Parts) y33.toNat).Count)),rfl,h⟩
    refine q2 ?_
    exact Vs.intro sy ⟨v31,rfl,h⟩
   refine q5 ?_
   exact Vs.intro sy ⟨v31,rfl,h⟩
  refine q5 ?_
  exact Vs.intro sy ⟨v25,rfl,h⟩
 intro k2 h
 refine sk (.k3 (.i 6 (vi 0) .n)) ?_
 refine q4 ?_
 refine TriE.sees (S' := ⟨[(0,eS 6 eTask a0),(1,eS 1 vt a1),(5,eS 1 vt ([] : List Str)),(6,vi 0)],[]⟩) (Sees.trans (Sees.vco (fr' := [(0,eS 6 eTask a0),(1,eS 1 vt a1),(5,eS 1 vt ([] : List Str)),(6,vi 0)]) (.cons .same (.cons .same (.cons .sl (.cons .same .nil))))) sy) ?_
 refine TriE.loopN h (fun (t : (List Str) × Nat) => match t with | (v7,v8) => St.mk [(0,eS 6 eTask a0),(1,eS 1 vt a1),(5,eS 1 vt v7),(6,vi v8)] []) rfl ?_
 clear h
 rintro back ⟨v7,v8⟩ h
 dsimp only [q70k] at h
 refine q1 ?_
 refine sj ?_
 refine rk 2 (.k4 (.i 15 (vi v8) (.i 16 (eS 1 vt a1) .n))) ?_
 refine jo 17 (.len 0 16) (ok_len_m rfl) ?_
 refine jo 18 (.bin .lss false 15 17) (n_lss (i := v8) (j := a1.length) rfl rfl) ?_
 refine jf (.d2 (.k4 (.i 18 (vb (decide (v8 < a1.length))) .n))) ?_
 refine tc h (fun c1 h => ?_) (fun c1 h => ?_)
 ·refine q2 ?_
  refine TriE.seqK h (fun (v14 : (List Str)) => St.mk [(0,eS 6 eTask a0),(1,eS 1 vt a1),(5,eS 1 vt v14),(6,vi v8)] []) ?_ ?_
  ·rintro v14 h
   refine q6 ?_
   refine rk 1 (.k3 (.i 19 (vi v8) .n)) ?_
   obtain ⟨c7,h⟩ := ck h
   refine jo 20 (.bin .add false 19 (ki 1)) (r_addn (i := v8) (j := 1) rfl rfl c7) ?_
   refine jk 1 (.d (.k3 (.i 6 (vi ((v8 + 1 : Nat) : Int)) .n))) ?_
   exact Vs.intro sy ⟨(v14,v8 + 1),rfl,h⟩
  intro k1 h
  refine q4 ?_
  refine sj ?_
  refine rk 4 (.k4 (.i 21 (eS 6 eTask a0) (.i 22 (eS 6 eTask a0) (.i 23 (eS 1 vt a1) (.i 24 (vi v8) .n))))) ?_
  refine jo 25 (.iaddr 1 23 24) (ok_iaddr_m (j := v8) rfl rfl rfl c1) ?_
  refine jo 26 (.load false 1 25) (ok_load_fm (v := vt (ix a1 v8)) rfl c1 rfl) ?_
  obtain ⟨y9,hy9,h⟩ := bs h
  refine jc 27 [22,26] (q44k n a0 (ix a1 v8) y9 hy9) ?_
  obtain ⟨c2,h⟩ := ck h
  refine jo 28 (.iaddr 6 21 27) (ok_iaddr_m (j := y9.toNat) rfl rfl (inB_to c2) (inB_lt c2)) ?_
  refine rk 1 (.d4 (.k4 (.i 29 (.fptr 6 (List.map eTask a0) y9.toNat 5) .n))) ?_
  obtain ⟨c3,h⟩ := ck h
  refine jo 30 (.load false 1 29) (ok_load_fm (v := eS 2 ePartCount ((ix a0 y9.toNat).Parts)) rfl c3 rfl) ?_
  refine jk 1 (.d (.k4 (.i 7 (eS 2 ePartCount ((ix a0 y9.toNat).Parts)) .n))) ?_
  refine sk (.k4 (.k (.i 8 (vi 0) .n))) ?_
  refine q4 ?_
  refine ts (.k4 (.k (.i 8 (vi 0) .n))) ?_
  refine TriE.loopN h (fun (t : (List Str) × Nat) => match t with | (v11,v12) => St.mk [(0,eS 6 eTask a0),(1,eS 1 vt a1),(5,eS 1 vt v11),(6,vi v8),(7,eS 2 ePartCount ((ix a0 y9.toNat).Parts)),(8,vi v12)] []) rfl ?_
  clear h
  rintro back ⟨v11,v12⟩ h
  dsimp only [q69k] at h
  refine q1 ?_
  refine sj ?_
  refine rk 2 (.k4 (.k2 (.i 31 (vi v12) (.i 32 (eS 2 ePartCount ((ix a0 y9.toNat).Parts)) .n)))) ?_
  refine jo 33 (.len 0 32) (ok_len_m rfl) ?_
  refine jo 34 (.bin .lss false 31 33) (n_lss (i := v12) (j := ((ix a0 y9.toNat).Parts).length) rfl rfl) ?_
  refine jf (.d2 (.k4 (.k2 (.i 34 (vb (decide (v12 < (((ix a0 y9.toNat).Parts).length)))) .n)))) ?_
  refine tc h (fun c4 h => ?_) (fun c4 h => ?_)
  ·refine q2 ?_
   refine q7 ?_
   refine q6 ?_
   refine rk 3 (.k2 (.d (.k3 (.i 37 (eS 1 vt v11) (.i 38 (eS 2 ePartCount ((ix a0 y9.toNat).Parts)) (.i 39 (vi v12) .n)))))) ?_
   obtain ⟨c5,h⟩ := ck h
   refine jo 40 (.iaddr 2 38 39) (ok_iaddr_m (j := v12) rfl rfl rfl c5) ?_
   refine rk 1 (.d (.k4 (.k2 (.i 41 (.fptr 2 (List.map ePartCount ((ix a0 y9.toNat).Parts)) v12 0) .n)))) ?_
   refine jo 42 (.load false 1 41) (ok_load_fm (v := vt ((ix ((ix a0 y9.toNat).Parts) v12).Part)) rfl c5 rfl) ?_
   obtain ⟨y13,hy13,h⟩ := bs h
   refine jc 43 [37,42] (q255k n v11 ((ix ((ix a0 y9.toNat).Parts) v12).Part) y13 hy13) ?_
   refine jk 1 (.d2 (.k4 (.k (.i 5 (eS 1 vt y13) .n)))) ?_
   refine q6 ?_
   refine rk 1 (.k4 (.d (.k (.i 35 (vi v12) .n)))) ?_
   obtain ⟨c6,h⟩ := ck h
   refine jo 36 (.bin .add false 35 (ki 1)) (r_addn (i := v12) (j := 1) rfl rfl c6) ?_
   refine jk 1 (.d (.k4 (.k (.i 8 (vi ((v12 + 1 : Nat) : Int)) .n)))) ?_
   exact Vs.intro sy ⟨(y13,v12 + 1),rfl,h⟩
  refine q5 ?_
  exact Vs.intro sy ⟨v11,rfl,h⟩
 refine q5 ?_
 exact Vs.intro sy ⟨v7,rfl,h⟩
theorem q217k (n : Nat) (a0 : List PartCount) (a1 : List PartCount) (r : Bool) (h : q67k n a0 a1 = some r) : FnL Tryz.prog 37 [eS 2 ePartCount a0,eS 2 ePartCount a1] [] (vb r) [] := by
 dsimp only [q67k] at h
 refine fo [4] Tryz.call37 Tryz.func37 rfl ?_
 refine sk .a ?_
 refine q1 ?_
 refine sj ?_
 refine rk 1 (.k2 (.i 6 (eS 2 ePartCount a0) .n)) ?_
 refine jo 7 (.len 0 6) (ok_len_m rfl) ?_
 refine rk 1 (.d (.k2 (.i 7 (vi (a0.length : Int)) (.i 8 (eS 2 ePartCount a1) .n)))) ?_
 refine jo 9 (.len 0 8) (ok_len_m rfl) ?_
 refine jo 10 (.bin .neq false 7 9) (n_neq (i := a0.length) (j := a1.length) rfl rfl) ?_
 refine jf (.d2 (.k2 (.i 10 (vb (!decide (a0.length = a1.length))) .n))) ?_
 refine tc h (fun c1 h => ?_) (fun c1 h => ?_)
 ·refine sk (.i 4 (vb false) .n) ?_
  refine q3 ?_
  have h := si h
  subst h
  exact DoneS.ret Sees.refl rfl rfl
 refine q2 ?_
 refine TriE.seqK h (fun (_ : Unit) => St.mk [] []) ?_ ?_
 ·rintro ⟨⟩ h
  refine sk (.i 4 (vb true) .n) ?_
  refine q3 ?_
  have h := si h
  subst h
  exact DoneS.ret Sees.refl rfl rfl
 intro k1 h
 refine sk (.k2 (.i 5 (vi 0) .n)) ?_
 refine q4 ?_
 refine ts (.k2 (.i 5 (vi 0) .n)) ?_
 refine TriE.loopN h (fun (v1 : Nat) => St.mk [(0,eS 2 ePartCount a0),(1,eS 2 ePartCount a1),(5,vi v1)] []) rfl ?_
 clear h
 rintro back v1 h
 dsimp only [q80k] at h
 refine q1 ?_
 refine sj ?_
 refine rk 2 (.k3 (.i 11 (vi v1) (.i 12 (eS 2 ePartCount a0) .n))) ?_
 refine jo 13 (.len 0 12) (ok_len_m rfl) ?_
 refine jo 14 (.bin .lss false 11 13) (n_lss (i := v1) (j := a0.length) rfl rfl) ?_
 refine jf (.d2 (.k3 (.i 14 (vb (decide (v1 < a0.length))) .n))) ?_
 refine tc h (fun c2 h => ?_) (fun c2 h => ?_)
 ·refine q2 ?_
  refine q7 ?_
  refine q1 ?_
  refine ts (.k3 .n) ?_
  refine TriE.draw (by kernel_rfl) ?_
  refine dk 2 (.i 18 (vi v1) (.i 17 (eS 2 ePartCount a0) .a)) ?_
  refine dp 19 (.iaddr 2 17 18) (ok_iaddr_m (j := v1) rfl rfl rfl c2) ?_
  refine dp 20 (.load true 2 19) (ok_load_fm (v := .agg [vt ((ix a0 v1).Part),vi ((ix a0 v1).Count)]) rfl c2 rfl) ?_
  refine dk 2 (.i 22 (vi v1) (.i 21 (eS 2 ePartCount a1) .a)) ?_
  obtain ⟨c3,h⟩ := ck h
  refine dp 23 (.iaddr 2 21 22) (ok_iaddr_m (j := v1) rfl rfl rfl c3) ?_
  refine dp 24 (.load true 2 23) (ok_load_fm (v := .agg [vt ((ix a1 v1).Part),vi ((ix a1 v1).Count)]) rfl c3 rfl) ?_
  refine RegD.op (OpD.aggeq (cs := [vt ((ix a0 v1).Part),vi ((ix a0 v1).Count)]) (ds := [vt ((ix a1 v1).Part),vi ((ix a1 v1).Count)]) (b := (((ix a0 v1).Part) == ((ix a1 v1).Part)) && ((((ix a0 v1).Count) == ((ix a1 v1).Count)) && true)) true (cy (I0 25 (.bin .neq false 20 24))) rfl rfl rfl (by kernel_rfl) (.cons rfl (.cons rfl .nil))) ?_
  refine RegD.done rfl (by kernel_rfl) (S' := ⟨[(0,eS 2 ePartCount a0),(1,eS 2 ePartCount a1),(5,vi v1),(25,vb (!((((ix a0 v1).Part) == ((ix a1 v1).Part)) && ((((ix a0 v1).Count) == ((ix a1 v1).Count)) && true))))],[]⟩) (sc [] (by decide) (by kernel_rfl) ObRen.nil rfl rfl) ?_
  refine tc h (fun c4 h => ?_) (fun c4 h => ?_)
  ·refine sk (.i 4 (vb false) .n) ?_
   refine q3 ?_
   have h := si h
   subst h
   exact DoneS.ret Sees.refl rfl rfl
  refine q2 ?_
  refine q6 ?_
  refine rk 1 (.k2 (.i 15 (vi v1) .n)) ?_
  obtain ⟨c5,h⟩ := ck h
  refine jo 16 (.bin .add false 15 (ki 1)) (r_addn (i := v1) (j := 1) rfl rfl c5) ?_
  refine jk 1 (.d (.k2 (.i 5 (vi ((v1 + 1 : Nat) : Int)) .n))) ?_
  exact Vs.intro sy ⟨(v1 + 1),rfl,h⟩
 refine q5 ?_
 exact Vs.intro sy ⟨(),rfl,h⟩
set_option maxHeartbeats 1000000 in
theorem q214k (n : Nat) (a0 : List Task) (a1 : List Str) (r : Bool) (h : q98k n a0 a1 = some r) : FnL Tryz.prog 12 [eS 6 eTask a0,eS 1 vt a1] [] (vb r) [] := by
  dsimp only [q98k] at h
  refine FnL.ofS (ts := [4]) Tryz.call12 Tryz.func12 rfl rfl (Nat.le_of_ble_eq_true rfl) (Nat.le_of_ble_eq_true rfl) (fun j h => absurd h (Nat.not_lt_zero j)) ?_
  show TriE _ _ _ _ _ (St.mk [(0,eS 6 eTask a0),(1,eS 1 vt a1)] []) _
  refine TriE.seq ?_
  refine TriE.run [(0,eS 6 eTask a0),(1,eS 1 vt a1)] [] (by kernel_rfl) ?_
  refine TriE.seq ?_
  refine TriE.seq ?_
  refine TriE.regJ ?_
  obtain ⟨y1,hy1,h⟩ := bind_some h
  refine RegJ.op (Op1.call (y' := vb y1) (obx := []) (oby := []) (ob2 := []) _ _ (cz (I0 18 (.call 15 [])) (by kernel_rfl)) rfl (q246k n y1 hy1) [] (by kernel_rfl) (.cons rfl .nil) (by kernel_rfl) (by kernel_rfl) ObsRen.nil (by kernel_rfl) ObsRen.nil (by kernel_rfl)) ?_
  refine jrd 1 [(0,eS 6 eTask a0),(1,eS 1 vt a1),(19,vb (!y1))] [] (by kernel_rfl) rfl ?_
  refine TriE.cond (b := !y1) rfl (fun c1 => ?_) (fun c1 => ?_)
  · have h := cond_t h c1
    refine TriE.seq ?_
    refine TriE.run [(4,vb false)] [] (by kernel_rfl) ?_
    refine TriE.ret ?_
    have h := Option.some.inj h
    subst h
    exact DoneS.ret (S' := ⟨[(4,vb false)],[]⟩) Sees.refl rfl rfl
  have h := cond_f h c1
  refine TriE.skip ?_
  refine TriE.seq ?_
  refine TriE.seq ?_
  refine TriE.regJ ?_
  refine RegJ.run 1 [(0,eS 6 eTask a0),(1,eS 1 vt a1),(20,eS 6 eTask a0)] [] (by kernel_rfl) ?_
  obtain ⟨y2,hy2,h⟩ := bind_some h
  refine RegJ.op (Op1.call (y' := vb y2) (obx := []) (oby := []) (ob2 := []) _ _ (cz (I0 21 (.call 16 [(.t 20)])) (by kernel_rfl)) rfl (q254k n a0 y2 hy2) [] (by kernel_rfl) (.cons rfl (.cons rfl .nil)) (by kernel_rfl) (by kernel_rfl) ObsRen.nil (by kernel_rfl) ObsRen.nil (by kernel_rfl)) ?_
  refine RegJ.run 2 [(0,eS 6 eTask a0),(1,eS 1 vt a1),(23,vb (!y2))] [] (by kernel_rfl) ?_
  refine RegJ.op (Op1.valk (g := !(!y2)) (v := eS 1 vt a1) _ _ (cz (IG 24 (.mov (.t 1)) 23 false) (by kernel_rfl)) rfl (by kernel_rfl) (fun hg => (.cons rfl .nil))) ?_
  obtain ⟨y3,hy3,h⟩ := bind_some h
  refine RegJ.op (Op1.callg (g := !(!y2)) (y' := vb y3) (obx := []) _ _ (cz (IG 25 (.call 18 [(.t 24),(.c (.p (.int .i64 12)))]) 23 false) (by kernel_rfl)) rfl (fun hg => q181k n a1 12 y3 (gcall_some hy3 hg)) [] (fun hg => by kernel_rfl) (fun hg => (.cons rfl (.cons hg (.cons rfl .nil)))) (by kernel_rfl) (by kernel_rfl) ObsRen.nil (by kernel_rfl) (by kernel_rfl)) ?_
  refine RegJ.op (Op1.valk (g := !(!y2)) (v := vb (!y3)) _ _ (cz (IG 26 (.un .not (.t 25)) 23 false) (by kernel_rfl)) rfl (by kernel_rfl) (fun hg => (.cons hg .nil))) ?_
  refine RegJ.op (Op1.or (cz (I0 27 (.pick (.t 23) (.c (.p (.bool true))) (.t 26))) (by kernel_rfl)) rfl rfl (by first | exact hokO1 | exact hokO0 | simp)) ?_
  refine jd [(0,eS 6 eTask a0),(1,eS 1 vt a1),(27,vb ((!y2) || (!y3)))] (by kernel_rfl) rfl ?_
  refine TriE.cond (b := (!y2) || (!y3)) rfl (fun c2 => ?_) (fun c2 => ?_)
  · have h := cond_t h c2
    refine TriE.seq ?_
    refine TriE.run [(4,vb true)] [] (by kernel_rfl) ?_
    refine TriE.ret ?_
    have h := Option.some.inj h
    subst h
    exact DoneS.ret (S' := ⟨[(4,vb true)],[]⟩) Sees.refl rfl rfl
  have h := cond_f h c2
  refine TriE.skip ?_
  refine TriE.seq ?_
  refine TriE.regJ ?_
  refine RegJ.run 1 [(0,eS 6 eTask a0),(1,eS 1 vt a1),(29,eS 6 eTask a0)] [] (by kernel_rfl) ?_
  obtain ⟨y4,hy4,h⟩ := bind_some h
  refine RegJ.op (Op1.call (y' := eS 6 eTask y4) (obx := []) (oby := []) (ob2 := []) _ _ (cz (I0 30 (.call 21 [(.t 29)])) (by kernel_rfl)) rfl (q169k n a0 y4 hy4) [] (by kernel_rfl) (.cons rfl (.cons rfl .nil)) (by kernel_rfl) (by kernel_rfl) ObsRen.nil (by kernel_rfl) ObsRen.nil (by kernel_rfl)) ?_
  refine RegJ.run 1 [(0,eS 6 eTask a0),(1,eS 1 vt a1),(30,eS 6 eTask y4),(31,eS 1 vt a1)] [] (by kernel_rfl) ?_
  obtain ⟨y5,hy5,h⟩ := bind_some h
  refine RegJ.op (Op1.call (y' := .own 0 0 a1.length) (obx := []) (oby := [some (.row 1 (List.map vt a1))]) (ob2 := [some (.row 1 (List.map vt a1))]) _ _ (cz (I0 32 (.call 19 [(.t 31)])) (by kernel_rfl)) rfl (q51k n a1 y5 hy5) [] (by kernel_rfl) (.cons rfl (.cons rfl .nil)) (by kernel_rfl) (by kernel_rfl) ObsRen.nil (by kernel_rfl) (.same (row_ren vt_frz _ _ _) .nil) (by kernel_rfl)) ?_
  refine RegJ.sees (Sees.freeze 0 (fr' := [(0,eS 6 eTask a0),(1,eS 1 vt a1),(30,eS 6 eTask y4),(31,eS 1 vt a1),(32,eS 1 vt a1)]) (ob' := [none]) rfl (frz_row vt_frzE _) (.cons (.refl _) (.cons (.refl _) (.cons (.refl _) (.cons (.refl _) (.cons (frz_full rfl) .nil))))) rfl) ?_
  obtain ⟨y6,hy6,h⟩ := bind_some h
  refine RegJ.op (Op1.call (y' := .tup [eS 1 vt y6.2,vi y6.1]) (obx := []) (oby := []) (ob2 := [none]) _ _ (cz (I0 33 (.call 68 [(.t 30),(.t 32)])) (by kernel_rfl)) rfl (q225k n y4 a1 y6 hy6) [] (by kernel_rfl) (.cons rfl (.cons rfl (.cons rfl .nil))) (by kernel_rfl) (by kernel_rfl) ObsRen.nil (by kernel_rfl) ObsRen.nil (by kernel_rfl)) ?_
  refine jrd 5 [(0,eS 6 eTask a0),(1,eS 1 vt a1),(5,eS 1 vt y6.2),(6,vi y6.1)] [none] (by kernel_rfl) rfl ?_
  refine TriE.seq ?_
  refine TriE.regJ ?_
  refine RegJ.run 1 [(0,eS 6 eTask a0),(1,eS 1 vt a1),(5,eS 1 vt y6.2),(6,vi y6.1),(37,eS 6 eTask a0)] [none] (by kernel_rfl) ?_
  obtain ⟨y7,hy7,h⟩ := bind_some h
  refine RegJ.op (Op1.call (y' := eS 6 eTask y7) (obx := []) (oby := []) (ob2 := [none]) _ _ (cz (I0 38 (.call 21 [(.t 37)])) (by kernel_rfl)) rfl (q169k n a0 y7 hy7) [] (by kernel_rfl) (.cons rfl (.cons rfl .nil)) (by kernel_rfl) (by kernel_rfl) ObsRen.nil (by kernel_rfl) ObsRen.nil (by kernel_rfl)) ?_
  refine RegJ.run 1 [(0,eS 6 eTask a0),(1,eS 1 vt a1),(5,eS 1 vt y6.2),(6,vi y6.1),(38,eS 6 eTask y7),(39,eS 1 vt a1)] [none] (by kernel_rfl) ?_
  obtain ⟨y8,hy8,h⟩ := bind_some h
  refine RegJ.op (Op1.call (y' := .own 1 0 a1.length) (obx := []) (oby := [some (.row 1 (List.map vt a1))]) (ob2 := [none,some (.row 1 (List.map vt a1))]) _ _ (cz (I0 40 (.call 19 [(.t 39)])) (by kernel_rfl)) rfl (q51k n a1 y8 hy8) [] (by kernel_rfl) (.cons rfl (.cons rfl .nil)) (by kernel_rfl) (by kernel_rfl) ObsRen.nil (by kernel_rfl) (.same (row_ren vt_frz _ _ _) .nil) (by kernel_rfl)) ?_
  refine RegJ.sees (Sees.freeze 1 (fr' := [(0,eS 6 eTask a0),(1,eS 1 vt a1),(5,eS 1 vt y6.2),(6,vi y6.1),(38,eS 6 eTask y7),(39,eS 1 vt a1),(40,eS 1 vt a1)]) (ob' := [none,none]) rfl (frz_row vt_frzE _) (.cons (.refl _) (.cons (.refl _) (.cons (.refl _) (.cons (.refl _) (.cons (.refl _) (.cons (.refl _) (.cons (frz_full rfl) .nil))))))) rfl) ?_
  obtain ⟨y9,hy9,h⟩ := bind_some h
  refine RegJ.op (Op1.call (y' := .tup [vi y9.1,vi y9.2.1,vi y9.2.2]) (obx := []) (oby := []) (ob2 := [none,none]) _ _ (cz (I0 41 (.call 69 [(.t 38),(.t 40)])) (by kernel_rfl)) rfl (q259k n y7 a1 y9 hy9) [] (by kernel_rfl) (.cons rfl (.cons rfl (.cons rfl .nil))) (by kernel_rfl) (by kernel_rfl) ObsRen.nil (by kernel_rfl) ObsRen.nil (by kernel_rfl)) ?_
  refine jrd 7 [(0,eS 6 eTask a0),(1,eS 1 vt a1),(5,eS 1 vt y6.2),(6,vi y6.1),(7,vi y9.1),(8,vi y9.2.1),(9,vi y9.2.2)] [none,none] (by kernel_rfl) rfl ?_
  refine TriE.seq ?_
  refine TriE.regJ ?_
  refine RegJ.run 1 [(0,eS 6 eTask a0),(1,eS 1 vt a1),(5,eS 1 vt y6.2),(6,vi y6.1),(7,vi y9.1),(8,vi y9.2.1),(9,vi y9.2.2),(46,eS 6 eTask a0)] [none,none] (by kernel_rfl) ?_
  obtain ⟨y10,hy10,h⟩ := bind_some h
  refine RegJ.op (Op1.call (y' := eS 6 eTask y10) (obx := []) (oby := []) (ob2 := [none,none]) _ _ (cz (I0 47 (.call 21 [(.t 46)])) (by kernel_rfl)) rfl (q169k n a0 y10 hy10) [] (by kernel_rfl) (.cons rfl (.cons rfl .nil)) (by kernel_rfl) (by kernel_rfl) ObsRen.nil (by kernel_rfl) ObsRen.nil (by kernel_rfl)) ?_
  refine RegJ.run 1 [(0,eS 6 eTask a0),(1,eS 1 vt a1),(5,eS 1 vt y6.2),(6,vi y6.1),(7,vi y9.1),(8,vi y9.2.1),(9,vi y9.2.2),(47,eS 6 eTask y10),(48,eS 1 vt a1)] [none,none] (by kernel_rfl) ?_
  obtain ⟨y11,hy11,h⟩ := bind_some h
  refine RegJ.op (Op1.call (y' := .own 2 0 a1.length) (obx := []) (oby := [some (.row 1 (List.map vt a1))]) (ob2 := [none,none,some (.row 1 (List.map vt a1))]) _ _ (cz (I0 49 (.call 19 [(.t 48)])) (by kernel_rfl)) rfl (q51k n a1 y11 hy11) [] (by kernel_rfl) (.cons rfl (.cons rfl .nil)) (by kernel_rfl) (by kernel_rfl) ObsRen.nil (by kernel_rfl) (.same (row_ren vt_frz _ _ _) .nil) (by kernel_rfl)) ?_
  refine RegJ.sees (Sees.freeze 2 (fr' := [(0,eS 6 eTask a0),(1,eS 1 vt a1),(5,eS 1 vt y6.2),(6,vi y6.1),(7,vi y9.1),(8,vi y9.2.1),(9,vi y9.2.2),(47,eS 6 eTask y10),(48,eS 1 vt a1),(49,eS 1 vt a1)]) (ob' := [none,none,none]) rfl (frz_row vt_frzE _) (.cons (.refl _) (.cons (.refl _) (.cons (.refl _) (.cons (.refl _) (.cons (.refl _) (.cons (.refl _) (.cons (.refl _) (.cons (.refl _) (.cons (.refl _) (.cons (frz_full rfl) .nil)))))))))) rfl) ?_
  obtain ⟨y12,hy12,h⟩ := bind_some h
  refine RegJ.op (Op1.call (y' := .tup [eS 2 ePartCount y12.2,vi y12.1]) (obx := []) (oby := []) (ob2 := [none,none,none]) _ _ (cz (I0 50 (.call 65 [(.t 47),(.t 49)])) (by kernel_rfl)) rfl (q258k n y10 a1 y12 hy12) [] (by kernel_rfl) (.cons rfl (.cons rfl (.cons rfl .nil))) (by kernel_rfl) (by kernel_rfl) ObsRen.nil (by kernel_rfl) ObsRen.nil (by kernel_rfl)) ?_
  refine jrd 5 [(0,eS 6 eTask a0),(1,eS 1 vt a1),(5,eS 1 vt y6.2),(6,vi y6.1),(7,vi y9.1),(8,vi y9.2.1),(9,vi y9.2.2),(10,eS 2 ePartCount y12.2),(11,vi y12.1)] [none,none,none] (by kernel_rfl) rfl ?_
  refine TriE.seq ?_
  refine TriE.regJ ?_
  refine RegJ.run 1 [(0,eS 6 eTask a0),(1,eS 1 vt a1),(5,eS 1 vt y6.2),(6,vi y6.1),(7,vi y9.1),(8,vi y9.2.1),(9,vi y9.2.2),(10,eS 2 ePartCount y12.2),(11,vi y12.1),(53,eS 6 eTask a0)] [none,none,none] (by kernel_rfl) ?_
  obtain ⟨y13,hy13,h⟩ := bind_some h
  refine RegJ.op (Op1.call (y' := vi y13) (obx := []) (oby := []) (ob2 := [none,none,none]) _ _ (cz (I0 54 (.call 22 [(.t 53)])) (by kernel_rfl)) rfl (q218k n a0 y13 hy13) [] (by kernel_rfl) (.cons rfl (.cons rfl .nil)) (by kernel_rfl) (by kernel_rfl) ObsRen.nil (by kernel_rfl) ObsRen.nil (by kernel_rfl)) ?_
  refine jrd 1 [(0,eS 6 eTask a0),(1,eS 1 vt a1),(5,eS 1 vt y6.2),(6,vi y6.1),(7,vi y9.1),(8,vi y9.2.1),(9,vi y9.2.2),(10,eS 2 ePartCount y12.2),(11,vi y12.1),(12,vi y13)] [none,none,none] (by kernel_rfl) rfl ?_
  refine TriE.seqK h (fun (v15 : Int) => St.mk [(0,eS 6 eTask a0),(1,eS 1 vt a1),(5,eS 1 vt y6.2),(6,vi y6.1),(7,vi y9.1),(8,vi y9.2.1),(9,vi y9.2.2),(10,eS 2 ePartCount y12.2),(11,vi y12.1),(12,vi v15)] []) ?_ ?_
  · rintro v15 h
    show TriE _ _ _ _ _ (St.mk [(0,eS 6 eTask a0),(1,eS 1 vt a1),(5,eS 1 vt y6.2),(6,vi y6.1),(7,vi y9.1),(8,vi y9.2.1),(9,vi y9.2.2),(10,eS 2 ePartCount y12.2),(11,vi y12.1),(12,vi v15)] []) _
    refine TriE.seq ?_
    refine TriE.seq ?_
    refine TriE.run [(0,eS 6 eTask a0),(1,eS 1 vt a1),(5,eS 1 vt y6.2),(6,vi y6.1),(7,vi y9.1),(8,vi y9.2.1),(9,vi y9.2.2),(10,eS 2 ePartCount y12.2),(11,vi y12.1),(12,vi v15),(61,vb (v15 != (0 : Int)))] [] (by kernel_rfl) ?_
    refine TriE.cond (b := (v15 != (0 : Int))) rfl (fun c4 => ?_) (fun c4 => ?_)
    · have h := cond_t h c4
      refine TriE.seq ?_
      refine TriE.regJ ?_
      refine RegJ.run 4 [(5,eS 1 vt y6.2),(7,vi y9.1),(8,vi y9.2.1),(9,vi y9.2.2),(10,eS 2 ePartCount y12.2),(11,vi y12.1),(12,vi v15),(65,vb (y6.1 == v15))] [] (by kernel_rfl) ?_
      refine RegJ.op (Op1.valk (g := (y6.1 == v15)) (v := vi y9.2.2) _ _ (cz (IG 66 (.mov (.t 9)) 65 true) (by kernel_rfl)) rfl (by kernel_rfl) (fun hg => (.cons rfl .nil))) ?_
      refine RegJ.op (Op1.valk (g := (y6.1 == v15)) (v := vi v15) _ _ (cz (IG 67 (.mov (.t 12)) 65 true) (by kernel_rfl)) rfl (by kernel_rfl) (fun hg => (.cons rfl .nil))) ?_
      refine RegJ.op (Op1.valk (g := (y6.1 == v15)) (v := vb (y9.2.2 == v15)) _ _ (cz (IG 68 (.bin .eql false (.t 66) (.t 67)) 65 true) (by kernel_rfl)) rfl (by kernel_rfl) (fun hg => (.cons hg (.cons hg .nil)))) ?_
      refine RegJ.op (Op1.and (cz (I0 69 (.pick (.t 65) (.t 68) (.c (.p (.bool false))))) (by kernel_rfl)) rfl rfl (by first | exact hokA1 | exact hokA0 | simp)) ?_
      refine RegJ.run 1 [(5,eS 1 vt y6.2),(7,vi y9.1),(8,vi y9.2.1),(10,eS 2 ePartCount y12.2),(11,vi y12.1),(12,vi v15),(70,vb ((y6.1 == v15) && (y9.2.2 == v15)))] [] (by kernel_rfl) ?_
      refine RegJ.op (Op1.valk (g := (y6.1 == v15) && (y9.2.2 == v15)) (v := vi y12.1) _ _ (cz (IG 71 (.mov (.t 11)) 70 true) (by kernel_rfl)) rfl (by kernel_rfl) (fun hg => (.cons rfl .nil))) ?_
      refine RegJ.op (Op1.valk (g := (y6.1 == v15) && (y9.2.2 == v15)) (v := vi v15) _ _ (cz (IG 72 (.mov (.t 12)) 70 true) (by kernel_rfl)) rfl (by kernel_rfl) (fun hg => (.cons rfl .nil))) ?_
      refine RegJ.op (Op1.valk (g := (y6.1 == v15) && (y9.2.2 == v15)) (v := vb (y12.1 == v15)) _ _ (cz (IG 73 (.bin .eql false (.t 71) (.t 72)) 70 true) (by kernel_rfl)) rfl (by kernel_rfl) (fun hg => (.cons hg (.cons hg .nil)))) ?_
      refine RegJ.op (Op1.and (cz (I0 74 (.pick (.t 70) (.t 73) (.c (.p (.bool false))))) (by kernel_rfl)) rfl rfl (by first | exact hokA1 | exact hokA0 | simp)) ?_
      refine RegJ.run 1 [(5,eS 1 vt y6.2),(7,vi y9.1),(8,vi y9.2.1),(10,eS 2 ePartCount y12.2),(75,vb (((y6.1 == v15) && (y9.2.2 == v15)) && (y12.1 == v15)))] [] (by kernel_rfl) ?_
      refine RegJ.op (Op1.valk (g := ((y6.1 == v15) && (y9.2.2 == v15)) && (y12.1 == v15)) (v := eS 1 vt y6.2) _ _ (cz (IG 76 (.mov (.t 5)) 75 true) (by kernel_rfl)) rfl (by kernel_rfl) (fun hg => (.cons rfl .nil))) ?_
      refine RegJ.op (Op1.valg (g := ((y6.1 == v15) && (y9.2.2 == v15)) && (y12.1 == v15)) (v := vi ((y6.2.length : Nat) : Int)) _ _ (cz (IG 77 (.len 0 (.t 76)) 75 true) (by kernel_rfl)) rfl (fun hg => (ok_len_m rfl)) (fun hg => (.cons hg .nil))) ?_
      refine RegJ.op (Op1.valk (g := ((y6.1 == v15) && (y9.2.2 == v15)) && (y12.1 == v15)) (v := eS 2 ePartCount y12.2) _ _ (cz (IG 78 (.mov (.t 10)) 75 true) (by kernel_rfl)) rfl (by kernel_rfl) (fun hg => (.cons rfl .nil))) ?_
      refine RegJ.op (Op1.valg (g := ((y6.1 == v15) && (y9.2.2 == v15)) && (y12.1 == v15)) (v := vi ((y12.2.length : Nat) : Int)) _ _ (cz (IG 79 (.len 0 (.t 78)) 75 true) (by kernel_rfl)) rfl (fun hg => (ok_len_m rfl)) (fun hg => (.cons hg .nil))) ?_
      obtain ⟨c5,h⟩ := chk_some h
      refine RegJ.op (Op1.valg (g := ((y6.1 == v15) && (y9.2.2 == v15)) && (y12.1 == v15)) (v := vi ((y6.2.length + y12.2.length : Nat) : Int)) _ _ (cz (IG 80 (.bin .add false (.t 77) (.t 79)) 75 true) (by kernel_rfl)) rfl (fun hg => (r_addn (i := y6.2.length) (j := y12.2.length) rfl rfl (gor c5 hg))) (fun hg => (.cons hg (.cons hg .nil)))) ?_
      refine RegJ.op (Op1.valg (g := ((y6.1 == v15) && (y9.2.2 == v15)) && (y12.1 == v15)) (v := vb (decide ((y6.2.length + y12.2.length) = 0))) _ _ (cz (IG 81 (.bin .eql false (.t 80) (.c (.p (.int .i64 0)))) 75 true) (by kernel_rfl)) rfl (fun hg => (n_eql (i := y6.2.length + y12.2.length) (j := 0) rfl rfl)) (fun hg => (.cons hg (.cons rfl .nil)))) ?_
      refine RegJ.op (Op1.and (cz (I0 82 (.pick (.t 75) (.t 81) (.c (.p (.bool false))))) (by kernel_rfl)) rfl rfl (by first | exact hokA1 | exact hokA0 | simp)) ?_
      refine RegJ.run 1 [(7,vi y9.1),(8,vi y9.2.1),(83,vb ((((y6.1 == v15) && (y9.2.2 == v15)) && (y12.1 == v15)) && (decide ((y6.2.length + y12.2.length) = 0))))] [] (by kernel_rfl) ?_
      refine RegJ.op (Op1.valk (g := (((y6.1 == v15) && (y9.2.2 == v15)) && (y12.1 == v15)) && (decide ((y6.2.length + y12.2.length) = 0))) (v := vi y9.1) _ _ (cz (IG 84 (.mov (.t 7)) 83 true) (by kernel_rfl)) rfl (by kernel_rfl) (fun hg => (.cons rfl .nil))) ?_
      refine RegJ.op (Op1.valk (g := (((y6.1 == v15) && (y9.2.2 == v15)) && (y12.1 == v15)) && (decide ((y6.2.length + y12.2.length) = 0))) (v := vb (y9.1 == (0 : Int))) _ _ (cz (IG 85 (.bin .eql false (.t 84) (.c (.p (.int .i64 0)))) 83 true) (by kernel_rfl)) rfl (by kernel_rfl) (fun hg => (.cons hg (.cons rfl .nil)))) ?_
      refine RegJ.op (Op1.and (cz (I0 86 (.pick (.t 83) (.t 85) (.c (.p (.bool false))))) (by kernel_rfl)) rfl rfl (by first | exact hokA1 | exact hokA0 | simp)) ?_
      refine RegJ.run 1 [(8,vi y9.2.1),(87,vb (((((y6.1 == v15) && (y9.2.2 == v15)) && (y12.1 == v15)) && (decide ((y6.2.length + y12.2.length) = 0))) && (y9.1 == (0 : Int))))] [] (by kernel_rfl) ?_
      refine RegJ.op (Op1.valk (g := ((((y6.1 == v15) && (y9.2.2 == v15)) && (y12.1 == v15)) && (decide ((y6.2.length + y12.2.length) = 0))) && (y9.1 == (0 : Int))) (v := vi y9.2.1) _ _ (cz (IG 88 (.mov (.t 8)) 87 true) (by kernel_rfl)) rfl (by kernel_rfl) (fun hg => (.cons rfl .nil))) ?_
      refine RegJ.op (Op1.valk (g := ((((y6.1 == v15) && (y9.2.2 == v15)) && (y12.1 == v15)) && (decide ((y6.2.length + y12.2.length) = 0))) && (y9.1 == (0 : Int))) (v := vb (y9.2.1 == (0 : Int))) _ _ (cz (IG 89 (.bin .eql false (.t 88) (.c (.p (.int .i64 0)))) 87 true) (by kernel_rfl)) rfl (by kernel_rfl) (fun hg => (.cons hg (.cons rfl .nil)))) ?_
      refine RegJ.op (Op1.and (cz (I0 90 (.pick (.t 87) (.t 89) (.c (.p (.bool false))))) (by kernel_rfl)) rfl rfl (by first | exact hokA1 | exact hokA0 | simp)) ?_
      refine jrd 1 [(4,vb ((((((y6.1 == v15) && (y9.2.2 == v15)) && (y12.1 == v15)) && (decide ((y6.2.length + y12.2.length) = 0))) && (y9.1 == (0 : Int))) && (y9.2.1 == (0 : Int))))] [] (by kernel_rfl) rfl ?_
      refine TriE.ret ?_
      have h := Option.some.inj h
      subst h
      exact DoneS.ret (S' := ⟨[(4,vb ((((((y6.1 == v15) && (y9.2.2 == v15)) && (y12.1 == v15)) && (decide ((y6.2.length + y12.2.length) = 0))) && (y9.1 == (0 : Int))) && (y9.2.1 == (0 : Int))))],[]⟩) Sees.refl rfl rfl
    have h := cond_f h c4
    refine TriE.skip ?_
    refine TriE.seq ?_
    refine TriE.regJ ?_
    refine RegJ.run 2 [(0,eS 6 eTask a0),(1,eS 1 vt a1),(5,eS 1 vt y6.2),(6,vi y6.1),(7,vi y9.1),(8,vi y9.2.1),(9,vi y9.2.2),(10,eS 2 ePartCount y12.2),(11,vi y12.1),(92,eS 6 eTask a0),(93,eS 1 vt a1)] [] (by kernel_rfl) ?_
    obtain ⟨y16,hy16,h⟩ := bind_some h
    refine RegJ.op (Op1.call (y' := .tup [vi y16.1,vi y16.2]) (obx := []) (oby := []) (ob2 := []) _ _ (cz (I0 94 (.call 70 [(.t 92),(.t 93)])) (by kernel_rfl)) rfl (q247k n a0 a1 y16 hy16) [] (by kernel_rfl) (.cons rfl (.cons rfl (.cons rfl .nil))) (by kernel_rfl) (by kernel_rfl) ObsRen.nil (by kernel_rfl) ObsRen.nil (by kernel_rfl)) ?_
    refine jrd 5 [(0,eS 6 eTask a0),(1,eS 1 vt a1),(5,eS 1 vt y6.2),(6,vi y6.1),(7,vi y9.1),(8,vi y9.2.1),(9,vi y9.2.2),(10,eS 2 ePartCount y12.2),(11,vi y12.1),(13,vi y16.1),(14,vi y16.2)] [] (by kernel_rfl) rfl ?_
    refine TriE.seq ?_
    refine TriE.seq ?_
    refine TriE.regJ ?_
    refine RegJ.run 3 [(0,eS 6 eTask a0),(1,eS 1 vt a1),(5,eS 1 vt y6.2),(7,vi y9.1),(8,vi y9.2.1),(9,vi y9.2.2),(10,eS 2 ePartCount y12.2),(11,vi y12.1),(13,vi y16.1),(14,vi y16.2),(99,vb (y6.1 != (0 : Int)))] [] (by kernel_rfl) ?_
    refine RegJ.op (Op1.valk (g := !(y6.1 != (0 : Int))) (v := vi y9.2.2) _ _ (cz (IG 100 (.mov (.t 9)) 99 false) (by kernel_rfl)) rfl (by kernel_rfl) (fun hg => (.cons rfl .nil))) ?_
    refine RegJ.op (Op1.valk (g := !(y6.1 != (0 : Int))) (v := vb (y9.2.2 != (0 : Int))) _ _ (cz (IG 101 (.bin .neq false (.t 100) (.c (.p (.int .i64 0)))) 99 false) (by kernel_rfl)) rfl (by kernel_rfl) (fun hg => (.cons hg (.cons rfl .nil)))) ?_
    refine RegJ.op (Op1.or (cz (I0 102 (.pick (.t 99) (.c (.p (.bool true))) (.t 101))) (by kernel_rfl)) rfl rfl (by first | exact hokO1 | exact hokO0 | simp)) ?_
    refine RegJ.run 1 [(0,eS 6 eTask a0),(1,eS 1 vt a1),(5,eS 1 vt y6.2),(7,vi y9.1),(8,vi y9.2.1),(10,eS 2 ePartCount y12.2),(11,vi y12.1),(13,vi y16.1),(14,vi y16.2),(103,vb ((y6.1 != (0 : Int)) || (y9.2.2 != (0 : Int))))] [] (by kernel_rfl) ?_
    refine RegJ.op (Op1.valk (g := !((y6.1 != (0 : Int)) || (y9.2.2 != (0 : Int)))) (v := vi y12.1) _ _ (cz (IG 104 (.mov (.t 11)) 103 false) (by kernel_rfl)) rfl (by kernel_rfl) (fun hg => (.cons rfl .nil))) ?_
    refine RegJ.op (Op1.valk (g := !((y6.1 != (0 : Int)) || (y9.2.2 != (0 : Int)))) (v := vb (y12.1 != (0 : Int))) _ _ (cz (IG 105 (.bin .neq false (.t 104) (.c (.p (.int .i64 0)))) 103 false) (by kernel_rfl)) rfl (by kernel_rfl) (fun hg => (.cons hg (.cons rfl .nil)))) ?_
    refine RegJ.op (Op1.or (cz (I0 106 (.pick (.t 103) (.c (.p (.bool true))) (.t 105))) (by kernel_rfl)) rfl rfl (by first | exact hokO1 | exact hokO0 | simp)) ?_
    refine RegJ.run 1 [(0,eS 6 eTask a0),(1,eS 1 vt a1),(5,eS 1 vt y6.2),(7,vi y9.1),(8,vi y9.2.1),(10,eS 2 ePartCount y12.2),(13,vi y16.1),(14,vi y16.2),(107,vb (((y6.1 != (0 : Int)) || (y9.2.2 != (0 : Int))) || (y12.1 != (0 : Int))))] [] (by kernel_rfl) ?_
    refine RegJ.op (Op1.valk (g := !(((y6.1 != (0 : Int)) || (y9.2.2 != (0 : Int))) || (y12.1 != (0 : Int)))) (v := eS 1 vt y6.2) _ _ (cz (IG 108 (.mov (.t 5)) 107 false) (by kernel_rfl)) rfl (by kernel_rfl) (fun hg => (.cons rfl .nil))) ?_
    refine RegJ.op (Op1.valk (g := !(((y6.1 != (0 : Int)) || (y9.2.2 != (0 : Int))) || (y12.1 != (0 : Int)))) (v := eS 6 eTask a0) _ _ (cz (IG 109 (.mov (.t 0)) 107 false) (by kernel_rfl)) rfl (by kernel_rfl) (fun hg => (.cons rfl .nil))) ?_
    refine RegJ.op (Op1.valk (g := !(((y6.1 != (0 : Int)) || (y9.2.2 != (0 : Int))) || (y12.1 != (0 : Int)))) (v := eS 1 vt a1) _ _ (cz (IG 110 (.mov (.t 1)) 107 false) (by kernel_rfl)) rfl (by kernel_rfl) (fun hg => (.cons rfl .nil))) ?_
    obtain ⟨y17,hy17,h⟩ := bind_some h
    refine RegJ.op (Op1.callg (g := !(((y6.1 != (0 : Int)) || (y9.2.2 != (0 : Int))) || (y12.1 != (0 : Int)))) (y' := eS 1 vt y17) (obx := []) _ _ (cz (IG 111 (.call 71 [(.t 109),(.t 110)]) 107 false) (by kernel_rfl)) rfl (fun hg => q184k n a0 a1 y17 (gcall_some hy17 hg)) [] (fun hg => by kernel_rfl) (fun hg => (.cons rfl (.cons hg (.cons hg .nil)))) (by kernel_rfl) (by kernel_rfl) ObsRen.nil (by kernel_rfl) (by kernel_rfl)) ?_
    obtain ⟨y18,hy18,h⟩ := bind_some h
    refine RegJ.op (Op1.callg (g := !(((y6.1 != (0 : Int)) || (y9.2.2 != (0 : Int))) || (y12.1 != (0 : Int)))) (y' := vb y18) (obx := []) _ _ (cz (IG 112 (.call 31 [(.t 108),(.t 111)]) 107 false) (by kernel_rfl)) rfl (fun hg => q252k n y6.2 y17 y18 (gcall_some hy18 hg)) [] (fun hg => by kernel_rfl) (fun hg => (.cons rfl (.cons hg (.cons hg .nil)))) (by kernel_rfl) (by kernel_rfl) ObsRen.nil (by kernel_rfl) (by kernel_rfl)) ?_
    refine RegJ.op (Op1.valk (g := !(((y6.1 != (0 : Int)) || (y9.2.2 != (0 : Int))) || (y12.1 != (0 : Int)))) (v := vb (!y18)) _ _ (cz (IG 113 (.un .not (.t 112)) 107 false) (by kernel_rfl)) rfl (by kernel_rfl) (fun hg => (.cons hg .nil))) ?_
    refine RegJ.op (Op1.or (cz (I0 114 (.pick (.t 107) (.c (.p (.bool true))) (.t 113))) (by kernel_rfl)) rfl rfl (by first | exact hokO1 | exact hokO0 | simp)) ?_
    refine RegJ.run 1 [(0,eS 6 eTask a0),(1,eS 1 vt a1),(5,eS 1 vt y6.2),(7,vi y9.1),(8,vi y9.2.1),(10,eS 2 ePartCount y12.2),(13,vi y16.1),(14,vi y16.2),(115,vb ((((y6.1 != (0 : Int)) || (y9.2.2 != (0 : Int))) || (y12.1 != (0 : Int))) || (!y18)))] [] (by kernel_rfl) ?_
    refine RegJ.op (Op1.valk (g := !((((y6.1 != (0 : Int)) || (y9.2.2 != (0 : Int))) || (y12.1 != (0 : Int))) || (!y18))) (v := vi y9.1) _ _ (cz (IG 116 (.mov (.t 7)) 115 false) (by kernel_rfl)) rfl (by kernel_rfl) (fun hg => (.cons rfl .nil))) ?_
    refine RegJ.op (Op1.valk (g := !((((y6.1 != (0 : Int)) || (y9.2.2 != (0 : Int))) || (y12.1 != (0 : Int))) || (!y18))) (v := vi y16.1) _ _ (cz (IG 117 (.mov (.t 13)) 115 false) (by kernel_rfl)) rfl (by kernel_rfl) (fun hg => (.cons rfl .nil))) ?_
    refine RegJ.op (Op1.valk (g := !((((y6.1 != (0 : Int)) || (y9.2.2 != (0 : Int))) || (y12.1 != (0 : Int))) || (!y18))) (v := vb (y9.1 != y16.1)) _ _ (cz (IG 118 (.bin .neq false (.t 116) (.t 117)) 115 false) (by kernel_rfl)) rfl (by kernel_rfl) (fun hg => (.cons hg (.cons hg .nil)))) ?_
    refine RegJ.op (Op1.or (cz (I0 119 (.pick (.t 115) (.c (.p (.bool true))) (.t 118))) (by kernel_rfl)) rfl rfl (by first | exact hokO1 | exact hokO0 | simp)) ?_
    refine RegJ.run 1 [(0,eS 6 eTask a0),(1,eS 1 vt a1),(5,eS 1 vt y6.2),(7,vi y9.1),(8,vi y9.2.1),(10,eS 2 ePartCount y12.2),(14,vi y16.2),(120,vb (((((y6.1 != (0 : Int)) || (y9.2.2 != (0 : Int))) || (y12.1 != (0 : Int))) || (!y18)) || (y9.1 != y16.1)))] [] (by kernel_rfl) ?_
    refine RegJ.op (Op1.valk (g := !(((((y6.1 != (0 : Int)) || (y9.2.2 != (0 : Int))) || (y12.1 != (0 : Int))) || (!y18)) || (y9.1 != y16.1))) (v := vi y9.2.1) _ _ (cz (IG 121 (.mov (.t 8)) 120 false) (by kernel_rfl)) rfl (by kernel_rfl) (fun hg => (.cons rfl .nil))) ?_
    refine RegJ.op (Op1.valk (g := !(((((y6.1 != (0 : Int)) || (y9.2.2 != (0 : Int))) || (y12.1 != (0 : Int))) || (!y18)) || (y9.1 != y16.1))) (v := vi y16.2) _ _ (cz (IG 122 (.mov (.t 14)) 120 false) (by kernel_rfl)) rfl (by kernel_rfl) (fun hg => (.cons rfl .nil))) ?_
    refine RegJ.op (Op1.valk (g := !(((((y6.1 != (0 : Int)) || (y9.2.2 != (0 : Int))) || (y12.1 != (0 : Int))) || (!y18)) || (y9.1 != y16.1))) (v := vb (y9.2.1 != y16.2)) _ _ (cz (IG 123 (.bin .neq false (.t 121) (.t 122)) 120 false) (by kernel_rfl)) rfl (by kernel_rfl) (fun hg => (.cons hg (.cons hg .nil)))) ?_
    refine RegJ.op (Op1.or (cz (I0 124 (.pick (.t 120) (.c (.p (.bool true))) (.t 123))) (by kernel_rfl)) rfl rfl (by first | exact hokO1 | exact hokO0 | simp)) ?_
    refine RegJ.run 1 [(0,eS 6 eTask a0),(1,eS 1 vt a1),(5,eS 1 vt y6.2),(7,vi y9.1),(8,vi y9.2.1),(10,eS 2 ePartCount y12.2),(125,vb ((((((y6.1 != (0 : Int)) || (y9.2.2 != (0 : Int))) || (y12.1 != (0 : Int))) || (!y18)) || (y9.1 != y16.1)) || (y9.2.1 != y16.2)))] [] (by kernel_rfl) ?_
    refine RegJ.op (Op1.valk (g := !((((((y6.1 != (0 : Int)) || (y9.2.2 != (0 : Int))) || (y12.1 != (0 : Int))) || (!y18)) || (y9.1 != y16.1)) || (y9.2.1 != y16.2))) (v := vi y9.2.1) _ _ (cz (IG 126 (.mov (.t 8)) 125 false) (by kernel_rfl)) rfl (by kernel_rfl) (fun hg => (.cons rfl .nil))) ?_
    refine RegJ.op (Op1.valk (g := !((((((y6.1 != (0 : Int)) || (y9.2.2 != (0 : Int))) || (y12.1 != (0 : Int))) || (!y18)) || (y9.1 != y16.1)) || (y9.2.1 != y16.2))) (v := vi y9.1) _ _ (cz (IG 127 (.mov (.t 7)) 125 false) (by kernel_rfl)) rfl (by kernel_rfl) (fun hg => (.cons rfl .nil))) ?_
    refine RegJ.op (Op1.valk (g := !((((((y6.1 != (0 : Int)) || (y9.2.2 != (0 : Int))) || (y12.1 != (0 : Int))) || (!y18)) || (y9.1 != y16.1)) || (y9.2.1 != y16.2))) (v := vb (decide (y9.1 < y9.2.1))) _ _ (cz (IG 128 (.bin .gtr false (.t 126) (.t 127)) 125 false) (by kernel_rfl)) rfl (by kernel_rfl) (fun hg => (.cons hg (.cons hg .nil)))) ?_
    refine RegJ.op (Op1.or (cz (I0 129 (.pick (.t 125) (.c (.p (.bool true))) (.t 128))) (by kernel_rfl)) rfl rfl (by first | exact hokO1 | exact hokO0 | simp)) ?_
    refine RegJ.run 1 [(0,eS 6 eTask a0),(1,eS 1 vt a1),(5,eS 1 vt y6.2),(10,eS 2 ePartCount y12.2),(130,vb (((((((y6.1 != (0 : Int)) || (y9.2.2 != (0 : Int))) || (y12.1 != (0 : Int))) || (!y18)) || (y9.1 != y16.1)) || (y9.2.1 != y16.2)) || (decide (y9.1 < y9.2.1))))] [] (by kernel_rfl) ?_
    refine RegJ.op (Op1.valk (g := !(((((((y6.1 != (0 : Int)) || (y9.2.2 != (0 : Int))) || (y12.1 != (0 : Int))) || (!y18)) || (y9.1 != y16.1)) || (y9.2.1 != y16.2)) || (decide (y9.1 < y9.2.1)))) (v := eS 2 ePartCount y12.2) _ _ (cz (IG 131 (.mov (.t 10)) 130 false) (by kernel_rfl)) rfl (by kernel_rfl) (fun hg => (.cons rfl .nil))) ?_
    refine RegJ.op (Op1.valk (g := !(((((((y6.1 != (0 : Int)) || (y9.2.2 != (0 : Int))) || (y12.1 != (0 : Int))) || (!y18)) || (y9.1 != y16.1)) || (y9.2.1 != y16.2)) || (decide (y9.1 < y9.2.1)))) (v := eS 6 eTask a0) _ _ (cz (IG 132 (.mov (.t 0)) 130 false) (by kernel_rfl)) rfl (by kernel_rfl) (fun hg => (.cons rfl .nil))) ?_
    refine RegJ.op (Op1.valk (g := !(((((((y6.1 != (0 : Int)) || (y9.2.2 != (0 : Int))) || (y12.1 != (0 : Int))) || (!y18)) || (y9.1 != y16.1)) || (y9.2.1 != y16.2)) || (decide (y9.1 < y9.2.1)))) (v := eS 1 vt a1) _ _ (cz (IG 133 (.mov (.t 1)) 130 false) (by kernel_rfl)) rfl (by kernel_rfl) (fun hg => (.cons rfl .nil))) ?_
    obtain ⟨y19,hy19,h⟩ := bind_some h
    refine RegJ.op (Op1.callg (g := !(((((((y6.1 != (0 : Int)) || (y9.2.2 != (0 : Int))) || (y12.1 != (0 : Int))) || (!y18)) || (y9.1 != y16.1)) || (y9.2.1 != y16.2)) || (decide (y9.1 < y9.2.1)))) (y' := eS 2 ePartCount y19) (obx := []) _ _ (cz (IG 134 (.call 72 [(.t 132),(.t 133)]) 130 false) (by kernel_rfl)) rfl (fun hg => q236k n a0 a1 y19 (gcall_some hy19 hg)) [] (fun hg => by kernel_rfl) (fun hg => (.cons rfl (.cons hg (.cons hg .nil)))) (by kernel_rfl) (by kernel_rfl) ObsRen.nil (by kernel_rfl) (by kernel_rfl)) ?_
    obtain ⟨y20,hy20,h⟩ := bind_some h
    refine RegJ.op (Op1.callg (g := !(((((((y6.1 != (0 : Int)) || (y9.2.2 != (0 : Int))) || (y12.1 != (0 : Int))) || (!y18)) || (y9.1 != y16.1)) || (y9.2.1 != y16.2)) || (decide (y9.1 < y9.2.1)))) (y' := vb y20) (obx := []) _ _ (cz (IG 135 (.call 37 [(.t 131),(.t 134)]) 130 false) (by kernel_rfl)) rfl (fun hg => q217k n y12.2 y19 y20 (gcall_some hy20 hg)) [] (fun hg => by kernel_rfl) (fun hg => (.cons rfl (.cons hg (.cons hg .nil)))) (by kernel_rfl) (by kernel_rfl) ObsRen.nil (by kernel_rfl) (by kernel_rfl)) ?_
    refine RegJ.op (Op1.valk (g := !(((((((y6.1 != (0 : Int)) || (y9.2.2 != (0 : Int))) || (y12.1 != (0 : Int))) || (!y18)) || (y9.1 != y16.1)) || (y9.2.1 != y16.2)) || (decide (y9.1 < y9.2.1)))) (v := vb (!y20)) _ _ (cz (IG 136 (.un .not (.t 135)) 130 false) (by kernel_rfl)) rfl (by kernel_rfl) (fun hg => (.cons hg .nil))) ?_
    refine RegJ.op (Op1.or (cz (I0 137 (.pick (.t 130) (.c (.p (.bool true))) (.t 136))) (by kernel_rfl)) rfl rfl (by first | exact hokO1 | exact hokO0 | simp)) ?_
    refine jd [(0,eS 6 eTask a0),(5,eS 1 vt y6.2),(137,vb ((((((((y6.1 != (0 : Int)) || (y9.2.2 != (0 : Int))) || (y12.1 != (0 : Int))) || (!y18)) || (y9.1 != y16.1)) || (y9.2.1 != y16.2)) || (decide (y9.1 < y9.2.1))) || (!y20)))] (by kernel_rfl) rfl ?_
    refine TriE.cond (b := (((((((y6.1 != (0 : Int)) || (y9.2.2 != (0 : Int))) || (y12.1 != (0 : Int))) || (!y18)) || (y9.1 != y16.1)) || (y9.2.1 != y16.2)) || (decide (y9.1 < y9.2.1))) || (!y20)) rfl (fun c6 => ?_) (fun c6 => ?_)
    · have h := cond_t h c6
      refine TriE.seq ?_
      refine TriE.run [(4,vb false)] [] (by kernel_rfl) ?_
      refine TriE.ret ?_
      have h := Option.some.inj h
      subst h
      exact DoneS.ret (S' := ⟨[(4,vb false)],[]⟩) Sees.refl rfl rfl
    have h := cond_f h c6
    refine TriE.skip ?_
    refine TriE.seqK h (fun (_ : Unit) => St.mk [] []) ?_ ?_
    · rintro ⟨⟩ h
      show TriE _ _ _ _ _ (St.mk [] []) _
      refine TriE.seq ?_
      refine TriE.run [(4,vb true)] [] (by kernel_rfl) ?_
      refine TriE.ret ?_
      have h := Option.some.inj h
      subst h
      exact DoneS.ret (S' := ⟨[(4,vb true)],[]⟩) Sees.refl rfl rfl
    intro k3 h
    refine TriE.seq ?_
    refine TriE.run [(0,eS 6 eTask a0),(5,eS 1 vt y6.2),(15,vi 0)] [] (by kernel_rfl) ?_
    refine TriE.block ?_
    refine TriE.sees (S' := ⟨[(0,eS 6 eTask a0),(5,eS 1 vt y6.2),(15,vi ((0 : Nat) : Int))],[]⟩) (sl (by kernel_rfl)) ?_
    refine TriE.loopN h (fun (v26 : Nat) => St.mk [(0,eS 6 eTask a0),(5,eS 1 vt y6.2),(15,vi ((v26 : Nat) : Int))] []) rfl ?_
    clear h
    rintro back v26 h
    dsimp only [q66k] at h
    show TriE _ _ _ _ _ (St.mk [(0,eS 6 eTask a0),(5,eS 1 vt y6.2),(15,vi ((v26 : Nat) : Int))] []) _
    refine TriE.seq ?_
    refine TriE.seq ?_
    refine TriE.regJ ?_
    refine RegJ.run 2 [(0,eS 6 eTask a0),(5,eS 1 vt y6.2),(15,vi ((v26 : Nat) : Int)),(138,vi ((v26 : Nat) : Int)),(139,eS 1 vt y6.2)] [] (by kernel_rfl) ?_
    refine jv (vi ((y6.2.length : Nat) : Int)) (cz (I0 140 (.len 0 (.t 139))) (by kernel_rfl)) (ok_len_m rfl) rfl ?_
    refine jv (vb (decide (v26 < y6.2.length))) (cz (I0 141 (.bin .lss false (.t 138) (.t 140))) (by kernel_rfl)) (n_lss (i := v26) (j := y6.2.length) rfl rfl) rfl ?_
    refine jd [(0,eS 6 eTask a0),(5,eS 1 vt y6.2),(15,vi ((v26 : Nat) : Int)),(141,vb (decide (v26 < y6.2.length)))] (by kernel_rfl) rfl ?_
    refine TriE.cond (b := decide (v26 < y6.2.length)) rfl (fun c7 => ?_) (fun c7 => ?_)
    · have h := cond_t h c7
      refine TriE.skip ?_
      refine TriE.seqK h (fun (_ : Unit) => St.mk [(0,eS 6 eTask a0),(5,eS 1 vt y6.2),(15,vi ((v26 : Nat) : Int))] []) ?_ ?_
      · rintro ⟨⟩ h
        show TriE _ _ _ _ _ (St.mk [(0,eS 6 eTask a0),(5,eS 1 vt y6.2),(15,vi ((v26 : Nat) : Int))] []) _
        refine TriE.regJ ?_
        refine RegJ.run 1 [(0,eS 6 eTask a0),(5,eS 1 vt y6.2),(142,vi ((v26 : Nat) : Int))] [] (by kernel_rfl) ?_
        obtain ⟨c14,h⟩ := chk_some h
        refine jv (vi ((v26 + 1 : Nat) : Int)) (cz (I0 143 (.bin .add false (.t 142) (.c (.p (.int .i64 1))))) (by kernel_rfl)) (r_addn (i := v26) (j := 1) rfl rfl c14) rfl ?_
        refine jrd 1 [(0,eS 6 eTask a0),(5,eS 1 vt y6.2),(15,vi ((v26 + 1 : Nat) : Int))] [] (by kernel_rfl) rfl ?_
        exact Vs.intro (sl (by kernel_rfl)) ⟨(v26 + 1),rfl,h⟩
      intro k2 h
      refine TriE.block ?_
      refine TriE.seq ?_
      refine TriE.regJ ?_
      refine RegJ.run 4 [(0,eS 6 eTask a0),(5,eS 1 vt y6.2),(15,vi ((v26 : Nat) : Int)),(144,eS 6 eTask a0),(145,eS 6 eTask a0),(146,eS 1 vt y6.2),(147,vi ((v26 : Nat) : Int))] [] (by kernel_rfl) ?_
      refine jv (.fptr 1 (List.map vt y6.2) v26 0) (cz (I0 148 (.iaddr 1 (.t 146) (.t 147))) (by kernel_rfl)) (ok_iaddr_m (j := v26) rfl rfl rfl c7) rfl ?_
      refine jv (vt (ix y6.2 v26)) (cz (I0 149 (.load false 1 (.t 148))) (by kernel_rfl)) (ok_load_fm (v := vt (ix y6.2 v26)) rfl c7 rfl) rfl ?_
      obtain ⟨y27,hy27,h⟩ := bind_some h
      refine RegJ.op (Op1.call (y' := vi y27) (obx := []) (oby := []) (ob2 := []) _ _ (cz (I0 150 (.call 66 [(.t 145),(.t 149)])) (by kernel_rfl)) rfl (q44k n a0 (ix y6.2 v26) y27 hy27) [] (by kernel_rfl) (.cons rfl (.cons rfl (.cons rfl .nil))) (by kernel_rfl) (by kernel_rfl) ObsRen.nil (by kernel_rfl) ObsRen.nil (by kernel_rfl)) ?_
      obtain ⟨c8,h⟩ := chk_some h
      refine jv (.fptr 6 (List.map eTask a0) y27.toNat 0) (cz (I0 151 (.iaddr 6 (.t 144) (.t 150))) (by kernel_rfl)) (ok_iaddr_m (j := y27.toNat) rfl rfl (inB_to c8) (inB_lt c8)) rfl ?_
      obtain ⟨c9,h⟩ := chk_some h
      refine jv (.agg [vt ((ix a0 y27.toNat).Name),vi ((ix a0 y27.toNat).Cents),vi ((ix a0 y27.toNat).Hours),eS 1 vt ((ix a0 y27.toNat).Needs),eS 1 (eS 1 vt) ((ix a0 y27.toNat).OneOf),eS 2 ePartCount ((ix a0 y27.toNat).Parts)]) (cz (I0 152 (.load true 6 (.t 151))) (by kernel_rfl)) (ok_load_fm (v := .agg [vt ((ix a0 y27.toNat).Name),vi ((ix a0 y27.toNat).Cents),vi ((ix a0 y27.toNat).Hours),eS 1 vt ((ix a0 y27.toNat).Needs),eS 1 (eS 1 vt) ((ix a0 y27.toNat).OneOf),eS 2 ePartCount ((ix a0 y27.toNat).Parts)]) rfl c9 rfl) rfl ?_
      obtain ⟨y28,hy28,h⟩ := bind_some h
      refine RegJ.op (Op1.call (y' := eS 1 vt y28) (obx := []) (oby := []) (ob2 := []) _ _ (cz (I0 153 (.call 73 [(.t 152)])) (by kernel_rfl)) rfl (q182k n (ix a0 y27.toNat) y28 hy28) [] (by kernel_rfl) (.cons rfl (.cons rfl .nil)) (by kernel_rfl) (by kernel_rfl) ObsRen.nil (by kernel_rfl) ObsRen.nil (by kernel_rfl)) ?_
      refine jrd 1 [(0,eS 6 eTask a0),(5,eS 1 vt y6.2),(15,vi ((v26 : Nat) : Int)),(16,eS 1 vt y28)] [] (by kernel_rfl) rfl ?_
      refine TriE.seq ?_
      refine TriE.run [(0,eS 6 eTask a0),(5,eS 1 vt y6.2),(15,vi ((v26 : Nat) : Int)),(16,eS 1 vt y28),(17,vi 0)] [] (by kernel_rfl) ?_
      refine TriE.block ?_
      refine TriE.sees (S' := ⟨[(0,eS 6 eTask a0),(5,eS 1 vt y6.2),(15,vi ((v26 : Nat) : Int)),(16,eS 1 vt y28),(17,vi ((0 : Nat) : Int))],[]⟩) (sl (by kernel_rfl)) ?_
      refine TriE.loopN h (fun (v30 : Nat) => St.mk [(0,eS 6 eTask a0),(5,eS 1 vt y6.2),(15,vi ((v26 : Nat) : Int)),(16,eS 1 vt y28),(17,vi ((v30 : Nat) : Int))] []) rfl ?_
      clear h
      rintro back v30 h
      dsimp only [q65k] at h
      show TriE _ _ _ _ _ (St.mk [(0,eS 6 eTask a0),(5,eS 1 vt y6.2),(15,vi ((v26 : Nat) : Int)),(16,eS 1 vt y28),(17,vi ((v30 : Nat) : Int))] []) _
      refine TriE.seq ?_
      refine TriE.seq ?_
      refine TriE.regJ ?_
      refine RegJ.run 2 [(0,eS 6 eTask a0),(5,eS 1 vt y6.2),(15,vi ((v26 : Nat) : Int)),(16,eS 1 vt y28),(17,vi ((v30 : Nat) : Int)),(154,vi ((v30 : Nat) : Int)),(155,eS 1 vt y28)] [] (by kernel_rfl) ?_
      refine jv (vi ((y28.length : Nat) : Int)) (cz (I0 156 (.len 0 (.t 155))) (by kernel_rfl)) (ok_len_m rfl) rfl ?_
      refine jv (vb (decide (v30 < y28.length))) (cz (I0 157 (.bin .lss false (.t 154) (.t 156))) (by kernel_rfl)) (n_lss (i := v30) (j := y28.length) rfl rfl) rfl ?_
      refine jd [(0,eS 6 eTask a0),(5,eS 1 vt y6.2),(15,vi ((v26 : Nat) : Int)),(16,eS 1 vt y28),(17,vi ((v30 : Nat) : Int)),(157,vb (decide (v30 < y28.length)))] (by kernel_rfl) rfl ?_
      refine TriE.cond (b := decide (v30 < y28.length)) rfl (fun c10 => ?_) (fun c10 => ?_)
      · have h := cond_t h c10
        refine TriE.skip ?_
        refine TriE.seq ?_
        refine TriE.block ?_
        refine TriE.seq ?_
        refine TriE.sees (Sees.less (fr' := [(0,eS 6 eTask a0),(5,eS 1 vt y6.2),(15,vi ((v26 : Nat) : Int)),(16,eS 1 vt y28),(17,vi ((v30 : Nat) : Int))]) (.cons rfl (.cons rfl (.cons rfl (.cons rfl (.cons rfl .nil)))))) ?_
        refine TriE.draw (by kernel_rfl) ?_
        refine RegD.run 2 [(161,vi ((v26 : Nat) : Int)),(160,eS 1 vt y6.2),(0,eS 6 eTask a0),(5,eS 1 vt y6.2),(15,vi ((v26 : Nat) : Int)),(16,eS 1 vt y28),(17,vi ((v30 : Nat) : Int))] [none,none] (by kernel_rfl) ?_
        obtain ⟨c11,h⟩ := chk_some h
        refine dv (eS 1 vt (List.drop v26 y6.2)) (cz (I0 162 (.slc 1 (.t 160) (some (.t 161)) none none)) (by kernel_rfl)) (ok_slc_lo (j := v26) rfl rfl rfl c11) rfl ?_
        refine RegD.run 2 [(164,vi ((v30 : Nat) : Int)),(163,eS 1 vt y28),(162,eS 1 vt (List.drop v26 y6.2)),(161,vi ((v26 : Nat) : Int)),(160,eS 1 vt y6.2),(0,eS 6 eTask a0),(5,eS 1 vt y6.2),(15,vi ((v26 : Nat) : Int)),(16,eS 1 vt y28),(17,vi ((v30 : Nat) : Int))] [none,none,none,none,none] (by kernel_rfl) ?_
        refine dv (.fptr 1 (List.map vt y28) v30 0) (cz (I0 165 (.iaddr 1 (.t 163) (.t 164))) (by kernel_rfl)) (ok_iaddr_m (j := v30) rfl rfl rfl c10) rfl ?_
        refine dv (vt (ix y28 v30)) (cz (I0 166 (.load false 1 (.t 165))) (by kernel_rfl)) (ok_load_fm (v := vt (ix y28 v30)) rfl c10 rfl) rfl ?_
        obtain ⟨y31,hy31,h⟩ := bind_some h
        refine RegD.op (OpD.call (y' := vb y31) (obx := []) (oby := []) (ob2 := [none,none,none,none,none,none,none,none]) (tch := []) 0 _ _ (cz (I0 167 (.call 74 [(.t 162),(.t 166)])) (by kernel_rfl)) (q86k n (List.drop v26 y6.2) (ix y28 v30) y31 hy31) [] (by kernel_rfl) (.cons rfl (.cons rfl (.cons rfl .nil))) (by kernel_rfl) (by kernel_rfl) ObsRen.nil (by kernel_rfl) ObsRen.nil (by kernel_rfl) rfl (.inr ⟨rfl,rfl⟩)) ?_
        refine RegD.done rfl (by kernel_rfl) (S' := ⟨[(0,eS 6 eTask a0),(5,eS 1 vt y6.2),(15,vi ((v26 : Nat) : Int)),(16,eS 1 vt y28),(17,vi ((v30 : Nat) : Int)),(167,vb y31)],[]⟩) (sc [] (by decide) (by kernel_rfl) ObRen.nil rfl rfl) ?_
        refine TriE.cond (b := y31) rfl (fun c12 => ?_) (fun c12 => ?_)
        · have h := cond_t h c12
          refine TriE.seq ?_
          refine TriE.run [(4,vb false)] [] (by kernel_rfl) ?_
          refine TriE.ret ?_
          have h := Option.some.inj h
          subst h
          exact DoneS.ret (S' := ⟨[(4,vb false)],[]⟩) Sees.refl rfl rfl
        have h := cond_f h c12
        refine TriE.skip ?_
        refine TriE.regJ ?_
        refine RegJ.run 1 [(0,eS 6 eTask a0),(5,eS 1 vt y6.2),(15,vi ((v26 : Nat) : Int)),(16,eS 1 vt y28),(158,vi ((v30 : Nat) : Int))] [] (by kernel_rfl) ?_
        obtain ⟨c13,h⟩ := chk_some h
        refine jv (vi ((v30 + 1 : Nat) : Int)) (cz (I0 159 (.bin .add false (.t 158) (.c (.p (.int .i64 1))))) (by kernel_rfl)) (r_addn (i := v30) (j := 1) rfl rfl c13) rfl ?_
        refine jrd 1 [(0,eS 6 eTask a0),(5,eS 1 vt y6.2),(15,vi ((v26 : Nat) : Int)),(16,eS 1 vt y28),(17,vi ((v30 + 1 : Nat) : Int))] [] (by kernel_rfl) rfl ?_
        exact Vs.intro (sl (by kernel_rfl)) ⟨(v30 + 1),rfl,h⟩
      have h := cond_f h c10
      refine TriE.exit ?_
      exact Vs.intro (sl (by kernel_rfl)) ⟨(),rfl,h⟩
    have h := cond_f h c7
    refine TriE.exit ?_
    exact Vs.intro (sl (by kernel_rfl)) ⟨(),rfl,h⟩
  intro k1 h
  refine TriE.seq ?_
  refine TriE.run [(0,eS 6 eTask a0),(1,eS 1 vt a1),(5,eS 1 vt y6.2),(6,vi y6.1),(7,vi y9.1),(8,vi y9.2.1),(9,vi y9.2.2),(10,eS 2 ePartCount y12.2),(11,vi y12.1),(12,vi y13),(56,vb (y13 == (0 : Int)))] [none,none,none] (by kernel_rfl) ?_
  refine TriE.cond (b := (y13 == (0 : Int))) rfl (fun c3 => ?_) (fun c3 => ?_)
  · have h := cond_t h c3
    refine TriE.regJ ?_
    refine RegJ.run 2 [(0,eS 6 eTask a0),(1,eS 1 vt a1),(5,eS 1 vt y6.2),(6,vi y6.1),(7,vi y9.1),(8,vi y9.2.1),(9,vi y9.2.2),(10,eS 2 ePartCount y12.2),(11,vi y12.1),(57,eS 6 eTask a0),(58,eS 1 vt a1)] [none,none,none] (by kernel_rfl) ?_
    obtain ⟨y14,hy14,h⟩ := bind_some h
    refine RegJ.op (Op1.call (y' := vi y14) (obx := []) (oby := []) (ob2 := [none,none,none]) _ _ (cz (I0 59 (.call 46 [(.t 57),(.t 58)])) (by kernel_rfl)) rfl (q229k n a0 a1 y14 hy14) [] (by kernel_rfl) (.cons rfl (.cons rfl (.cons rfl .nil))) (by kernel_rfl) (by kernel_rfl) ObsRen.nil (by kernel_rfl) ObsRen.nil (by kernel_rfl)) ?_
    refine jrd 1 [(0,eS 6 eTask a0),(1,eS 1 vt a1),(5,eS 1 vt y6.2),(6,vi y6.1),(7,vi y9.1),(8,vi y9.2.1),(9,vi y9.2.2),(10,eS 2 ePartCount y12.2),(11,vi y12.1),(12,vi y14)] [none,none,none] (by kernel_rfl) rfl ?_
    exact Vs.intro (sc [] (by decide) (by kernel_rfl) ObRen.nil rfl rfl) ⟨y14,rfl,h⟩
  have h := cond_f h c3
  refine TriE.skip ?_
  exact Vs.intro (sc [] (by decide) (by kernel_rfl) ObRen.nil rfl rfl) ⟨y13,rfl,h⟩
end Go.Proofs.YtifabpmjiphhdaaGreat.As
