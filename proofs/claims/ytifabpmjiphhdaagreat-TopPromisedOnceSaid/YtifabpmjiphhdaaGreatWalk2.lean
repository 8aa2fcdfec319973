/- The code computes what the plain functions say, part 2: no condition. -/
import Derived.Test.YtifabpmjiphhdaaGreatWalk1
namespace Go.Proofs.YtifabpmjiphhdaaGreat.As
open Go Go.Proofs
set_option maxRecDepth 4000
set_option maxHeartbeats 1000000 in
theorem slices_partitionCmpFunc_PartCount_ok (n : Nat) (a0 : List PartCount) (a1 : Int) (a2 : Int) (a3 : Int) (r : Int × (List PartCount) × Bool) (h : q20k n a0 a1 a2 a3 = some r) : FnL Tryz.prog 211 [.own 0 0 a0.length,vi a1,vi a2,vi a3,.fn (.func 136) [] []] [some (.row 2 (List.map ePartCount a0))] (.tup [vi r.1,vb r.2.2]) [some (.row 2 (List.map ePartCount r.2.1))] := by
 dsimp only [q20k] at h
 refine fob [10,11] Tryz.call211 Tryz.func211 rfl (.cons rfl .nil) ?_
 refine sk .a ?_
 refine q1 ?_
 refine ts .a ?_
 refine TriE.draw (by kernel_rfl) ?_
 refine dk 6 (.i 19 (vi a3) (.i 18 (.own 0 0 a0.length) (.i 17 (vi a3) (.i 16 (.own 0 0 a0.length) (.i 15 (vi a1) (.i 14 (.own 0 0 a0.length) .a)))))) ?_
 obtain ⟨c1,h⟩:=ck h
 refine dp 20 (.iaddr 2 18 19) (ok_iaddr_o0 (j:=a3.toNat) rfl rfl rfl (inB_to c1) (inB_lt c1)) ?_
 obtain ⟨c2,h⟩:=ck h
 refine dp 21 (.load true 2 20) (ok_load_pm (l:=a0) (e:=ePartCount) (v:=.agg [vt ((ix a0 a3.toNat).Part),vi ((ix a0 a3.toNat).Count)]) rfl rfl c2 rfl) ?_
 refine dk 2 (.i 23 (vi a1) (.i 22 (.own 0 0 a0.length) .a)) ?_
 obtain ⟨c3,h⟩:=ck h
 refine dp 24 (.iaddr 2 22 23) (ok_iaddr_o0 (j:=a1.toNat) rfl rfl rfl (inB_to c3) (inB_lt c3)) ?_
 obtain ⟨c4,h⟩:=ck h
 refine dp 25 (.load true 2 24) (ok_load_pm (l:=a0) (e:=ePartCount) (v:=.agg [vt ((ix a0 a1.toNat).Part),vi ((ix a0 a1.toNat).Count)]) rfl rfl c4 rfl) ?_
 refine dp 26 (.iaddr 2 14 15) (ok_iaddr_o0 (j:=a1.toNat) rfl rfl rfl (inB_to c3) (inB_lt c3)) ?_
 refine dm (.store 2 26 21) _ (ok_store_m (l:=a0) (e:=ePartCount) (x':=(ix a0 a3.toNat)) (u:=.agg [vt ((ix a0 a3.toNat).Part),vi ((ix a0 a3.toNat).Count)]) rfl rfl rfl c4 rfl rfl) rfl rfl ?_
 refine dp 27 (.iaddr 2 16 17) (ok_iaddr_o0 (j:=a3.toNat) rfl rfl rfl (inB_to c1) (inB_lt c1)) ?_
 obtain ⟨c5,h⟩:=ck h
 refine dm (.store 2 27 25) _ (ok_store_m (l:=(List.set a0 a1.toNat (ix a0 a3.toNat))) (e:=ePartCount) (x':=(ix a0 a1.toNat)) (u:=.agg [vt ((ix a0 a1.toNat).Part),vi ((ix a0 a1.toNat).Count)]) rfl rfl rfl c5 rfl rfl) rfl rfl ?_
 refine dfi (.d4 (.d4 (.d4 (.d2 (.k3 (.d .a)))))) [0] (obRen_row ePartCount_frz rfl .nil) ?_
 refine sj ?_
 refine rk 1 (.k4 (.i 28 (vi a1) .n)) ?_
 obtain ⟨c6,h⟩:=ck h
 refine jo 29 (.bin .add false 28 (ki 1)) (r_add rfl rfl c6) ?_
 refine rk 1 (.d (.k2 (.d (.k (.i 29 (vi (a1 + 1)) (.i 30 (vi a2) .n)))))) ?_
 obtain ⟨c7,h⟩:=ck h
 refine jo 31 (.bin .sub false 30 (ki 1)) (r_sub rfl rfl c7) ?_
 refine jk 2 (.d (.k3 (.i 12 (vi (a1 + 1)) (.i 13 (vi (a2 - 1)) .n)))) ?_
 refine TriE.seqK h (fun (v4 : Int)=>St.mk [(0,.own 0 0 a0.length),(1,vi a1),(4,.fn (.func 136) [] []),(12,vi v4),(13,vi (a2 - 1))] [some (.row 2 (List.map ePartCount (List.set (List.set a0 a1.toNat (ix a0 a3.toNat)) a3.toNat (ix a0 a1.toNat))))]) ?_ ?_
 ·rintro v4 h
  refine TriE.seqK h (fun (v8 : Int)=>St.mk [(0,.own 0 0 a0.length),(1,vi a1),(4,.fn (.func 136) [] []),(12,vi v4),(13,vi v8)] [some (.row 2 (List.map ePartCount (List.set (List.set a0 a1.toNat (ix a0 a3.toNat)) a3.toNat (ix a0 a1.toNat))))]) ?_ ?_
  ·rintro v8 h
   refine q1 ?_
   refine sk (.k4 (.k (.i 71 (vb (decide (v8 < v4))) .n))) ?_
   refine tc h (fun c18 h=>?_) (fun c18 h=>?_)
   ·refine q1 ?_
    refine ts (.k2 (.d2 (.k .n))) ?_
    refine TriE.draw (by kernel_rfl) ?_
    refine dk 6 (.i 77 (vi a1) (.i 76 (.own 0 0 a0.length) (.i 75 (vi a1) (.i 74 (.own 0 0 a0.length) (.i 73 (vi v8) (.i 72 (.own 0 0 a0.length) .a)))))) ?_
    refine dp 78 (.iaddr 2 76 77) (ok_iaddr_o0 (j:=a1.toNat) rfl rfl rfl (inB_to c3) (inB_lt c3)) ?_
    obtain ⟨c19,h⟩:=ck h
    refine dp 79 (.load true 2 78) (ok_load_pm (l:=(List.set (List.set a0 a1.toNat (ix a0 a3.toNat)) a3.toNat (ix a0 a1.toNat))) (e:=ePartCount) (v:=.agg [vt ((ix (List.set (List.set a0 a1.toNat (ix a0 a3.toNat)) a3.toNat (ix a0 a1.toNat)) a1.toNat).Part),vi ((ix (List.set (List.set a0 a1.toNat (ix a0 a3.toNat)) a3.toNat (ix a0 a1.toNat)) a1.toNat).Count)]) rfl rfl c19 rfl) ?_
    refine dk 2 (.i 81 (vi v8) (.i 80 (.own 0 0 a0.length) .a)) ?_
    obtain ⟨c20,h⟩:=ck h
    refine dp 82 (.iaddr 2 80 81) (ok_iaddr_o0 (j:=v8.toNat) rfl rfl rfl (inB_to c20) (inB_lt c20)) ?_
    obtain ⟨c21,h⟩:=ck h
    refine dp 83 (.load true 2 82) (ok_load_pm (l:=(List.set (List.set a0 a1.toNat (ix a0 a3.toNat)) a3.toNat (ix a0 a1.toNat))) (e:=ePartCount) (v:=.agg [vt ((ix (List.set (List.set a0 a1.toNat (ix a0 a3.toNat)) a3.toNat (ix a0 a1.toNat)) v8.toNat).Part),vi ((ix (List.set (List.set a0 a1.toNat (ix a0 a3.toNat)) a3.toNat (ix a0 a1.toNat)) v8.toNat).Count)]) rfl rfl c21 rfl) ?_
    refine dp 84 (.iaddr 2 72 73) (ok_iaddr_o0 (j:=v8.toNat) rfl rfl rfl (inB_to c20) (inB_lt c20)) ?_
    refine dm (.store 2 84 79) _ (ok_store_m (l:=(List.set (List.set a0 a1.toNat (ix a0 a3.toNat)) a3.toNat (ix a0 a1.toNat))) (e:=ePartCount) (x':=(ix (List.set (List.set a0 a1.toNat (ix a0 a3.toNat)) a3.toNat (ix a0 a1.toNat)) a1.toNat)) (u:=.agg [vt ((ix (List.set (List.set a0 a1.toNat (ix a0 a3.toNat)) a3.toNat (ix a0 a1.toNat)) a1.toNat).Part),vi ((ix (List.set (List.set a0 a1.toNat (ix a0 a3.toNat)) a3.toNat (ix a0 a1.toNat)) a1.toNat).Count)]) rfl rfl rfl c21 rfl rfl) rfl rfl ?_
    refine dp 85 (.iaddr 2 74 75) (ok_iaddr_o0 (j:=a1.toNat) rfl rfl rfl (inB_to c3) (inB_lt c3)) ?_
    obtain ⟨c22,h⟩:=ck h
    refine dm (.store 2 85 83) _ (ok_store_m (l:=(List.set (List.set (List.set a0 a1.toNat (ix a0 a3.toNat)) a3.toNat (ix a0 a1.toNat)) v8.toNat (ix (List.set (List.set a0 a1.toNat (ix a0 a3.toNat)) a3.toNat (ix a0 a1.toNat)) a1.toNat))) (e:=ePartCount) (x':=(ix (List.set (List.set a0 a1.toNat (ix a0 a3.toNat)) a3.toNat (ix a0 a1.toNat)) v8.toNat)) (u:=.agg [vt ((ix (List.set (List.set a0 a1.toNat (ix a0 a3.toNat)) a3.toNat (ix a0 a1.toNat)) v8.toNat).Part),vi ((ix (List.set (List.set a0 a1.toNat (ix a0 a3.toNat)) a3.toNat (ix a0 a1.toNat)) v8.toNat).Count)]) rfl rfl rfl c22 rfl rfl) rfl rfl ?_
    refine dfi (.d4 (.d4 (.d4 (.d4 .a)))) [0] (obRen_row ePartCount_frz rfl .nil) ?_
    refine sk (.i 10 (vi v8) (.i 11 (vb true) .n)) ?_
    refine q3 ?_
    have h:=si h
    subst h
    exact DoneS.ret Sees.refl rfl rfl
   refine q2 ?_
   refine q1 ?_
   refine ts (.k4 (.k .n)) ?_
   refine TriE.draw (by kernel_rfl) ?_
   refine dk 6 (.i 92 (vi v8) (.i 91 (.own 0 0 a0.length) (.i 90 (vi v8) (.i 89 (.own 0 0 a0.length) (.i 88 (vi v4) (.i 87 (.own 0 0 a0.length) .a)))))) ?_
   obtain ⟨c23,h⟩:=ck h
   refine dp 93 (.iaddr 2 91 92) (ok_iaddr_o0 (j:=v8.toNat) rfl rfl rfl (inB_to c23) (inB_lt c23)) ?_
   obtain ⟨c24,h⟩:=ck h
   refine dp 94 (.load true 2 93) (ok_load_pm (l:=(List.set (List.set a0 a1.toNat (ix a0 a3.toNat)) a3.toNat (ix a0 a1.toNat))) (e:=ePartCount) (v:=.agg [vt ((ix (List.set (List.set a0 a1.toNat (ix a0 a3.toNat)) a3.toNat (ix a0 a1.toNat)) v8.toNat).Part),vi ((ix (List.set (List.set a0 a1.toNat (ix a0 a3.toNat)) a3.toNat (ix a0 a1.toNat)) v8.toNat).Count)]) rfl rfl c24 rfl) ?_
   refine dk 2 (.i 96 (vi v4) (.i 95 (.own 0 0 a0.length) .a)) ?_
   obtain ⟨c25,h⟩:=ck h
   refine dp 97 (.iaddr 2 95 96) (ok_iaddr_o0 (j:=v4.toNat) rfl rfl rfl (inB_to c25) (inB_lt c25)) ?_
   obtain ⟨c26,h⟩:=ck h
   refine dp 98 (.load true 2 97) (ok_load_pm (l:=(List.set (List.set a0 a1.toNat (ix a0 a3.toNat)) a3.toNat (ix a0 a1.toNat))) (e:=ePartCount) (v:=.agg [vt ((ix (List.set (List.set a0 a1.toNat (ix a0 a3.toNat)) a3.toNat (ix a0 a1.toNat)) v4.toNat).Part),vi ((ix (List.set (List.set a0 a1.toNat (ix a0 a3.toNat)) a3.toNat (ix a0 a1.toNat)) v4.toNat).Count)]) rfl rfl c26 rfl) ?_
   refine dp 99 (.iaddr 2 87 88) (ok_iaddr_o0 (j:=v4.toNat) rfl rfl rfl (inB_to c25) (inB_lt c25)) ?_
   refine dm (.store 2 99 94) _ (ok_store_m (l:=(List.set (List.set a0 a1.toNat (ix a0 a3.toNat)) a3.toNat (ix a0 a1.toNat))) (e:=ePartCount) (x':=(ix (List.set (List.set a0 a1.toNat (ix a0 a3.toNat)) a3.toNat (ix a0 a1.toNat)) v8.toNat)) (u:=.agg [vt ((ix (List.set (List.set a0 a1.toNat (ix a0 a3.toNat)) a3.toNat (ix a0 a1.toNat)) v8.toNat).Part),vi ((ix (List.set (List.set a0 a1.toNat (ix a0 a3.toNat)) a3.toNat (ix a0 a1.toNat)) v8.toNat).Count)]) rfl rfl rfl c26 rfl rfl) rfl rfl ?_
   refine dp 100 (.iaddr 2 89 90) (ok_iaddr_o0 (j:=v8.toNat) rfl rfl rfl (inB_to c23) (inB_lt c23)) ?_
   obtain ⟨c27,h⟩:=ck h
   refine dm (.store 2 100 98) _ (ok_store_m (l:=(List.set (List.set (List.set a0 a1.toNat (ix a0 a3.toNat)) a3.toNat (ix a0 a1.toNat)) v4.toNat (ix (List.set (List.set a0 a1.toNat (ix a0 a3.toNat)) a3.toNat (ix a0 a1.toNat)) v8.toNat))) (e:=ePartCount) (x':=(ix (List.set (List.set a0 a1.toNat (ix a0 a3.toNat)) a3.toNat (ix a0 a1.toNat)) v4.toNat)) (u:=.agg [vt ((ix (List.set (List.set a0 a1.toNat (ix a0 a3.toNat)) a3.toNat (ix a0 a1.toNat)) v4.toNat).Part),vi ((ix (List.set (List.set a0 a1.toNat (ix a0 a3.toNat)) a3.toNat (ix a0 a1.toNat)) v4.toNat).Count)]) rfl rfl rfl c27 rfl rfl) rfl rfl ?_
   refine dfi (.d4 (.d4 (.d4 (.d2 .a)))) [0] (obRen_row ePartCount_frz rfl .nil) ?_
   refine sj ?_
   refine rk 1 (.k3 (.d (.k (.i 101 (vi v4) .n)))) ?_
   obtain ⟨c28,h⟩:=ck h
   refine jo 102 (.bin .add false 101 (ki 1)) (r_add rfl rfl c28) ?_
   refine jk 1 (.d (.k4 (.i 12 (vi (v4 + 1)) .n))) ?_
   refine sj ?_
   refine rk 1 (.k3 (.d (.k (.i 103 (vi v8) .n)))) ?_
   obtain ⟨c29,h⟩:=ck h
   refine jo 104 (.bin .sub false 103 (ki 1)) (r_sub rfl rfl c29) ?_
   refine jk 1 (.d (.k4 (.i 13 (vi (v8 - 1)) .n))) ?_
   refine TriE.seqK h (fun (t : Int × (List PartCount))=>match t with | (v28,v29)=>St.mk [(0,.own 0 0 v29.length),(1,vi a1),(13,vi v28)] [some (.row 2 (List.map ePartCount v29))]) ?_ ?_
   ·rintro ⟨v28,v29⟩ h
    refine q1 ?_
    refine ts .a ?_
    refine TriE.draw (by kernel_rfl) ?_
    refine dk 6 (.i 168 (vi a1) (.i 167 (.own 0 0 v29.length) (.i 166 (vi a1) (.i 165 (.own 0 0 v29.length) (.i 164 (vi v28) (.i 163 (.own 0 0 v29.length) .a)))))) ?_
    obtain ⟨c50,h⟩:=ck h
    refine dp 169 (.iaddr 2 167 168) (ok_iaddr_o0 (j:=a1.toNat) rfl rfl rfl (inB_to c50) (inB_lt c50)) ?_
    obtain ⟨c51,h⟩:=ck h
    refine dp 170 (.load true 2 169) (ok_load_pm (l:=v29) (e:=ePartCount) (v:=.agg [vt ((ix v29 a1.toNat).Part),vi ((ix v29 a1.toNat).Count)]) rfl rfl c51 rfl) ?_
    refine dk 2 (.i 172 (vi v28) (.i 171 (.own 0 0 v29.length) .a)) ?_
    obtain ⟨c52,h⟩:=ck h
    refine dp 173 (.iaddr 2 171 172) (ok_iaddr_o0 (j:=v28.toNat) rfl rfl rfl (inB_to c52) (inB_lt c52)) ?_
    obtain ⟨c53,h⟩:=ck h
    refine dp 174 (.load true 2 173) (ok_load_pm (l:=v29) (e:=ePartCount) (v:=.agg [vt ((ix v29 v28.toNat).Part),vi ((ix v29 v28.toNat).Count)]) rfl rfl c53 rfl) ?_
    refine dp 175 (.iaddr 2 163 164) (ok_iaddr_o0 (j:=v28.toNat) rfl rfl rfl (inB_to c52) (inB_lt c52)) ?_
    refine dm (.store 2 175 170) _ (ok_store_m (l:=v29) (e:=ePartCount) (x':=(ix v29 a1.toNat)) (u:=.agg [vt ((ix v29 a1.toNat).Part),vi ((ix v29 a1.toNat).Count)]) rfl rfl rfl c53 rfl rfl) rfl rfl ?_
    refine dp 176 (.iaddr 2 165 166) (ok_iaddr_o0 (j:=a1.toNat) rfl rfl rfl (inB_to c50) (inB_lt c50)) ?_
    obtain ⟨c54,h⟩:=ck h
    refine dm (.store 2 176 174) _ (ok_store_m (l:=(List.set v29 v28.toNat (ix v29 a1.toNat))) (e:=ePartCount) (x':=(ix v29 v28.toNat)) (u:=.agg [vt ((ix v29 v28.toNat).Part),vi ((ix v29 v28.toNat).Count)]) rfl rfl rfl c54 rfl rfl) rfl rfl ?_
    refine dfi (.d4 (.d4 (.d4 (.d4 .a)))) [0] (obRen_row ePartCount_frz rfl .nil) ?_
    refine sk (.i 10 (vi v28) (.i 11 (vb false) .n)) ?_
    refine q3 ?_
    have h:=si h
    subst h
    exact DoneS.ret Sees.refl rfl rfl
   intro k5 h
   refine q4 ?_
   refine TriE.sees (S':=⟨[(0,.own 0 0 (List.set (List.set (List.set (List.set a0 a1.toNat (ix a0 a3.toNat)) a3.toNat (ix a0 a1.toNat)) v4.toNat (ix (List.set (List.set a0 a1.toNat (ix a0 a3.toNat)) a3.toNat (ix a0 a1.toNat)) v8.toNat)) v8.toNat (ix (List.set (List.set a0 a1.toNat (ix a0 a3.toNat)) a3.toNat (ix a0 a1.toNat)) v4.toNat)).length),(1,vi a1),(4,.fn (.func 136) [] []),(12,vi (v4 + 1)),(13,vi (v8 - 1))],[some (.row 2 (List.map ePartCount (List.set (List.set (List.set (List.set a0 a1.toNat (ix a0 a3.toNat)) a3.toNat (ix a0 a1.toNat)) v4.toNat (ix (List.set (List.set a0 a1.toNat (ix a0 a3.toNat)) a3.toNat (ix a0 a1.toNat)) v8.toNat)) v8.toNat (ix (List.set (List.set a0 a1.toNat (ix a0 a3.toNat)) a3.toNat (ix a0 a1.toNat)) v4.toNat))))]⟩) (Sees.less (.cons (by simp only [List.length_set]; rfl) (.cons rfl (.cons rfl (.cons rfl (.cons rfl .nil)))))) ?_
   refine TriE.loopN h (fun (t : Int × Int × (List PartCount))=>match t with | (v17,v18,v19)=>St.mk [(0,.own 0 0 v19.length),(1,vi a1),(4,.fn (.func 136) [] []),(12,vi v17),(13,vi v18)] [some (.row 2 (List.map ePartCount v19))]) rfl ?_
   clear h
   rintro back ⟨v17,v18,v19⟩ h
   dsimp only [q37k] at h
   refine q4 ?_
   refine TriE.seqK h (fun (v23 : Int)=>St.mk [(0,.own 0 0 v19.length),(1,vi a1),(4,.fn (.func 136) [] []),(12,vi v23),(13,vi v18)] [some (.row 2 (List.map ePartCount v19))]) ?_ ?_
   ·rintro v23 h
    refine TriE.seqK h (fun (v27 : Int)=>St.mk [(0,.own 0 0 v19.length),(1,vi a1),(4,.fn (.func 136) [] []),(12,vi v23),(13,vi v27)] [some (.row 2 (List.map ePartCount v19))]) ?_ ?_
    ·rintro v27 h
     refine q1 ?_
     refine sk (.k4 (.k (.i 144 (vb (decide (v27 < v23))) .n))) ?_
     refine tc h (fun c42 h=>?_) (fun c42 h=>?_)
     ·refine q5 ?_
      exact Vs.intro sy ⟨(v27,v19),rfl,h⟩
     refine q2 ?_
     refine q1 ?_
     refine ts (.k4 (.k .n)) ?_
     refine TriE.draw (by kernel_rfl) ?_
     refine dk 6 (.i 150 (vi v27) (.i 149 (.own 0 0 v19.length) (.i 148 (vi v27) (.i 147 (.own 0 0 v19.length) (.i 146 (vi v23) (.i 145 (.own 0 0 v19.length) .a)))))) ?_
     obtain ⟨c43,h⟩:=ck h
     refine dp 151 (.iaddr 2 149 150) (ok_iaddr_o0 (j:=v27.toNat) rfl rfl rfl (inB_to c43) (inB_lt c43)) ?_
     obtain ⟨c44,h⟩:=ck h
     refine dp 152 (.load true 2 151) (ok_load_pm (l:=v19) (e:=ePartCount) (v:=.agg [vt ((ix v19 v27.toNat).Part),vi ((ix v19 v27.toNat).Count)]) rfl rfl c44 rfl) ?_
     refine dk 2 (.i 154 (vi v23) (.i 153 (.own 0 0 v19.length) .a)) ?_
     obtain ⟨c45,h⟩:=ck h
     refine dp 155 (.iaddr 2 153 154) (ok_iaddr_o0 (j:=v23.toNat) rfl rfl rfl (inB_to c45) (inB_lt c45)) ?_
     obtain ⟨c46,h⟩:=ck h
     refine dp 156 (.load true 2 155) (ok_load_pm (l:=v19) (e:=ePartCount) (v:=.agg [vt ((ix v19 v23.toNat).Part),vi ((ix v19 v23.toNat).Count)]) rfl rfl c46 rfl) ?_
     refine dp 157 (.iaddr 2 145 146) (ok_iaddr_o0 (j:=v23.toNat) rfl rfl rfl (inB_to c45) (inB_lt c45)) ?_
     refine dm (.store 2 157 152) _ (ok_store_m (l:=v19) (e:=ePartCount) (x':=(ix v19 v27.toNat)) (u:=.agg [vt ((ix v19 v27.toNat).Part),vi ((ix v19 v27.toNat).Count)]) rfl rfl rfl c46 rfl rfl) rfl rfl ?_
     refine dp 158 (.iaddr 2 147 148) (ok_iaddr_o0 (j:=v27.toNat) rfl rfl rfl (inB_to c43) (inB_lt c43)) ?_
     obtain ⟨c47,h⟩:=ck h
     refine dm (.store 2 158 156) _ (ok_store_m (l:=(List.set v19 v23.toNat (ix v19 v27.toNat))) (e:=ePartCount) (x':=(ix v19 v23.toNat)) (u:=.agg [vt ((ix v19 v23.toNat).Part),vi ((ix v19 v23.toNat).Count)]) rfl rfl rfl c47 rfl rfl) rfl rfl ?_
     refine dfi (.d4 (.d4 (.d4 (.d2 .a)))) [0] (obRen_row ePartCount_frz rfl .nil) ?_
     refine sj ?_
     refine rk 1 (.k3 (.d (.k (.i 159 (vi v23) .n)))) ?_
     obtain ⟨c48,h⟩:=ck h
     refine jo 160 (.bin .add false 159 (ki 1)) (r_add rfl rfl c48) ?_
     refine jk 1 (.d (.k4 (.i 12 (vi (v23 + 1)) .n))) ?_
     refine q6 ?_
     refine rk 1 (.k3 (.d (.k (.i 161 (vi v27) .n)))) ?_
     obtain ⟨c49,h⟩:=ck h
     refine jo 162 (.bin .sub false 161 (ki 1)) (r_sub rfl rfl c49) ?_
     refine jk 1 (.d (.k4 (.i 13 (vi (v27 - 1)) .n))) ?_
     exact Vs.intro (Sees.less (.cons (by simp only [List.length_set]; rfl) (.cons rfl (.cons rfl (.cons rfl (.cons rfl .nil)))))) ⟨(v23 + 1,v27 - 1,(List.set (List.set v19 v23.toNat (ix v19 v27.toNat)) v27.toNat (ix v19 v23.toNat))),rfl,h⟩
    intro k4 h
    refine q4 ?_
    refine TriE.loopN h (fun (v25 : Int)=>St.mk [(0,.own 0 0 v19.length),(1,vi a1),(4,.fn (.func 136) [] []),(12,vi v23),(13,vi v25)] [some (.row 2 (List.map ePartCount v19))]) rfl ?_
    clear h
    rintro back v25 h
    dsimp only [q14k] at h
    refine q1 ?_
    refine q1 ?_
    refine ts .a ?_
    refine TriE.draw (by kernel_rfl) ?_
    refine dk 4 (.i 126 (vb (decide (v23 ≤ v25))) (.i 125 (vb (decide (v23 ≤ v25))) (.i 124 (vi v25) (.i 123 (vi v23) .a)))) ?_
    refine gd (decide (v23 ≤ v25)) (.fn (.func 136) [] []) 127 (.mov 4) 126 true rfl (fun hg=>(.cons rfl .nil)) ?_
    refine gd (decide (v23 ≤ v25)) (.own 0 0 v19.length) 128 (.mov 0) 126 true rfl (fun hg=>(.cons rfl .nil)) ?_
    refine gd (decide (v23 ≤ v25)) (vi v25) 129 (.mov 13) 126 true rfl (fun hg=>(.cons rfl .nil)) ?_
    obtain ⟨c36,h⟩:=ck h
    refine gu (decide (v23 ≤ v25)) 130 (.iaddr 2 128 129) 126 true rfl (fun hg=>(ok_iaddr_o0 (j:=v25.toNat) rfl rfl rfl (inB_to (gor c36 hg)) (inB_lt (gor c36 hg)))) (fun hg=>(.cons hg (.cons hg .nil))) ?_
    obtain ⟨c37,h⟩:=ck h
    refine gu (decide (v23 ≤ v25)) 131 (.load true 2 130) 126 true rfl (fun hg=>(ok_load_pm (l:=v19) (e:=ePartCount) (v:=.agg [vt ((ix v19 v25.toNat).Part),vi ((ix v19 v25.toNat).Count)]) rfl rfl (gor c37 hg) rfl)) (fun hg=>(.cons hg .nil)) ?_
    refine gd (decide (v23 ≤ v25)) (.own 0 0 v19.length) 132 (.mov 0) 126 true rfl (fun hg=>(.cons rfl .nil)) ?_
    refine gd (decide (v23 ≤ v25)) (vi a1) 133 (.mov 1) 126 true rfl (fun hg=>(.cons rfl .nil)) ?_
    obtain ⟨c38,h⟩:=ck h
    refine gu (decide (v23 ≤ v25)) 134 (.iaddr 2 132 133) 126 true rfl (fun hg=>(ok_iaddr_o0 (j:=a1.toNat) rfl rfl rfl (inB_to (gor c38 hg)) (inB_lt (gor c38 hg)))) (fun hg=>(.cons hg (.cons hg .nil))) ?_
    obtain ⟨c39,h⟩:=ck h
    refine gu (decide (v23 ≤ v25)) 135 (.load true 2 134) 126 true rfl (fun hg=>(ok_load_pm (l:=v19) (e:=ePartCount) (v:=.agg [vt ((ix v19 a1.toNat).Part),vi ((ix v19 a1.toNat).Count)]) rfl rfl (gor c39 hg) rfl)) (fun hg=>(.cons hg .nil)) ?_
    obtain ⟨y26,hy26,h⟩:=bs h
    refine RegD.op (OpD.dyng (g:=decide (v23 ≤ v25)) (y':=vi y26) (obx:=[]) _ _ _ (cy (IG 136 (.dyn 127 [131,135]) 126 true)) rfl rfl (fun hg=>q6k n (ix v19 v25.toNat) (ix v19 a1.toNat) y26 (gcall_some hy26 hg)) [] (fun hg=>by kernel_rfl) (fun hg=>(.cons hg (.cons hg (.cons hg .nil)))) (by kernel_rfl) (by kernel_rfl) ObsRen.nil (by kernel_rfl) (by kernel_rfl) rfl) ?_
    refine gd (decide (v23 ≤ v25)) (vb (decide (y26 < (0 : Int)))) 137 (.bin .lss false 136 (ki 0)) 126 true rfl (fun hg=>(.cons hg (.cons rfl .nil))) ?_
    refine gd (decide (v23 ≤ v25)) (vb (!(decide (y26 < (0 : Int))))) 138 (.un .not 137) 126 true rfl (fun hg=>(.cons hg .nil)) ?_
    refine RegD.op (OpD.and (cy (I0 139 (.pick 126 138 (.c (.p (.bool false)))))) rfl rfl (by first | exact hokA1 | exact hokA0 | simp)) ?_
    refine dfi (.d4 (.d4 (.d4 (.d4 (.d (.k4 (.k (.i 139 (vb ((decide (v23 ≤ v25)) && (!(decide (y26 < (0 : Int)))))) .n)))))))) [0] (obRen_row ePartCount_frz rfl .nil) ?_
    refine tc h (fun c40 h=>?_) (fun c40 h=>?_)
    ·refine q2 ?_
     refine q4 ?_
     refine q6 ?_
     refine rk 1 (.k4 (.i 140 (vi v25) .n)) ?_
     obtain ⟨c41,h⟩:=ck h
     refine jo 141 (.bin .sub false 140 (ki 1)) (r_sub rfl rfl c41) ?_
     refine jk 1 (.d (.k4 (.i 13 (vi (v25 - 1)) .n))) ?_
     exact Vs.intro Sees.refl ⟨(v25 - 1),rfl,h⟩
    refine q5 ?_
    exact Vs.intro sy ⟨v25,rfl,h⟩
   intro k3 h
   refine q4 ?_
   refine TriE.loopN h (fun (v21 : Int)=>St.mk [(0,.own 0 0 v19.length),(1,vi a1),(4,.fn (.func 136) [] []),(12,vi v21),(13,vi v18)] [some (.row 2 (List.map ePartCount v19))]) rfl ?_
   clear h
   rintro back v21 h
   dsimp only [q23k] at h
   refine q1 ?_
   refine q1 ?_
   refine ts .a ?_
   refine TriE.draw (by kernel_rfl) ?_
   refine dk 4 (.i 108 (vb (decide (v21 ≤ v18))) (.i 107 (vb (decide (v21 ≤ v18))) (.i 106 (vi v18) (.i 105 (vi v21) .a)))) ?_
   refine gd (decide (v21 ≤ v18)) (.fn (.func 136) [] []) 109 (.mov 4) 108 true rfl (fun hg=>(.cons rfl .nil)) ?_
   refine gd (decide (v21 ≤ v18)) (.own 0 0 v19.length) 110 (.mov 0) 108 true rfl (fun hg=>(.cons rfl .nil)) ?_
   refine gd (decide (v21 ≤ v18)) (vi v21) 111 (.mov 12) 108 true rfl (fun hg=>(.cons rfl .nil)) ?_
   obtain ⟨c30,h⟩:=ck h
   refine gu (decide (v21 ≤ v18)) 112 (.iaddr 2 110 111) 108 true rfl (fun hg=>(ok_iaddr_o0 (j:=v21.toNat) rfl rfl rfl (inB_to (gor c30 hg)) (inB_lt (gor c30 hg)))) (fun hg=>(.cons hg (.cons hg .nil))) ?_
   obtain ⟨c31,h⟩:=ck h
   refine gu (decide (v21 ≤ v18)) 113 (.load true 2 112) 108 true rfl (fun hg=>(ok_load_pm (l:=v19) (e:=ePartCount) (v:=.agg [vt ((ix v19 v21.toNat).Part),vi ((ix v19 v21.toNat).Count)]) rfl rfl (gor c31 hg) rfl)) (fun hg=>(.cons hg .nil)) ?_
   refine gd (decide (v21 ≤ v18)) (.own 0 0 v19.length) 114 (.mov 0) 108 true rfl (fun hg=>(.cons rfl .nil)) ?_
   refine gd (decide (v21 ≤ v18)) (vi a1) 115 (.mov 1) 108 true rfl (fun hg=>(.cons rfl .nil)) ?_
   obtain ⟨c32,h⟩:=ck h
   refine gu (decide (v21 ≤ v18)) 116 (.iaddr 2 114 115) 108 true rfl (fun hg=>(ok_iaddr_o0 (j:=a1.toNat) rfl rfl rfl (inB_to (gor c32 hg)) (inB_lt (gor c32 hg)))) (fun hg=>(.cons hg (.cons hg .nil))) ?_
   obtain ⟨c33,h⟩:=ck h
   refine gu (decide (v21 ≤ v18)) 117 (.load true 2 116) 108 true rfl (fun hg=>(ok_load_pm (l:=v19) (e:=ePartCount) (v:=.agg [vt ((ix v19 a1.toNat).Part),vi ((ix v19 a1.toNat).Count)]) rfl rfl (gor c33 hg) rfl)) (fun hg=>(.cons hg .nil)) ?_
   obtain ⟨y22,hy22,h⟩:=bs h
   refine RegD.op (OpD.dyng (g:=decide (v21 ≤ v18)) (y':=vi y22) (obx:=[]) _ _ _ (cy (IG 118 (.dyn 109 [113,117]) 108 true)) rfl rfl (fun hg=>q6k n (ix v19 v21.toNat) (ix v19 a1.toNat) y22 (gcall_some hy22 hg)) [] (fun hg=>by kernel_rfl) (fun hg=>(.cons hg (.cons hg (.cons hg .nil)))) (by kernel_rfl) (by kernel_rfl) ObsRen.nil (by kernel_rfl) (by kernel_rfl) rfl) ?_
   refine gd (decide (v21 ≤ v18)) (vb (decide (y22 < (0 : Int)))) 119 (.bin .lss false 118 (ki 0)) 108 true rfl (fun hg=>(.cons hg (.cons rfl .nil))) ?_
   refine RegD.op (OpD.and (cy (I0 120 (.pick 108 119 (.c (.p (.bool false)))))) rfl rfl (by first | exact hokA1 | exact hokA0 | simp)) ?_
   refine dfi (.d4 (.d4 (.d4 (.d4 (.k4 (.k (.i 120 (vb ((decide (v21 ≤ v18)) && (decide (y22 < (0 : Int))))) .n))))))) [0] (obRen_row ePartCount_frz rfl .nil) ?_
   refine tc h (fun c34 h=>?_) (fun c34 h=>?_)
   ·refine q2 ?_
    refine q4 ?_
    refine q6 ?_
    refine rk 1 (.k3 (.d (.k (.i 121 (vi v21) .n)))) ?_
    obtain ⟨c35,h⟩:=ck h
    refine jo 122 (.bin .add false 121 (ki 1)) (r_add rfl rfl c35) ?_
    refine jk 1 (.d (.k4 (.i 12 (vi (v21 + 1)) .n))) ?_
    exact Vs.intro sy ⟨(v21 + 1),rfl,h⟩
   refine q5 ?_
   exact Vs.intro sy ⟨v21,rfl,h⟩
  intro k2 h
  refine q4 ?_
  refine TriE.loopN h (fun (v6 : Int)=>St.mk [(0,.own 0 0 a0.length),(1,vi a1),(4,.fn (.func 136) [] []),(12,vi v4),(13,vi v6)] [some (.row 2 (List.map ePartCount (List.set (List.set a0 a1.toNat (ix a0 a3.toNat)) a3.toNat (ix a0 a1.toNat))))]) rfl ?_
  clear h
  rintro back v6 h
  dsimp only [q36k] at h
  refine q1 ?_
  refine q1 ?_
  refine ts .a ?_
  refine TriE.draw (by kernel_rfl) ?_
  refine dk 4 (.i 53 (vb (decide (v4 ≤ v6))) (.i 52 (vb (decide (v4 ≤ v6))) (.i 51 (vi v6) (.i 50 (vi v4) .a)))) ?_
  refine gd (decide (v4 ≤ v6)) (.fn (.func 136) [] []) 54 (.mov 4) 53 true rfl (fun hg=>(.cons rfl .nil)) ?_
  refine gd (decide (v4 ≤ v6)) (.own 0 0 a0.length) 55 (.mov 0) 53 true rfl (fun hg=>(.cons rfl .nil)) ?_
  refine gd (decide (v4 ≤ v6)) (vi v6) 56 (.mov 13) 53 true rfl (fun hg=>(.cons rfl .nil)) ?_
  obtain ⟨c13,h⟩:=ck h
  refine gu (decide (v4 ≤ v6)) 57 (.iaddr 2 55 56) 53 true rfl (fun hg=>(ok_iaddr_o0 (j:=v6.toNat) rfl rfl rfl (inB_to (gor c13 hg)) (inB_lt (gor c13 hg)))) (fun hg=>(.cons hg (.cons hg .nil))) ?_
  obtain ⟨c14,h⟩:=ck h
  refine gu (decide (v4 ≤ v6)) 58 (.load true 2 57) 53 true rfl (fun hg=>(ok_load_pm (l:=(List.set (List.set a0 a1.toNat (ix a0 a3.toNat)) a3.toNat (ix a0 a1.toNat))) (e:=ePartCount) (v:=.agg [vt ((ix (List.set (List.set a0 a1.toNat (ix a0 a3.toNat)) a3.toNat (ix a0 a1.toNat)) v6.toNat).Part),vi ((ix (List.set (List.set a0 a1.toNat (ix a0 a3.toNat)) a3.toNat (ix a0 a1.toNat)) v6.toNat).Count)]) rfl rfl (gor c14 hg) rfl)) (fun hg=>(.cons hg .nil)) ?_
  refine gd (decide (v4 ≤ v6)) (.own 0 0 a0.length) 59 (.mov 0) 53 true rfl (fun hg=>(.cons rfl .nil)) ?_
  refine gd (decide (v4 ≤ v6)) (vi a1) 60 (.mov 1) 53 true rfl (fun hg=>(.cons rfl .nil)) ?_
  refine gu (decide (v4 ≤ v6)) 61 (.iaddr 2 59 60) 53 true rfl (fun hg=>(ok_iaddr_o0 (j:=a1.toNat) rfl rfl rfl (inB_to c3) (inB_lt c3))) (fun hg=>(.cons hg (.cons hg .nil))) ?_
  obtain ⟨c15,h⟩:=ck h
  refine gu (decide (v4 ≤ v6)) 62 (.load true 2 61) 53 true rfl (fun hg=>(ok_load_pm (l:=(List.set (List.set a0 a1.toNat (ix a0 a3.toNat)) a3.toNat (ix a0 a1.toNat))) (e:=ePartCount) (v:=.agg [vt ((ix (List.set (List.set a0 a1.toNat (ix a0 a3.toNat)) a3.toNat (ix a0 a1.toNat)) a1.toNat).Part),vi ((ix (List.set (List.set a0 a1.toNat (ix a0 a3.toNat)) a3.toNat (ix a0 a1.toNat)) a1.toNat).Count)]) rfl rfl (gor c15 hg) rfl)) (fun hg=>(.cons hg .nil)) ?_
  obtain ⟨y7,hy7,h⟩:=bs h
  refine RegD.op (OpD.dyng (g:=decide (v4 ≤ v6)) (y':=vi y7) (obx:=[]) _ _ _ (cy (IG 63 (.dyn 54 [58,62]) 53 true)) rfl rfl (fun hg=>q6k n (ix (List.set (List.set a0 a1.toNat (ix a0 a3.toNat)) a3.toNat (ix a0 a1.toNat)) v6.toNat) (ix (List.set (List.set a0 a1.toNat (ix a0 a3.toNat)) a3.toNat (ix a0 a1.toNat)) a1.toNat) y7 (gcall_some hy7 hg)) [] (fun hg=>by kernel_rfl) (fun hg=>(.cons hg (.cons hg (.cons hg .nil)))) (by kernel_rfl) (by kernel_rfl) ObsRen.nil (by kernel_rfl) (by kernel_rfl) rfl) ?_
  refine gd (decide (v4 ≤ v6)) (vb (decide (y7 < (0 : Int)))) 64 (.bin .lss false 63 (ki 0)) 53 true rfl (fun hg=>(.cons hg (.cons rfl .nil))) ?_
  refine gd (decide (v4 ≤ v6)) (vb (!(decide (y7 < (0 : Int))))) 65 (.un .not 64) 53 true rfl (fun hg=>(.cons hg .nil)) ?_
  refine RegD.op (OpD.and (cy (I0 66 (.pick 53 65 (.c (.p (.bool false)))))) rfl rfl (by first | exact hokA1 | exact hokA0 | simp)) ?_
  refine dfi (.d4 (.d4 (.d4 (.d4 (.d (.k4 (.k (.i 66 (vb ((decide (v4 ≤ v6)) && (!(decide (y7 < (0 : Int)))))) .n)))))))) [0] (obRen_row ePartCount_frz rfl .nil) ?_
  refine tc h (fun c16 h=>?_) (fun c16 h=>?_)
  ·refine q2 ?_
   refine q4 ?_
   refine q6 ?_
   refine rk 1 (.k4 (.i 67 (vi v6) .n)) ?_
   obtain ⟨c17,h⟩:=ck h
   refine jo 68 (.bin .sub false 67 (ki 1)) (r_sub rfl rfl c17) ?_
   refine jk 1 (.d (.k4 (.i 13 (vi (v6 - 1)) .n))) ?_
   exact Vs.intro Sees.refl ⟨(v6 - 1),rfl,h⟩
  refine q5 ?_
  exact Vs.intro sy ⟨v6,rfl,h⟩
 intro k1 h
 refine q4 ?_
 refine TriE.loopN h (fun (v2 : Int)=>St.mk [(0,.own 0 0 a0.length),(1,vi a1),(4,.fn (.func 136) [] []),(12,vi v2),(13,vi (a2 - 1))] [some (.row 2 (List.map ePartCount (List.set (List.set a0 a1.toNat (ix a0 a3.toNat)) a3.toNat (ix a0 a1.toNat))))]) rfl ?_
 clear h
 rintro back v2 h
 dsimp only [q35k] at h
 refine q1 ?_
 refine q1 ?_
 refine ts .a ?_
 refine TriE.draw (by kernel_rfl) ?_
 refine dk 4 (.i 35 (vb (decide (v2 ≤ (a2 - 1)))) (.i 34 (vb (decide (v2 ≤ (a2 - 1)))) (.i 33 (vi (a2 - 1)) (.i 32 (vi v2) .a)))) ?_
 refine gd (decide (v2 ≤ (a2 - 1))) (.fn (.func 136) [] []) 36 (.mov 4) 35 true rfl (fun hg=>(.cons rfl .nil)) ?_
 refine gd (decide (v2 ≤ (a2 - 1))) (.own 0 0 a0.length) 37 (.mov 0) 35 true rfl (fun hg=>(.cons rfl .nil)) ?_
 refine gd (decide (v2 ≤ (a2 - 1))) (vi v2) 38 (.mov 12) 35 true rfl (fun hg=>(.cons rfl .nil)) ?_
 obtain ⟨c8,h⟩:=ck h
 refine gu (decide (v2 ≤ (a2 - 1))) 39 (.iaddr 2 37 38) 35 true rfl (fun hg=>(ok_iaddr_o0 (j:=v2.toNat) rfl rfl rfl (inB_to (gor c8 hg)) (inB_lt (gor c8 hg)))) (fun hg=>(.cons hg (.cons hg .nil))) ?_
 obtain ⟨c9,h⟩:=ck h
 refine gu (decide (v2 ≤ (a2 - 1))) 40 (.load true 2 39) 35 true rfl (fun hg=>(ok_load_pm (l:=(List.set (List.set a0 a1.toNat (ix a0 a3.toNat)) a3.toNat (ix a0 a1.toNat))) (e:=ePartCount) (v:=.agg [vt ((ix (List.set (List.set a0 a1.toNat (ix a0 a3.toNat)) a3.toNat (ix a0 a1.toNat)) v2.toNat).Part),vi ((ix (List.set (List.set a0 a1.toNat (ix a0 a3.toNat)) a3.toNat (ix a0 a1.toNat)) v2.toNat).Count)]) rfl rfl (gor c9 hg) rfl)) (fun hg=>(.cons hg .nil)) ?_
 refine gd (decide (v2 ≤ (a2 - 1))) (.own 0 0 a0.length) 41 (.mov 0) 35 true rfl (fun hg=>(.cons rfl .nil)) ?_
 refine gd (decide (v2 ≤ (a2 - 1))) (vi a1) 42 (.mov 1) 35 true rfl (fun hg=>(.cons rfl .nil)) ?_
 refine gu (decide (v2 ≤ (a2 - 1))) 43 (.iaddr 2 41 42) 35 true rfl (fun hg=>(ok_iaddr_o0 (j:=a1.toNat) rfl rfl rfl (inB_to c3) (inB_lt c3))) (fun hg=>(.cons hg (.cons hg .nil))) ?_
 obtain ⟨c10,h⟩:=ck h
 refine gu (decide (v2 ≤ (a2 - 1))) 44 (.load true 2 43) 35 true rfl (fun hg=>(ok_load_pm (l:=(List.set (List.set a0 a1.toNat (ix a0 a3.toNat)) a3.toNat (ix a0 a1.toNat))) (e:=ePartCount) (v:=.agg [vt ((ix (List.set (List.set a0 a1.toNat (ix a0 a3.toNat)) a3.toNat (ix a0 a1.toNat)) a1.toNat).Part),vi ((ix (List.set (List.set a0 a1.toNat (ix a0 a3.toNat)) a3.toNat (ix a0 a1.toNat)) a1.toNat).Count)]) rfl rfl (gor c10 hg) rfl)) (fun hg=>(.cons hg .nil)) ?_
 obtain ⟨y3,hy3,h⟩:=bs h
 refine RegD.op (OpD.dyng (g:=decide (v2 ≤ (a2 - 1))) (y':=vi y3) (obx:=[]) _ _ _ (cy (IG 45 (.dyn 36 [40,44]) 35 true)) rfl rfl (fun hg=>q6k n (ix (List.set (List.set a0 a1.toNat (ix a0 a3.toNat)) a3.toNat (ix a0 a1.toNat)) v2.toNat) (ix (List.set (List.set a0 a1.toNat (ix a0 a3.toNat)) a3.toNat (ix a0 a1.toNat)) a1.toNat) y3 (gcall_some hy3 hg)) [] (fun hg=>by kernel_rfl) (fun hg=>(.cons hg (.cons hg (.cons hg .nil)))) (by kernel_rfl) (by kernel_rfl) ObsRen.nil (by kernel_rfl) (by kernel_rfl) rfl) ?_
 refine gd (decide (v2 ≤ (a2 - 1))) (vb (decide (y3 < (0 : Int)))) 46 (.bin .lss false 45 (ki 0)) 35 true rfl (fun hg=>(.cons hg (.cons rfl .nil))) ?_
 refine RegD.op (OpD.and (cy (I0 47 (.pick 35 46 (.c (.p (.bool false)))))) rfl rfl (by first | exact hokA1 | exact hokA0 | simp)) ?_
 refine dfi (.d4 (.d4 (.d4 (.d4 (.k4 (.k (.i 47 (vb ((decide (v2 ≤ (a2 - 1))) && (decide (y3 < (0 : Int))))) .n))))))) [0] (obRen_row ePartCount_frz rfl .nil) ?_
 refine tc h (fun c11 h=>?_) (fun c11 h=>?_)
 ·refine q2 ?_
  refine q4 ?_
  refine q6 ?_
  refine rk 1 (.k3 (.d (.k (.i 48 (vi v2) .n)))) ?_
  obtain ⟨c12,h⟩:=ck h
  refine jo 49 (.bin .add false 48 (ki 1)) (r_add rfl rfl c12) ?_
  refine jk 1 (.d (.k4 (.i 12 (vi (v2 + 1)) .n))) ?_
  exact Vs.intro sy ⟨(v2 + 1),rfl,h⟩
 refine q5 ?_
 exact Vs.intro sy ⟨v2,rfl,h⟩
theorem slices_nextPowerOfTwo_ok (n : Nat) (a0 : Int) (r : Int) (h : q40k n a0 = some r) : FnL Tryz.prog 216 [vi a0] [] (vk .u64 r) [] := by
 dsimp only [q40k] at h
 refine fo [2] Tryz.call216 Tryz.func216 rfl ?_
 refine sk .a ?_
 refine sj ?_
 refine rk 2 (.i 4 (vk .u64 (IntKind.u64.wrap a0)) .n) ?_
 obtain ⟨y1,hy1,h⟩:=bs h
 refine jc 5 [4] (math_bits_Len_ok n (IntKind.u64.wrap a0) y1 hy1) ?_
 obtain ⟨c1,h⟩:=ck h
 refine jo 6 (.bin .shl false (.c (.p (.int .u64 1))) 5) (r_shl rfl rfl c1) ?_
 refine jk 1 (.i 2 (vk .u64 (IntKind.u64.wrap (1 * 2 ^ (min y1.toNat 64)))) .n) ?_
 refine q3 ?_
 have h:=si h
 subst h
 exact DoneS.ret Sees.refl rfl rfl
set_option maxHeartbeats 1000000 in
theorem slices_xorshift_Next_ok (n : Nat) (a0 : Int) (r : Unit) (h : slices_xorshift_Next n a0 = some r) : FnL Tryz.prog 217 [.ptr 0 0 0] [some (.row 1 [vk .u64 a0])] (vk .u64 (iXor .u64 (iXor .u64 (iXor .u64 a0 (IntKind.u64.wrap (a0 * 2 ^ (min 13 64)))) (Int.fdiv (iXor .u64 a0 (IntKind.u64.wrap (a0 * 2 ^ (min 13 64)))) (2 ^ (min 7 64)))) (IntKind.u64.wrap ((iXor .u64 (iXor .u64 a0 (IntKind.u64.wrap (a0 * 2 ^ (min 13 64)))) (Int.fdiv (iXor .u64 a0 (IntKind.u64.wrap (a0 * 2 ^ (min 13 64)))) (2 ^ (min 7 64)))) * 2 ^ (min 17 64))))) [some (.row 1 [vk .u64 (iXor .u64 (iXor .u64 (iXor .u64 a0 (IntKind.u64.wrap (a0 * 2 ^ (min 13 64)))) (Int.fdiv (iXor .u64 a0 (IntKind.u64.wrap (a0 * 2 ^ (min 13 64)))) (2 ^ (min 7 64)))) (IntKind.u64.wrap ((iXor .u64 (iXor .u64 a0 (IntKind.u64.wrap (a0 * 2 ^ (min 13 64)))) (Int.fdiv (iXor .u64 a0 (IntKind.u64.wrap (a0 * 2 ^ (min 13 64)))) (2 ^ (min 7 64)))) * 2 ^ (min 17 64))))])] := by
 dsimp only [slices_xorshift_Next] at h
 refine fob [2] Tryz.call217 Tryz.func217 rfl (.cons rfl .nil) ?_
 refine sk .a ?_
 refine q1 ?_
 refine ts .a ?_
 refine TriE.draw (by kernel_rfl) ?_
 refine dko 10 (.i 11 (.ptr 0 0 0) (.i 10 (vk .u64 (iXor .u64 a0 (IntKind.u64.wrap (a0 * 2 ^ (min 13 64))))) (.i 9 (vk .u64 (IntKind.u64.wrap (a0 * 2 ^ (min 13 64)))) (.i 8 (vk .u64 a0) (.i 7 (.ptr 0 0 0) (.i 6 (.ptr 0 0 0) (.i 5 (vk .u64 a0) (.i 4 (.ptr 0 0 0) (.i 3 (.ptr 0 0 0) .a))))))))) [some (.row 1 [vk .u64 (iXor .u64 a0 (IntKind.u64.wrap (a0 * 2 ^ (min 13 64))))]),none,none,none,none,none,none,none,none,none,none] ?_
 refine dfi (ob':=[some (.row 1 [vk .u64 (iXor .u64 a0 (IntKind.u64.wrap (a0 * 2 ^ (min 13 64))))])]) (.d4 (.d4 (.d .a))) [0] (.cons rfl .nil) ?_
 refine q1 ?_
 refine ts .a ?_
 refine TriE.draw (by kernel_rfl) ?_
 refine dko 10 (.i 20 (.ptr 0 0 0) (.i 19 (vk .u64 (iXor .u64 (iXor .u64 a0 (IntKind.u64.wrap (a0 * 2 ^ (min 13 64)))) (Int.fdiv (iXor .u64 a0 (IntKind.u64.wrap (a0 * 2 ^ (min 13 64)))) (2 ^ (min 7 64))))) (.i 18 (vk .u64 (Int.fdiv (iXor .u64 a0 (IntKind.u64.wrap (a0 * 2 ^ (min 13 64)))) (2 ^ (min 7 64)))) (.i 17 (vk .u64 (iXor .u64 a0 (IntKind.u64.wrap (a0 * 2 ^ (min 13 64))))) (.i 16 (.ptr 0 0 0) (.i 15 (.ptr 0 0 0) (.i 14 (vk .u64 (iXor .u64 a0 (IntKind.u64.wrap (a0 * 2 ^ (min 13 64))))) (.i 13 (.ptr 0 0 0) (.i 12 (.ptr 0 0 0) .a))))))))) [some (.row 1 [vk .u64 (iXor .u64 (iXor .u64 a0 (IntKind.u64.wrap (a0 * 2 ^ (min 13 64)))) (Int.fdiv (iXor .u64 a0 (IntKind.u64.wrap (a0 * 2 ^ (min 13 64)))) (2 ^ (min 7 64))))]),none,none,none,none,none,none,none,none,none,none] ?_
 refine dfi (ob':=[some (.row 1 [vk .u64 (iXor .u64 (iXor .u64 a0 (IntKind.u64.wrap (a0 * 2 ^ (min 13 64)))) (Int.fdiv (iXor .u64 a0 (IntKind.u64.wrap (a0 * 2 ^ (min 13 64)))) (2 ^ (min 7 64))))])]) (.d4 (.d4 (.d .a))) [0] (.cons rfl .nil) ?_
 refine q1 ?_
 refine ts .a ?_
 refine TriE.draw (by kernel_rfl) ?_
 refine dko 10 (.i 29 (.ptr 0 0 0) (.i 28 (vk .u64 (iXor .u64 (iXor .u64 (iXor .u64 a0 (IntKind.u64.wrap (a0 * 2 ^ (min 13 64)))) (Int.fdiv (iXor .u64 a0 (IntKind.u64.wrap (a0 * 2 ^ (min 13 64)))) (2 ^ (min 7 64)))) (IntKind.u64.wrap ((iXor .u64 (iXor .u64 a0 (IntKind.u64.wrap (a0 * 2 ^ (min 13 64)))) (Int.fdiv (iXor .u64 a0 (IntKind.u64.wrap (a0 * 2 ^ (min 13 64)))) (2 ^ (min 7 64)))) * 2 ^ (min 17 64))))) (.i 27 (vk .u64 (IntKind.u64.wrap ((iXor .u64 (iXor .u64 a0 (IntKind.u64.wrap (a0 * 2 ^ (min 13 64)))) (Int.fdiv (iXor .u64 a0 (IntKind.u64.wrap (a0 * 2 ^ (min 13 64)))) (2 ^ (min 7 64)))) * 2 ^ (min 17 64)))) (.i 26 (vk .u64 (iXor .u64 (iXor .u64 a0 (IntKind.u64.wrap (a0 * 2 ^ (min 13 64)))) (Int.fdiv (iXor .u64 a0 (IntKind.u64.wrap (a0 * 2 ^ (min 13 64)))) (2 ^ (min 7 64))))) (.i 25 (.ptr 0 0 0) (.i 24 (.ptr 0 0 0) (.i 23 (vk .u64 (iXor .u64 (iXor .u64 a0 (IntKind.u64.wrap (a0 * 2 ^ (min 13 64)))) (Int.fdiv (iXor .u64 a0 (IntKind.u64.wrap (a0 * 2 ^ (min 13 64)))) (2 ^ (min 7 64))))) (.i 22 (.ptr 0 0 0) (.i 21 (.ptr 0 0 0) .a))))))))) [some (.row 1 [vk .u64 (iXor .u64 (iXor .u64 (iXor .u64 a0 (IntKind.u64.wrap (a0 * 2 ^ (min 13 64)))) (Int.fdiv (iXor .u64 a0 (IntKind.u64.wrap (a0 * 2 ^ (min 13 64)))) (2 ^ (min 7 64)))) (IntKind.u64.wrap ((iXor .u64 (iXor .u64 a0 (IntKind.u64.wrap (a0 * 2 ^ (min 13 64)))) (Int.fdiv (iXor .u64 a0 (IntKind.u64.wrap (a0 * 2 ^ (min 13 64)))) (2 ^ (min 7 64)))) * 2 ^ (min 17 64))))]),none,none,none,none,none,none,none,none,none,none] ?_
 refine dfi (ob':=[some (.row 1 [vk .u64 (iXor .u64 (iXor .u64 (iXor .u64 a0 (IntKind.u64.wrap (a0 * 2 ^ (min 13 64)))) (Int.fdiv (iXor .u64 a0 (IntKind.u64.wrap (a0 * 2 ^ (min 13 64)))) (2 ^ (min 7 64)))) (IntKind.u64.wrap ((iXor .u64 (iXor .u64 a0 (IntKind.u64.wrap (a0 * 2 ^ (min 13 64)))) (Int.fdiv (iXor .u64 a0 (IntKind.u64.wrap (a0 * 2 ^ (min 13 64)))) (2 ^ (min 7 64)))) * 2 ^ (min 17 64))))])]) (.d4 (.d4 (.d .a))) [0] (.cons rfl .nil) ?_
 refine sk (.i 2 (vk .u64 (iXor .u64 (iXor .u64 (iXor .u64 a0 (IntKind.u64.wrap (a0 * 2 ^ (min 13 64)))) (Int.fdiv (iXor .u64 a0 (IntKind.u64.wrap (a0 * 2 ^ (min 13 64)))) (2 ^ (min 7 64)))) (IntKind.u64.wrap ((iXor .u64 (iXor .u64 a0 (IntKind.u64.wrap (a0 * 2 ^ (min 13 64)))) (Int.fdiv (iXor .u64 a0 (IntKind.u64.wrap (a0 * 2 ^ (min 13 64)))) (2 ^ (min 7 64)))) * 2 ^ (min 17 64))))) .n) ?_
 refine q3 ?_
 have h:=si h
 subst h
 exact DoneS.ret Sees.refl rfl rfl
set_option maxHeartbeats 1000000 in
theorem slices_breakPatternsCmpFunc_PartCount_ok (n : Nat) (a0 : List PartCount) (a1 : Int) (a2 : Int) (r : (List PartCount)) (h : q22k n a0 a1 a2 = some r) : FnL Tryz.prog 206 [.own 0 0 a0.length,vi a1,vi a2,.fn (.func 136) [] []] [some (.row 2 (List.map ePartCount a0))] (.tup []) [some (.row 2 (List.map ePartCount r))] := by
 dsimp only [q22k] at h
 refine fob [] Tryz.call206 Tryz.func206 rfl (.cons rfl .nil) ?_
 refine sj ?_
 refine rk 2 (.k2 (.i 13 (vi a2) (.i 14 (vi a1) .n))) ?_
 obtain ⟨c1,h⟩:=ck h
 refine jo 15 (.bin .sub false 13 14) (r_sub rfl rfl c1) ?_
 refine jk 1 (.d (.k2 (.i 8 (vi (a2 - a1)) .n))) ?_
 refine sk (.k3 (.i 17 (vb (decide ((8 : Int) ≤ (a2 - a1)))) .n)) ?_
 refine tc h (fun c2 h=>?_) (fun c2 h=>?_)
 ·refine sko (.k3 (.i 9 (.ptr 1 0 0) .n)) [some (.row 2 (List.map ePartCount a0)),some (.row 1 [vk .u64 (IntKind.u64.wrap (a2 - a1))])] ?_
  refine sj ?_
  refine rk 1 (.k4 (.i 20 (vi (a2 - a1)) .n)) ?_
  obtain ⟨y1,hy1,h⟩:=bs h
  refine jc 21 [20] (slices_nextPowerOfTwo_ok n (a2 - a1) y1 hy1) ?_
  refine jk 1 (.d (.k4 (.i 10 (vk .u64 y1) .n))) ?_
  refine sj ?_
  refine rk 2 (.k4 (.k (.i 22 (vi a1) (.i 23 (vi (a2 - a1)) .n)))) ?_
  obtain ⟨c3,h⟩:=ck h
  refine jo 24 (.bin .quo false 23 (ki 4)) (r_quo rfl rfl c3) ?_
  obtain ⟨c4,h⟩:=ck h
  refine jo 25 (.bin .mul false 24 (ki 2)) (r_mul rfl rfl c4) ?_
  obtain ⟨c5,h⟩:=ck h
  refine jo 26 (.bin .add false 22 25) (r_add rfl rfl c5) ?_
  obtain ⟨c6,h⟩:=ck h
  refine jo 27 (.bin .sub false 26 (ki 1)) (r_sub rfl rfl c6) ?_
  refine jk 1 (.d4 (.k4 (.k (.i 11 (vi ((a1 + ((Int.tdiv (a2 - a1) 4) * 2)) - 1)) .n)))) ?_
  refine q4 ?_
  refine TriE.loopN h (fun (t : Int × Int × (List PartCount))=>match t with | (v4,v5,v6)=>St.mk [(0,.own 0 0 v6.length),(1,vi a1),(8,vi (a2 - a1)),(9,.ptr 1 0 0),(10,vk .u64 y1),(11,vi v4)] [some (.row 2 (List.map ePartCount v6)),some (.row 1 [vk .u64 v5])]) rfl ?_
  clear h
  rintro back ⟨v4,v5,v6⟩ h
  dsimp only [q3k] at h
  refine q1 ?_
  refine sj ?_
  refine rk 3 (.k4 (.k2 (.i 28 (vi v4) (.i 29 (vi a1) (.i 30 (vi (a2 - a1)) .n))))) ?_
  refine jo 31 (.bin .quo false 30 (ki 4)) (r_quo rfl rfl c3) ?_
  refine jo 32 (.bin .mul false 31 (ki 2)) (r_mul rfl rfl c4) ?_
  refine jo 33 (.bin .add false 29 32) (r_add rfl rfl c5) ?_
  obtain ⟨c7,h⟩:=ck h
  refine jo 34 (.bin .add false 33 (ki 1)) (r_add rfl rfl c7) ?_
  refine jk 1 (.d4 (.k4 (.k2 (.i 35 (vb (decide (v4 ≤ ((a1 + ((Int.tdiv (a2 - a1) 4) * 2)) + 1)))) .n)))) ?_
  refine tc h (fun c8 h=>?_) (fun c8 h=>?_)
  ·refine q2 ?_
   refine q7 ?_
   refine sj ?_
   obtain ⟨y7,hy7,h⟩:=bs h
   refine jco (vk .u64 (iXor .u64 (iXor .u64 (iXor .u64 v5 (IntKind.u64.wrap (v5 * 2 ^ (min 13 64)))) (Int.fdiv (iXor .u64 v5 (IntKind.u64.wrap (v5 * 2 ^ (min 13 64)))) (2 ^ (min 7 64)))) (IntKind.u64.wrap ((iXor .u64 (iXor .u64 v5 (IntKind.u64.wrap (v5 * 2 ^ (min 13 64)))) (Int.fdiv (iXor .u64 v5 (IntKind.u64.wrap (v5 * 2 ^ (min 13 64)))) (2 ^ (min 7 64)))) * 2 ^ (min 17 64))))) 38 [9] (slices_xorshift_Next_ok n v5 y7 hy7) [1] rfl (.cons rfl .nil) (.cons rfl .nil) rfl ?_
   refine rk 3 (.d (.k4 (.k2 (.i 41 (vk .u64 (iAnd .u64 (iXor .u64 (iXor .u64 (iXor .u64 v5 (IntKind.u64.wrap (v5 * 2 ^ (min 13 64)))) (Int.fdiv (iXor .u64 v5 (IntKind.u64.wrap (v5 * 2 ^ (min 13 64)))) (2 ^ (min 7 64)))) (IntKind.u64.wrap ((iXor .u64 (iXor .u64 v5 (IntKind.u64.wrap (v5 * 2 ^ (min 13 64)))) (Int.fdiv (iXor .u64 v5 (IntKind.u64.wrap (v5 * 2 ^ (min 13 64)))) (2 ^ (min 7 64)))) * 2 ^ (min 17 64)))) (IntKind.u64.wrap (y1 - 1)))) .n)))) ?_
   obtain ⟨c9,h⟩:=ck h
   refine jo 42 (.conv .i64 41) (ok_conv64 rfl c9) ?_
   refine jk 1 (.d (.k4 (.k2 (.i 12 (vi (iAnd .u64 (iXor .u64 (iXor .u64 (iXor .u64 v5 (IntKind.u64.wrap (v5 * 2 ^ (min 13 64)))) (Int.fdiv (iXor .u64 v5 (IntKind.u64.wrap (v5 * 2 ^ (min 13 64)))) (2 ^ (min 7 64)))) (IntKind.u64.wrap ((iXor .u64 (iXor .u64 v5 (IntKind.u64.wrap (v5 * 2 ^ (min 13 64)))) (Int.fdiv (iXor .u64 v5 (IntKind.u64.wrap (v5 * 2 ^ (min 13 64)))) (2 ^ (min 7 64)))) * 2 ^ (min 17 64)))) (IntKind.u64.wrap (y1 - 1)))) .n)))) ?_
   refine TriE.seqK h (fun (v8 : Int)=>St.mk [(0,.own 0 0 v6.length),(1,vi a1),(8,vi (a2 - a1)),(9,.ptr 1 0 0),(10,vk .u64 y1),(11,vi v4),(12,vi v8)] [some (.row 2 (List.map ePartCount v6)),some (.row 1 [vk .u64 (iXor .u64 (iXor .u64 (iXor .u64 v5 (IntKind.u64.wrap (v5 * 2 ^ (min 13 64)))) (Int.fdiv (iXor .u64 v5 (IntKind.u64.wrap (v5 * 2 ^ (min 13 64)))) (2 ^ (min 7 64)))) (IntKind.u64.wrap ((iXor .u64 (iXor .u64 v5 (IntKind.u64.wrap (v5 * 2 ^ (min 13 64)))) (Int.fdiv (iXor .u64 v5 (IntKind.u64.wrap (v5 * 2 ^ (min 13 64)))) (2 ^ (min 7 64)))) * 2 ^ (min 17 64))))])]) ?_ ?_
   ·rintro v8 h
    refine ts .a ?_
    refine TriE.draw (by kernel_rfl) ?_
    refine dk 5 (.i 53 (vi v8) (.i 52 (vi a1) (.i 51 (.own 0 0 v6.length) (.i 50 (vi v4) (.i 49 (.own 0 0 v6.length) .a))))) ?_
    obtain ⟨c12,h⟩:=ck h
    refine dp 54 (.bin .add false 52 53) (r_add rfl rfl c12) ?_
    refine dk 3 (.i 57 (vi v8) (.i 56 (vi a1) (.i 55 (.own 0 0 v6.length) .a))) ?_
    refine dp 58 (.bin .add false 56 57) (r_add rfl rfl c12) ?_
    obtain ⟨c13,h⟩:=ck h
    refine dp 59 (.iaddr 2 55 58) (ok_iaddr_o0 (j:=(a1 + v8).toNat) rfl rfl rfl (inB_to c13) (inB_lt c13)) ?_
    obtain ⟨c14,h⟩:=ck h
    refine dp 60 (.load true 2 59) (ok_load_pm (l:=v6) (e:=ePartCount) (v:=.agg [vt ((ix v6 ((a1 + v8).toNat)).Part),vi ((ix v6 ((a1 + v8).toNat)).Count)]) rfl rfl c14 rfl) ?_
    refine dk 2 (.i 62 (vi v4) (.i 61 (.own 0 0 v6.length) .a)) ?_
    obtain ⟨c15,h⟩:=ck h
    refine dp 63 (.iaddr 2 61 62) (ok_iaddr_o0 (j:=v4.toNat) rfl rfl rfl (inB_to c15) (inB_lt c15)) ?_
    obtain ⟨c16,h⟩:=ck h
    refine dp 64 (.load true 2 63) (ok_load_pm (l:=v6) (e:=ePartCount) (v:=.agg [vt ((ix v6 v4.toNat).Part),vi ((ix v6 v4.toNat).Count)]) rfl rfl c16 rfl) ?_
    refine dp 65 (.iaddr 2 49 50) (ok_iaddr_o0 (j:=v4.toNat) rfl rfl rfl (inB_to c15) (inB_lt c15)) ?_
    refine dm (.store 2 65 60) _ (ok_store_m (l:=v6) (e:=ePartCount) (x':=(ix v6 ((a1 + v8).toNat))) (u:=.agg [vt ((ix v6 ((a1 + v8).toNat)).Part),vi ((ix v6 ((a1 + v8).toNat)).Count)]) rfl rfl rfl c16 rfl rfl) rfl rfl ?_
    refine dp 66 (.iaddr 2 51 54) (ok_iaddr_o0 (j:=(a1 + v8).toNat) rfl rfl rfl (inB_to c13) (inB_lt c13)) ?_
    obtain ⟨c17,h⟩:=ck h
    refine dm (.store 2 66 64) _ (ok_store_m (l:=(List.set v6 v4.toNat (ix v6 ((a1 + v8).toNat)))) (e:=ePartCount) (x':=(ix v6 v4.toNat)) (u:=.agg [vt ((ix v6 v4.toNat).Part),vi ((ix v6 v4.toNat).Count)]) rfl rfl rfl c17 rfl rfl) rfl rfl ?_
    refine dfi (ob':=[some (.row 2 (List.map ePartCount (List.set (List.set v6 v4.toNat (ix v6 ((a1 + v8).toNat))) ((a1 + v8).toNat) (ix v6 v4.toNat)))),some (.row 1 [vk .u64 (iXor .u64 (iXor .u64 (iXor .u64 v5 (IntKind.u64.wrap (v5 * 2 ^ (min 13 64)))) (Int.fdiv (iXor .u64 v5 (IntKind.u64.wrap (v5 * 2 ^ (min 13 64)))) (2 ^ (min 7 64)))) (IntKind.u64.wrap ((iXor .u64 (iXor .u64 v5 (IntKind.u64.wrap (v5 * 2 ^ (min 13 64)))) (Int.fdiv (iXor .u64 v5 (IntKind.u64.wrap (v5 * 2 ^ (min 13 64)))) (2 ^ (min 7 64)))) * 2 ^ (min 17 64))))])]) (.d4 (.d4 (.d4 (.d4 (.d2 (.k4 (.k2 .n))))))) [0,1] (obRen_row ePartCount_frz rfl (.cons rfl .nil)) ?_
    refine q6 ?_
    refine rk 1 (.k4 (.k (.i 36 (vi v4) .n))) ?_
    obtain ⟨c18,h⟩:=ck h
    refine jo 37 (.bin .add false 36 (ki 1)) (r_add rfl rfl c18) ?_
    refine jk 1 (.d (.k4 (.k (.i 11 (vi (v4 + 1)) .n)))) ?_
    exact Vs.intro (Sees.less (.cons (by simp only [List.length_set]; rfl) (.cons rfl (.cons rfl (.cons rfl (.cons rfl (.cons rfl .nil))))))) ⟨(v4 + 1,iXor .u64 (iXor .u64 (iXor .u64 v5 (IntKind.u64.wrap (v5 * 2 ^ (min 13 64)))) (Int.fdiv (iXor .u64 v5 (IntKind.u64.wrap (v5 * 2 ^ (min 13 64)))) (2 ^ (min 7 64)))) (IntKind.u64.wrap ((iXor .u64 (iXor .u64 v5 (IntKind.u64.wrap (v5 * 2 ^ (min 13 64)))) (Int.fdiv (iXor .u64 v5 (IntKind.u64.wrap (v5 * 2 ^ (min 13 64)))) (2 ^ (min 7 64)))) * 2 ^ (min 17 64))),(List.set (List.set v6 v4.toNat (ix v6 ((a1 + v8).toNat))) ((a1 + v8).toNat) (ix v6 v4.toNat))),rfl,h⟩
   intro k1 h
   refine sk (.k4 (.k3 (.i 45 (vb (decide ((a2 - a1) ≤ (iAnd .u64 (iXor .u64 (iXor .u64 (iXor .u64 v5 (IntKind.u64.wrap (v5 * 2 ^ (min 13 64)))) (Int.fdiv (iXor .u64 v5 (IntKind.u64.wrap (v5 * 2 ^ (min 13 64)))) (2 ^ (min 7 64)))) (IntKind.u64.wrap ((iXor .u64 (iXor .u64 v5 (IntKind.u64.wrap (v5 * 2 ^ (min 13 64)))) (Int.fdiv (iXor .u64 v5 (IntKind.u64.wrap (v5 * 2 ^ (min 13 64)))) (2 ^ (min 7 64)))) * 2 ^ (min 17 64)))) (IntKind.u64.wrap (y1 - 1)))))) .n))) ?_
   refine tc h (fun c10 h=>?_) (fun c10 h=>?_)
   ·refine q6 ?_
    refine rk 2 (.k4 (.k2 (.i 46 (vi (iAnd .u64 (iXor .u64 (iXor .u64 (iXor .u64 v5 (IntKind.u64.wrap (v5 * 2 ^ (min 13 64)))) (Int.fdiv (iXor .u64 v5 (IntKind.u64.wrap (v5 * 2 ^ (min 13 64)))) (2 ^ (min 7 64)))) (IntKind.u64.wrap ((iXor .u64 (iXor .u64 v5 (IntKind.u64.wrap (v5 * 2 ^ (min 13 64)))) (Int.fdiv (iXor .u64 v5 (IntKind.u64.wrap (v5 * 2 ^ (min 13 64)))) (2 ^ (min 7 64)))) * 2 ^ (min 17 64)))) (IntKind.u64.wrap (y1 - 1)))) (.i 47 (vi (a2 - a1)) .n)))) ?_
    obtain ⟨c11,h⟩:=ck h
    refine jo 48 (.bin .sub false 46 47) (r_sub rfl rfl c11) ?_
    refine jk 1 (.d (.k4 (.k2 (.i 12 (vi ((iAnd .u64 (iXor .u64 (iXor .u64 (iXor .u64 v5 (IntKind.u64.wrap (v5 * 2 ^ (min 13 64)))) (Int.fdiv (iXor .u64 v5 (IntKind.u64.wrap (v5 * 2 ^ (min 13 64)))) (2 ^ (min 7 64)))) (IntKind.u64.wrap ((iXor .u64 (iXor .u64 v5 (IntKind.u64.wrap (v5 * 2 ^ (min 13 64)))) (Int.fdiv (iXor .u64 v5 (IntKind.u64.wrap (v5 * 2 ^ (min 13 64)))) (2 ^ (min 7 64)))) * 2 ^ (min 17 64)))) (IntKind.u64.wrap (y1 - 1))) - (a2 - a1))) .n)))) ?_
    exact Vs.intro Sees.refl ⟨((iAnd .u64 (iXor .u64 (iXor .u64 (iXor .u64 v5 (IntKind.u64.wrap (v5 * 2 ^ (min 13 64)))) (Int.fdiv (iXor .u64 v5 (IntKind.u64.wrap (v5 * 2 ^ (min 13 64)))) (2 ^ (min 7 64)))) (IntKind.u64.wrap ((iXor .u64 (iXor .u64 v5 (IntKind.u64.wrap (v5 * 2 ^ (min 13 64)))) (Int.fdiv (iXor .u64 v5 (IntKind.u64.wrap (v5 * 2 ^ (min 13 64)))) (2 ^ (min 7 64)))) * 2 ^ (min 17 64)))) (IntKind.u64.wrap (y1 - 1))) - (a2 - a1)),rfl,h⟩
   refine q2 ?_
   exact Vs.intro sy ⟨(iAnd .u64 (iXor .u64 (iXor .u64 (iXor .u64 v5 (IntKind.u64.wrap (v5 * 2 ^ (min 13 64)))) (Int.fdiv (iXor .u64 v5 (IntKind.u64.wrap (v5 * 2 ^ (min 13 64)))) (2 ^ (min 7 64)))) (IntKind.u64.wrap ((iXor .u64 (iXor .u64 v5 (IntKind.u64.wrap (v5 * 2 ^ (min 13 64)))) (Int.fdiv (iXor .u64 v5 (IntKind.u64.wrap (v5 * 2 ^ (min 13 64)))) (2 ^ (min 7 64)))) * 2 ^ (min 17 64)))) (IntKind.u64.wrap (y1 - 1))),rfl,h⟩
  refine q5 ?_
  have h:=si h
  subst h
  exact DoneS.normal (S' := ⟨[],[some (.row 2 (List.map ePartCount v6))]⟩) (sc [0] (by decide) (by kernel_rfl) (obRen_row ePartCount_frz rfl .nil) rfl rfl) rfl rfl
 refine q2 ?_
 have h:=si h
 subst h
 exact dn .n rfl rfl
set_option maxHeartbeats 1000000 in
theorem slices_pdqsortCmpFunc_PartCount_ok_ (n : Nat) : ∀ (fu : Nat) (a0 : List PartCount) (a1 : Int) (a2 : Int) (a3 : Int) (r : (List PartCount)),loopN (q12k n) fu (a0,a1,a2,a3) = some r → FnL Tryz.prog 178 [.own 0 0 a0.length,vi a1,vi a2,vi a3,.fn (.func 136) [] []] [some (.row 2 (List.map ePartCount a0))] (.tup []) [some (.row 2 (List.map ePartCount r))] := by
 intro fu
 induction fu with
 | zero =>
  intro a0 a1 a2 a3 r h
  cases h
 | succ fu ih =>
  intro a0 a1 a2 a3 r h
  replace h : q12k n (loopN (q12k n) fu) (a0,a1,a2,a3) = some r:=h
  dsimp only [q12k] at h
  refine fob [] Tryz.call178 Tryz.func178 rfl (.cons rfl .nil) ?_
  refine sk (.k4 (.k (.i 10 (vb true) .n))) ?_
  refine sk (.k4 (.k2 (.i 11 (vb true) .n))) ?_
  refine q4 ?_
  refine TriE.loopN h (fun (t : Int × (List PartCount) × Bool × Bool × Int × Int)=>match t with | (v15,v16,v17,v18,v19,v37)=>St.mk [(0,.own 0 0 v16.length),(1,vi v15),(2,vi v19),(3,vi v37),(4,.fn (.func 136) [] []),(10,vb v17),(11,vb v18)] [some (.row 2 (List.map ePartCount v16))]) rfl ?_
  clear h
  rintro back ⟨v15,v16,v17,v18,v19,v37⟩ h
  dsimp only [q10k] at h
  refine q4 ?_
  refine sj ?_
  refine rk 2 (.k4 (.k3 (.i 21 (vi v19) (.i 22 (vi v15) .n)))) ?_
  obtain ⟨c1,h⟩:=ck h
  refine jo 23 (.bin .sub false 21 22) (r_sub rfl rfl c1) ?_
  refine jk 1 (.d (.k4 (.k3 (.i 12 (vi (v19 - v15)) .n)))) ?_
  refine q1 ?_
  refine sk (.k4 (.k4 (.i 25 (vb (decide ((v19 - v15) ≤ (12 : Int)))) .n))) ?_
  refine tc h (fun c2 h=>?_) (fun c2 h=>?_)
  ·refine sj ?_
   refine rk 4 (.i 26 (.own 0 0 v16.length) (.i 27 (vi v15) (.i 28 (vi v19) (.i 29 (.fn (.func 136) [] []) .n)))) ?_
   obtain ⟨y38,hy38,h⟩:=bs h
   refine jco (.tup []) 30 [26,27,28,29] (slices_insertionSortCmpFunc_PartCount_ok n v16 v15 v19 y38 hy38) [0] rfl (.same (row_ren ePartCount_frz _ _ _) .nil) (.same (row_ren ePartCount_frz _ _ _) .nil) rfl ?_
   obtain ⟨c3,h⟩:=ck h
   refine RegJ.sees (S':=⟨[(26,.own 0 0 y38.length),(27,vi v15),(28,vi v19),(29,.fn (.func 136) [] []),(30,.tup [])],[some (.row 2 (List.map ePartCount y38))]⟩) (Sees.cov (Cov.mk2 (rs:=[0]) (by decide) rfl rfl (.cons (.inl (by rw [show v16.length = y38.length from of_decide_eq_true c3]; rfl)) (.cons (.inl rfl) (.cons (.inl rfl) (.cons (.inl rfl) (.cons (.inl rfl) .nil))))) (obRen_row ePartCount_frz rfl .nil))) ?_
   refine jf .n ?_
   refine q3 ?_
   have h:=si h
   subst h
   exact DoneS.ret Sees.refl rfl rfl
  refine q2 ?_
  refine q1 ?_
  refine sk (.k4 (.k4 (.i 32 (vb (v37 == (0 : Int))) .n))) ?_
  refine tc h (fun c4 h=>?_) (fun c4 h=>?_)
  ·refine sj ?_
   refine rk 4 (.i 33 (.own 0 0 v16.length) (.i 34 (vi v15) (.i 35 (vi v19) (.i 36 (.fn (.func 136) [] []) .n)))) ?_
   obtain ⟨y39,hy39,h⟩:=bs h
   refine jco (.tup []) 37 [33,34,35,36] (slices_heapSortCmpFunc_PartCount_ok n v16 v15 v19 y39 hy39) [0] rfl (.same (row_ren ePartCount_frz _ _ _) .nil) (.same (row_ren ePartCount_frz _ _ _) .nil) rfl ?_
   obtain ⟨c5,h⟩:=ck h
   refine RegJ.sees (S':=⟨[(33,.own 0 0 y39.length),(34,vi v15),(35,vi v19),(36,.fn (.func 136) [] []),(37,.tup [])],[some (.row 2 (List.map ePartCount y39))]⟩) (Sees.cov (Cov.mk2 (rs:=[0]) (by decide) rfl rfl (.cons (.inl (by rw [show v16.length = y39.length from of_decide_eq_true c5]; rfl)) (.cons (.inl rfl) (.cons (.inl rfl) (.cons (.inl rfl) (.cons (.inl rfl) .nil))))) (obRen_row ePartCount_frz rfl .nil))) ?_
   refine jf .n ?_
   refine q3 ?_
   have h:=si h
   subst h
   exact DoneS.ret Sees.refl rfl rfl
  refine q2 ?_
  refine TriE.seqK h (fun (t : (List PartCount) × Int)=>match t with | (v41,v42)=>St.mk [(0,.own 0 0 v41.length),(1,vi v15),(2,vi v19),(4,.fn (.func 136) [] []),(10,vb v17),(11,vb v18),(12,vi (v19 - v15)),(3,vi v42)] [some (.row 2 (List.map ePartCount v41))]) ?_ ?_
  ·rintro ⟨v41,v42⟩ h
   refine sj ?_
   refine rk 4 (.k4 (.k4 (.i 48 (.own 0 0 v41.length) (.i 49 (vi v15) (.i 50 (vi v19) (.i 51 (.fn (.func 136) [] []) .n)))))) ?_
   obtain ⟨y43,hy43,h⟩:=bs h
   refine jco (.tup [vi y43.1,vi y43.2]) 52 [48,49,50,51] (slices_choosePivotCmpFunc_PartCount_ok n v41 v15 v19 y43 hy43) [0] rfl (.same (row_ren ePartCount_frz _ _ _) .nil) (.same (row_ren ePartCount_frz _ _ _) .nil) rfl ?_
   refine jk 5 (.d (.k4 (.k4 (.i 13 (vi y43.1) (.i 14 (vi y43.2) .n))))) ?_
   refine TriE.seqK h (fun (t : (List PartCount) × Int × Int)=>match t with | (v45,v46,v47)=>St.mk [(0,.own 0 0 v45.length),(1,vi v15),(2,vi v19),(4,.fn (.func 136) [] []),(10,vb v17),(11,vb v18),(12,vi (v19 - v15)),(3,vi v42),(13,vi v46),(14,vi v47)] [some (.row 2 (List.map ePartCount v45))]) ?_ ?_
   ·rintro ⟨v45,v46,v47⟩ h
    refine TriE.seqK h (fun (v49 : (List PartCount))=>St.mk [(0,.own 0 0 v49.length),(1,vi v15),(2,vi v19),(4,.fn (.func 136) [] []),(10,vb v17),(11,vb v18),(12,vi (v19 - v15)),(3,vi v42),(13,vi v46)] [some (.row 2 (List.map ePartCount v49))]) ?_ ?_
    ·rintro v49 h
     refine q1 ?_
     refine q1 ?_
     refine ts .a ?_
     refine TriE.draw (by kernel_rfl) ?_
     refine dk 3 (.i 83 (vb (decide ((0 : Int) < v15))) (.i 82 (vb (decide ((0 : Int) < v15))) (.i 81 (vi v15) .a))) ?_
     refine gd (decide ((0 : Int) < v15)) (.fn (.func 136) [] []) 84 (.mov 4) 83 true rfl (fun hg=>(.cons rfl .nil)) ?_
     refine gd (decide ((0 : Int) < v15)) (.own 0 0 v49.length) 85 (.mov 0) 83 true rfl (fun hg=>(.cons rfl .nil)) ?_
     refine gd (decide ((0 : Int) < v15)) (vi v15) 86 (.mov 1) 83 true rfl (fun hg=>(.cons rfl .nil)) ?_
     obtain ⟨c17,h⟩:=ck h
     refine gu (decide ((0 : Int) < v15)) 87 (.bin .sub false 86 (ki 1)) 83 true rfl (fun hg=>(r_sub rfl rfl (gor c17 hg))) (fun hg=>(.cons hg (.cons rfl .nil))) ?_
     obtain ⟨c18,h⟩:=ck h
     refine gu (decide ((0 : Int) < v15)) 88 (.iaddr 2 85 87) 83 true rfl (fun hg=>(ok_iaddr_o0 (j:=(v15 - 1).toNat) rfl rfl rfl (inB_to (gor c18 hg)) (inB_lt (gor c18 hg)))) (fun hg=>(.cons hg (.cons hg .nil))) ?_
     obtain ⟨c19,h⟩:=ck h
     refine gu (decide ((0 : Int) < v15)) 89 (.load true 2 88) 83 true rfl (fun hg=>(ok_load_pm (l:=v49) (e:=ePartCount) (v:=.agg [vt ((ix v49 ((v15 - 1).toNat)).Part),vi ((ix v49 ((v15 - 1).toNat)).Count)]) rfl rfl (gor c19 hg) rfl)) (fun hg=>(.cons hg .nil)) ?_
     refine gd (decide ((0 : Int) < v15)) (.own 0 0 v49.length) 90 (.mov 0) 83 true rfl (fun hg=>(.cons rfl .nil)) ?_
     refine gd (decide ((0 : Int) < v15)) (vi v46) 91 (.mov 13) 83 true rfl (fun hg=>(.cons rfl .nil)) ?_
     obtain ⟨c20,h⟩:=ck h
     refine gu (decide ((0 : Int) < v15)) 92 (.iaddr 2 90 91) 83 true rfl (fun hg=>(ok_iaddr_o0 (j:=v46.toNat) rfl rfl rfl (inB_to (gor c20 hg)) (inB_lt (gor c20 hg)))) (fun hg=>(.cons hg (.cons hg .nil))) ?_
     obtain ⟨c21,h⟩:=ck h
     refine gu (decide ((0 : Int) < v15)) 93 (.load true 2 92) 83 true rfl (fun hg=>(ok_load_pm (l:=v49) (e:=ePartCount) (v:=.agg [vt ((ix v49 v46.toNat).Part),vi ((ix v49 v46.toNat).Count)]) rfl rfl (gor c21 hg) rfl)) (fun hg=>(.cons hg .nil)) ?_
     obtain ⟨y50,hy50,h⟩:=bs h
     refine RegD.op (OpD.dyng (g:=decide ((0 : Int) < v15)) (y':=vi y50) (obx:=[]) _ _ _ (cy (IG 94 (.dyn 84 [89,93]) 83 true)) rfl rfl (fun hg=>q6k n (ix v49 ((v15 - 1).toNat)) (ix v49 v46.toNat) y50 (gcall_some hy50 hg)) [] (fun hg=>by kernel_rfl) (fun hg=>(.cons hg (.cons hg (.cons hg .nil)))) (by kernel_rfl) (by kernel_rfl) ObsRen.nil (by kernel_rfl) (by kernel_rfl) rfl) ?_
     refine gd (decide ((0 : Int) < v15)) (vb (decide (y50 < (0 : Int)))) 95 (.bin .lss false 94 (ki 0)) 83 true rfl (fun hg=>(.cons hg (.cons rfl .nil))) ?_
     refine gd (decide ((0 : Int) < v15)) (vb (!(decide (y50 < (0 : Int))))) 96 (.un .not 95) 83 true rfl (fun hg=>(.cons hg .nil)) ?_
     refine RegD.op (OpD.and (cy (I0 97 (.pick 83 96 (.c (.p (.bool false)))))) rfl rfl (by first | exact hokA1 | exact hokA0 | simp)) ?_
     refine dfi (.d4 (.d4 (.d4 (.d4 (.d (.k4 (.k4 (.k (.i 97 (vb ((decide ((0 : Int) < v15)) && (!(decide (y50 < (0 : Int)))))) .n))))))))) [0] (obRen_row ePartCount_frz rfl .nil) ?_
     refine tc h (fun c22 h=>?_) (fun c22 h=>?_)
     ·refine sj ?_
      refine rk 5 (.k (.d (.k4 (.d (.k (.i 98 (.own 0 0 v49.length) (.i 99 (vi v15) (.i 100 (vi v19) (.i 101 (vi v46) (.i 102 (.fn (.func 136) [] []) .n)))))))))) ?_
      obtain ⟨y51,hy51,h⟩:=bs h
      refine jco (vi y51.1) 103 [98,99,100,101,102] (slices_partitionEqualCmpFunc_PartCount_ok n v49 v15 v19 v46 y51 hy51) [0] rfl (.same (row_ren ePartCount_frz _ _ _) .nil) (.same (row_ren ePartCount_frz _ _ _) .nil) rfl ?_
      obtain ⟨c23,h⟩:=ck h
      refine RegJ.sees (S':=⟨[(0,.own 0 0 y51.2.length),(2,vi v19),(4,.fn (.func 136) [] []),(10,vb v17),(11,vb v18),(3,vi v42),(98,.own 0 0 y51.2.length),(99,vi v15),(100,vi v19),(101,vi v46),(102,.fn (.func 136) [] []),(103,vi y51.1)],[some (.row 2 (List.map ePartCount y51.2))]⟩) (Sees.cov (Cov.mk2 (rs:=[0]) (by decide) rfl rfl (.cons (.inl (by rw [show v49.length = y51.2.length from of_decide_eq_true c23]; rfl)) (.cons (.inl rfl) (.cons (.inl rfl) (.cons (.inl rfl) (.cons (.inl rfl) (.cons (.inl rfl) (.cons (.inl (by rw [show v49.length = y51.2.length from of_decide_eq_true c23]; rfl)) (.cons (.inl rfl) (.cons (.inl rfl) (.cons (.inl rfl) (.cons (.inl rfl) (.cons (.inl rfl) .nil)))))))))))) (obRen_row ePartCount_frz rfl .nil))) ?_
      refine jk 1 (.k4 (.k2 (.i 15 (vi y51.1) .n))) ?_
      refine sk (.k4 (.k2 (.i 1 (vi y51.1) .n))) ?_
      refine q5 ?_
      exact Vs.intro sy ⟨(y51.1,y51.2,v17,v18,v19,v42),rfl,h⟩
     refine q2 ?_
     refine sj ?_
     refine rk 5 (.k4 (.d2 (.k2 (.i 106 (.own 0 0 v49.length) (.i 107 (vi v15) (.i 108 (vi v19) (.i 109 (vi v46) (.i 110 (.fn (.func 136) [] []) .n)))))))) ?_
     obtain ⟨y52,hy52,h⟩:=bs h
     refine jco (.tup [vi y52.1,vb y52.2.2]) 111 [106,107,108,109,110] (slices_partitionCmpFunc_PartCount_ok n v49 v15 v19 v46 y52 hy52) [0] rfl (.same (row_ren ePartCount_frz _ _ _) .nil) (.same (row_ren ePartCount_frz _ _ _) .nil) rfl ?_
     obtain ⟨c24,h⟩:=ck h
     refine RegJ.sees (S':=⟨[(0,.own 0 0 y52.2.1.length),(1,vi v15),(2,vi v19),(4,.fn (.func 136) [] []),(12,vi (v19 - v15)),(3,vi v42),(106,.own 0 0 y52.2.1.length),(107,vi v15),(108,vi v19),(109,vi v46),(110,.fn (.func 136) [] []),(111,.tup [vi y52.1,vb y52.2.2])],[some (.row 2 (List.map ePartCount y52.2.1))]⟩) (Sees.cov (Cov.mk2 (rs:=[0]) (by decide) rfl rfl (.cons (.inl (by rw [show v49.length = y52.2.1.length from of_decide_eq_true c24]; rfl)) (.cons (.inl rfl) (.cons (.inl rfl) (.cons (.inl rfl) (.cons (.inl rfl) (.cons (.inl rfl) (.cons (.inl (by rw [show v49.length = y52.2.1.length from of_decide_eq_true c24]; rfl)) (.cons (.inl rfl) (.cons (.inl rfl) (.cons (.inl rfl) (.cons (.inl rfl) (.cons (.inl rfl) .nil)))))))))))) (obRen_row ePartCount_frz rfl .nil))) ?_
     refine jk 5 (.k4 (.k2 (.i 16 (vi y52.1) (.i 17 (vb y52.2.2) .n)))) ?_
     refine sk (.k4 (.k3 (.i 11 (vb y52.2.2) .n))) ?_
     refine sj ?_
     refine rk 2 (.k4 (.k4 (.i 115 (vi y52.1) (.i 116 (vi v15) .n)))) ?_
     obtain ⟨c25,h⟩:=ck h
     refine jo 117 (.bin .sub false 115 116) (r_sub rfl rfl c25) ?_
     refine rk 2 (.d (.k4 (.k4 (.i 117 (vi (y52.1 - v15)) (.i 118 (vi v19) (.i 119 (vi y52.1) .n)))))) ?_
     obtain ⟨c26,h⟩:=ck h
     refine jo 120 (.bin .sub false 118 119) (r_sub rfl rfl c26) ?_
     refine jk 2 (.d (.k4 (.k4 (.i 18 (vi (y52.1 - v15)) (.i 19 (vi (v19 - y52.1)) .n))))) ?_
     refine sj ?_
     refine rk 1 (.k4 (.d (.k4 (.k (.i 121 (vi (v19 - v15)) .n))))) ?_
     obtain ⟨c27,h⟩:=ck h
     refine jo 122 (.bin .quo false 121 (ki 8)) (r_quo rfl rfl c27) ?_
     refine jk 1 (.d (.k4 (.k4 (.k (.i 20 (vi (Int.tdiv (v19 - v15) 8)) .n))))) ?_
     refine sk (.k4 (.k4 (.k2 (.i 125 (vb (decide ((y52.1 - v15) < (v19 - y52.1)))) .n)))) ?_
     refine tc h (fun c28 h=>?_) (fun c28 h=>?_)
     ·refine sk (.k4 (.k3 (.i 10 (vb (decide ((Int.tdiv (v19 - v15) 8) ≤ (y52.1 - v15)))) .n))) ?_
      refine sj ?_
      refine rk 5 (.k (.d (.k4 (.k2 (.i 129 (.own 0 0 y52.2.1.length) (.i 130 (vi v15) (.i 131 (vi y52.1) (.i 132 (vi v42) (.i 133 (.fn (.func 136) [] []) .n))))))))) ?_
      obtain ⟨y53,hy53,h⟩:=bs h
      refine jco (.tup []) 134 [129,130,131,132,133] (ih y52.2.1 v15 y52.1 v42 y53 hy53) [0] rfl (.same (row_ren ePartCount_frz _ _ _) .nil) (.same (row_ren ePartCount_frz _ _ _) .nil) rfl ?_
      obtain ⟨c29,h⟩:=ck h
      refine RegJ.sees (S':=⟨[(0,.own 0 0 y53.length),(2,vi v19),(4,.fn (.func 136) [] []),(3,vi v42),(16,vi y52.1),(11,vb y52.2.2),(10,vb (decide ((Int.tdiv (v19 - v15) 8) ≤ (y52.1 - v15)))),(129,.own 0 0 y53.length),(130,vi v15),(131,vi y52.1),(132,vi v42),(133,.fn (.func 136) [] []),(134,.tup [])],[some (.row 2 (List.map ePartCount y53))]⟩) (Sees.cov (Cov.mk2 (rs:=[0]) (by decide) rfl rfl (.cons (.inl (by rw [show y52.2.1.length = y53.length from of_decide_eq_true c29]; rfl)) (.cons (.inl rfl) (.cons (.inl rfl) (.cons (.inl rfl) (.cons (.inl rfl) (.cons (.inl rfl) (.cons (.inl rfl) (.cons (.inl (by rw [show y52.2.1.length = y53.length from of_decide_eq_true c29]; rfl)) (.cons (.inl rfl) (.cons (.inl rfl) (.cons (.inl rfl) (.cons (.inl rfl) (.cons (.inl rfl) .nil))))))))))))) (obRen_row ePartCount_frz rfl .nil))) ?_
      refine jf (.k4 (.k3 .n)) ?_
      refine q6 ?_
      refine rk 1 (.k4 (.d (.k2 (.i 135 (vi y52.1) .n)))) ?_
      obtain ⟨c30,h⟩:=ck h
      refine jo 136 (.bin .add false 135 (ki 1)) (r_add rfl rfl c30) ?_
      refine jk 1 (.d (.k4 (.k2 (.i 1 (vi (y52.1 + 1)) .n)))) ?_
      exact Vs.intro sy ⟨(y52.1 + 1,y53,decide ((Int.tdiv (v19 - v15) 8) ≤ (y52.1 - v15)),y52.2.2,v19,v42),rfl,h⟩
     refine sk (.k4 (.k3 (.i 10 (vb (decide ((Int.tdiv (v19 - v15) 8) ≤ (v19 - y52.1)))) .n))) ?_
     refine sj ?_
     refine rk 2 (.k4 (.k4 (.i 140 (.own 0 0 y52.2.1.length) (.i 141 (vi y52.1) .n)))) ?_
     obtain ⟨c31,h⟩:=ck h
     refine jo 142 (.bin .add false 141 (ki 1)) (r_add rfl rfl c31) ?_
     refine rk 3 (.d (.k2 (.d (.k4 (.k2 (.i 142 (vi (y52.1 + 1)) (.i 143 (vi v19) (.i 144 (vi v42) (.i 145 (.fn (.func 136) [] []) .n))))))))) ?_
     obtain ⟨y54,hy54,h⟩:=bs h
     refine jco (.tup []) 146 [140,142,143,144,145] (ih y52.2.1 (y52.1 + 1) v19 v42 y54 hy54) [0] rfl (.same (row_ren ePartCount_frz _ _ _) .nil) (.same (row_ren ePartCount_frz _ _ _) .nil) rfl ?_
     obtain ⟨c32,h⟩:=ck h
     refine RegJ.sees (S':=⟨[(0,.own 0 0 y54.length),(1,vi v15),(4,.fn (.func 136) [] []),(3,vi v42),(16,vi y52.1),(11,vb y52.2.2),(10,vb (decide ((Int.tdiv (v19 - v15) 8) ≤ (v19 - y52.1)))),(140,.own 0 0 y54.length),(142,vi (y52.1 + 1)),(143,vi v19),(144,vi v42),(145,.fn (.func 136) [] []),(146,.tup [])],[some (.row 2 (List.map ePartCount y54))]⟩) (Sees.cov (Cov.mk2 (rs:=[0]) (by decide) rfl rfl (.cons (.inl (by rw [show y52.2.1.length = y54.length from of_decide_eq_true c32]; rfl)) (.cons (.inl rfl) (.cons (.inl rfl) (.cons (.inl rfl) (.cons (.inl rfl) (.cons (.inl rfl) (.cons (.inl rfl) (.cons (.inl (by rw [show y52.2.1.length = y54.length from of_decide_eq_true c32]; rfl)) (.cons (.inl rfl) (.cons (.inl rfl) (.cons (.inl rfl) (.cons (.inl rfl) (.cons (.inl rfl) .nil))))))))))))) (obRen_row ePartCount_frz rfl .nil))) ?_
     refine jf (.k4 (.k3 .n)) ?_
     refine tk (.k4 (.d (.k2 (.i 2 (vi y52.1) .n)))) ?_
     exact Vs.intro sy ⟨(v15,y54,decide ((Int.tdiv (v19 - v15) 8) ≤ (v19 - y52.1)),y52.2.2,y52.1,v42),rfl,h⟩
    intro k3 h
    refine sj ?_
    refine rk 2 (.k4 (.k4 (.k2 (.i 69 (vb v17) .n)))) ?_
    refine gj (vb v18) 70 (.mov 11) 69 true rfl ?_
    refine pa 71 69 70 rfl rfl ?_
    refine rk 1 (.d2 (.k4 (.k4 (.k2 (.i 70 (.cond v17 (vb v18)) (.i 72 (vb (v17 && v18)) .n)))))) ?_
    refine gj (vi v47) 73 (.mov 14) 72 true rfl ?_
    refine gk (vb (v47 == (1 : Int))) 74 (.bin .eql false 73 (ki 1)) 72 true rfl (fun hg=>(.cons hg (.cons rfl .nil))) ?_
    refine pa 75 72 74 rfl rfl ?_
    refine jf (.d3 (.k4 (.k4 (.k (.i 75 (vb ((v17 && v18) && (v47 == (1 : Int)))) .n))))) ?_
    refine tc h (fun c14 h=>?_) (fun c14 h=>?_)
    ·refine sj ?_
     refine rk 4 (.k4 (.k4 (.k (.i 76 (.own 0 0 v45.length) (.i 77 (vi v15) (.i 78 (vi v19) (.i 79 (.fn (.func 136) [] []) .n))))))) ?_
     obtain ⟨y48,hy48,h⟩:=bs h
     refine jco (vb y48.2) 80 [76,77,78,79] (slices_partialInsertionSortCmpFunc_PartCount_ok n v45 v15 v19 y48 hy48) [0] rfl (.same (row_ren ePartCount_frz _ _ _) .nil) (.same (row_ren ePartCount_frz _ _ _) .nil) rfl ?_
     obtain ⟨c15,h⟩:=ck h
     refine RegJ.sees (S':=⟨[(0,.own 0 0 y48.1.length),(1,vi v15),(2,vi v19),(4,.fn (.func 136) [] []),(10,vb v17),(11,vb v18),(12,vi (v19 - v15)),(3,vi v42),(13,vi v46),(76,.own 0 0 y48.1.length),(77,vi v15),(78,vi v19),(79,.fn (.func 136) [] []),(80,vb y48.2)],[some (.row 2 (List.map ePartCount y48.1))]⟩) (Sees.cov (Cov.mk2 (rs:=[0]) (by decide) rfl rfl (.cons (.inl (by rw [show v45.length = y48.1.length from of_decide_eq_true c15]; rfl)) (.cons (.inl rfl) (.cons (.inl rfl) (.cons (.inl rfl) (.cons (.inl rfl) (.cons (.inl rfl) (.cons (.inl rfl) (.cons (.inl rfl) (.cons (.inl rfl) (.cons (.inl (by rw [show v45.length = y48.1.length from of_decide_eq_true c15]; rfl)) (.cons (.inl rfl) (.cons (.inl rfl) (.cons (.inl rfl) (.cons (.inl rfl) .nil)))))))))))))) (obRen_row ePartCount_frz rfl .nil))) ?_
     refine jf (.k4 (.k4 (.k (.d4 .a)))) ?_
     refine tc h (fun c16 h=>?_) (fun c16 h=>?_)
     ·refine q3 ?_
      have h:=si h
      subst h
      exact dr .n rfl rfl
     refine q2 ?_
     exact Vs.intro sy ⟨y48.1,rfl,h⟩
    refine q2 ?_
    exact Vs.intro sy ⟨v45,rfl,h⟩
   intro k2 h
   refine sk (.k4 (.k4 (.k2 (.i 56 (vb (y43.2 == (2 : Int))) .n)))) ?_
   refine tc h (fun c9 h=>?_) (fun c9 h=>?_)
   ·refine sj ?_
    refine rk 4 (.k4 (.k4 (.k (.i 57 (.own 0 0 v41.length) (.i 58 (vi v15) (.i 59 (vi v19) (.i 60 (.fn (.func 136) [] []) .n))))))) ?_
    obtain ⟨y44,hy44,h⟩:=bs h
    refine jco (.tup []) 61 [57,58,59,60] (slices_reverseRangeCmpFunc_PartCount_ok n v41 v15 v19 y44 hy44) [0] rfl (.same (row_ren ePartCount_frz _ _ _) .nil) (.same (row_ren ePartCount_frz _ _ _) .nil) rfl ?_
    obtain ⟨c10,h⟩:=ck h
    refine RegJ.sees (S':=⟨[(0,.own 0 0 y44.length),(1,vi v15),(2,vi v19),(4,.fn (.func 136) [] []),(10,vb v17),(11,vb v18),(12,vi (v19 - v15)),(3,vi v42),(13,vi y43.1),(57,.own 0 0 y44.length),(58,vi v15),(59,vi v19),(60,.fn (.func 136) [] []),(61,.tup [])],[some (.row 2 (List.map ePartCount y44))]⟩) (Sees.cov (Cov.mk2 (rs:=[0]) (by decide) rfl rfl (.cons (.inl (by rw [show v41.length = y44.length from of_decide_eq_true c10]; rfl)) (.cons (.inl rfl) (.cons (.inl rfl) (.cons (.inl rfl) (.cons (.inl rfl) (.cons (.inl rfl) (.cons (.inl rfl) (.cons (.inl rfl) (.cons (.inl rfl) (.cons (.inl (by rw [show v41.length = y44.length from of_decide_eq_true c10]; rfl)) (.cons (.inl rfl) (.cons (.inl rfl) (.cons (.inl rfl) (.cons (.inl rfl) .nil)))))))))))))) (obRen_row ePartCount_frz rfl .nil))) ?_
    refine jf (.k4 (.k4 (.k .n))) ?_
    refine sj ?_
    refine rk 1 (.k4 (.k4 (.k (.i 62 (vi v19) .n)))) ?_
    obtain ⟨c11,h⟩:=ck h
    refine jo 63 (.bin .sub false 62 (ki 1)) (r_sub rfl rfl c11) ?_
    refine rk 2 (.d (.k4 (.k4 (.i 63 (vi (v19 - 1)) (.i 64 (vi y43.1) (.i 65 (vi v15) .n)))))) ?_
    obtain ⟨c12,h⟩:=ck h
    refine jo 66 (.bin .sub false 64 65) (r_sub rfl rfl c12) ?_
    obtain ⟨c13,h⟩:=ck h
    refine jo 67 (.bin .sub false 63 66) (r_sub rfl rfl c13) ?_
    refine jk 1 (.d2 (.k4 (.k4 (.i 13 (vi ((v19 - 1) - (y43.1 - v15))) .n)))) ?_
    refine tk (.k4 (.k4 (.k (.i 14 (vi 1) .n)))) ?_
    exact Vs.intro Sees.refl ⟨(y44,(v19 - 1) - (y43.1 - v15),1),rfl,h⟩
   refine q2 ?_
   exact Vs.intro sy ⟨(v41,y43.1,y43.2),rfl,h⟩
  intro k1 h
  refine sk (.k4 (.k4 (.i 39 (vb (!v17)) .n))) ?_
  refine tc h (fun c6 h=>?_) (fun c6 h=>?_)
  ·refine sj ?_
   refine rk 4 (.k4 (.k4 (.i 40 (.own 0 0 v16.length) (.i 41 (vi v15) (.i 42 (vi v19) (.i 43 (.fn (.func 136) [] []) .n)))))) ?_
   obtain ⟨y40,hy40,h⟩:=bs h
   refine jco (.tup []) 44 [40,41,42,43] (slices_breakPatternsCmpFunc_PartCount_ok n v16 v15 v19 y40 hy40) [0] rfl (.same (row_ren ePartCount_frz _ _ _) .nil) (.same (row_ren ePartCount_frz _ _ _) .nil) rfl ?_
   obtain ⟨c7,h⟩:=ck h
   refine RegJ.sees (S':=⟨[(0,.own 0 0 y40.length),(1,vi v15),(2,vi v19),(3,vi v37),(4,.fn (.func 136) [] []),(10,vb v17),(11,vb v18),(12,vi (v19 - v15)),(40,.own 0 0 y40.length),(41,vi v15),(42,vi v19),(43,.fn (.func 136) [] []),(44,.tup [])],[some (.row 2 (List.map ePartCount y40))]⟩) (Sees.cov (Cov.mk2 (rs:=[0]) (by decide) rfl rfl (.cons (.inl (by rw [show v16.length = y40.length from of_decide_eq_true c7]; rfl)) (.cons (.inl rfl) (.cons (.inl rfl) (.cons (.inl rfl) (.cons (.inl rfl) (.cons (.inl rfl) (.cons (.inl rfl) (.cons (.inl rfl) (.cons (.inl (by rw [show v16.length = y40.length from of_decide_eq_true c7]; rfl)) (.cons (.inl rfl) (.cons (.inl rfl) (.cons (.inl rfl) (.cons (.inl rfl) .nil))))))))))))) (obRen_row ePartCount_frz rfl .nil))) ?_
   refine jf (.k4 (.k4 .n)) ?_
   refine q6 ?_
   refine rk 1 (.k3 (.d (.k4 (.i 45 (vi v37) .n)))) ?_
   obtain ⟨c8,h⟩:=ck h
   refine jo 46 (.bin .sub false 45 (ki 1)) (r_sub rfl rfl c8) ?_
   refine jk 1 (.d (.k4 (.k3 (.i 3 (vi (v37 - 1)) .n)))) ?_
   exact Vs.intro Sees.refl ⟨(y40,v37 - 1),rfl,h⟩
  refine q2 ?_
  exact Vs.intro sy ⟨(v16,v37),rfl,h⟩
theorem slices_pdqsortCmpFunc_PartCount_ok (n : Nat) (a0 : List PartCount) (a1 : Int) (a2 : Int) (a3 : Int) (r : (List PartCount)) (h : slices_pdqsortCmpFunc_PartCount n a0 a1 a2 a3 = some r) : FnL Tryz.prog 178 [.own 0 0 a0.length,vi a1,vi a2,vi a3,.fn (.func 136) [] []] [some (.row 2 (List.map ePartCount a0))] (.tup []) [some (.row 2 (List.map ePartCount r))]:=slices_pdqsortCmpFunc_PartCount_ok_ n n a0 a1 a2 a3 r h
theorem slices_SortFunc_PartCount_ok (n : Nat) (a0 : List PartCount) (r : (List PartCount)) (h : q33k n a0 = some r) : FnL Tryz.prog 135 [.own 0 0 a0.length,.fn (.func 136) [] []] [some (.row 2 (List.map ePartCount a0))] (.tup []) [some (.row 2 (List.map ePartCount r))] := by
 dsimp only [q33k] at h
 refine fob [] Tryz.call135 Tryz.func135 rfl (.cons rfl .nil) ?_
 refine sk (.k2 (.i 4 (vi (a0.length : Int)) .n)) ?_
 refine q6 ?_
 refine rk 4 (.d (.k (.i 7 (.own 0 0 a0.length) (.i 8 (vi (a0.length : Int)) (.i 10 (vk .u64 (IntKind.u64.wrap (a0.length : Int))) .n))))) ?_
 obtain ⟨y1,hy1,h⟩:=bs h
 refine jc 11 [10] (math_bits_Len_ok n (IntKind.u64.wrap (a0.length : Int)) y1 hy1) ?_
 refine rk 1 (.d2 (.k2 (.i 11 (vi y1) (.i 12 (.fn (.func 136) [] []) .n)))) ?_
 obtain ⟨y2,hy2,h⟩:=bs h
 refine jco (.tup []) 13 [7,(ki 0),8,11,12] (slices_pdqsortCmpFunc_PartCount_ok n a0 0 (a0.length : Int) y1 y2 hy2) [0] rfl (.same (row_ren ePartCount_frz _ _ _) .nil) (.same (row_ren ePartCount_frz _ _ _) .nil) rfl ?_
 obtain ⟨c1,h⟩:=ck h
 refine RegJ.sees (S':=⟨[(7,.own 0 0 y2.length),(8,vi (a0.length : Int)),(11,vi y1),(12,.fn (.func 136) [] []),(13,.tup [])],[some (.row 2 (List.map ePartCount y2))]⟩) (Sees.cov (Cov.mk2 (rs:=[0]) (by decide) rfl rfl (.cons (.inl (by rw [show a0.length = y2.length from of_decide_eq_true c1]; rfl)) (.cons (.inl rfl) (.cons (.inl rfl) (.cons (.inl rfl) (.cons (.inl rfl) .nil))))) (obRen_row ePartCount_frz rfl .nil))) ?_
 refine jf .n ?_
 have h:=si h
 subst h
 exact DoneS.normal Sees.refl rfl rfl
set_option maxHeartbeats 1000000 in
theorem restore_PartsOf_ok (n : Nat) (a0 : List Task) (a1 : List Str) (r : Int × (List PartCount)) (h : restore_PartsOf n a0 a1 = some r) : FnL Tryz.prog 65 [eS 6 eTask a0,eS 1 vt a1] [] (.tup [eS 2 ePartCount r.2,vi r.1]) [] := by
 dsimp only [restore_PartsOf] at h
 refine fo [4,5] Tryz.call65 Tryz.func65 rfl ?_
 refine sk .a ?_
 refine q1 ?_
 refine sj ?_
 refine rko 3 (.k2 (.i 15 (eS 6 eTask a0) (.i 17 (.own 0 0 1) .n))) [some (.row 1 [eS 1 vt a1])] ?_
 refine RegJ.sees (Sees.freeze 0 (fr':=[(0,eS 6 eTask a0),(1,eS 1 vt a1),(15,eS 6 eTask a0),(17,eS 1 (eS 1 vt) ([a1] : List (List Str)))]) (ob':=[none]) rfl (frzs_cons rfl frzs_nil) (.cons (.refl _) (.cons (.refl _) (.cons (.refl _) (.cons (.own rfl (Nat.le_of_ble_eq_true rfl)) .nil)))) rfl) ?_
 obtain ⟨y1,hy1,h⟩:=bs h
 refine jc 18 [15,17] (restore_checkSets_ok n a0 ([a1] : List (List Str)) y1 hy1) ?_
 refine jk 1 (.d (.k2 (.i 6 (vi y1) .n))) ?_
 refine sk (.k3 (.i 20 (vb (y1 != (0 : Int))) .n)) ?_
 refine tc h (fun c1 h=>?_) (fun c1 h=>?_)
 ·refine sk (.i 4 .emp (.i 5 (vi y1) .n)) ?_
  refine q3 ?_
  have h:=si h
  subst h
  exact DoneS.ret (S' := ⟨[(4,eS 2 ePartCount ([] : List PartCount)),(5,vi y1)],[]⟩) (Sees.trans (Sees.vco (fr' := [(4,eS 2 ePartCount ([] : List PartCount)),(5,vi y1)]) (.cons .sl (.cons .same .nil))) (sc [] (by decide) (by kernel_rfl) ObRen.nil rfl rfl)) rfl rfl
 refine q2 ?_
 refine sj ?_
 refine jx 22 .mkmap _ rfl rfl rfl ?_
 refine jk 1 (.d (.k2 (.i 7 (.map 1) .n))) ?_
 refine TriE.seqK h (fun (v12 : (List (Str × Int)))=>St.mk [(7,.map 0)] [some (.mp (mpE vt vi v12))]) ?_ ?_
 ·rintro v12 h
  refine sk (.k (.i 12 .emp .n)) ?_
  refine TriE.seqK h (fun (v20 : (List PartCount))=>St.mk [(12,.own 0 0 v20.length)] [some (.row 2 (List.map ePartCount v20))]) ?_ ?_
  ·rintro v20 h
   refine sj ?_
   refine rk 1 (.k (.i 63 (.own 0 0 v20.length) .n)) ?_
   obtain ⟨y21,hy21,h⟩:=bs h
   refine jco (.tup []) 64 [63,(.c (.fn (.func 136) [] []))] (slices_SortFunc_PartCount_ok n v20 y21 hy21) [0] rfl (.same (row_ren ePartCount_frz _ _ _) .nil) (.same (row_ren ePartCount_frz _ _ _) .nil) rfl ?_
   obtain ⟨c15,h⟩:=ck h
   refine RegJ.sees (S':=⟨[(12,.own 0 0 y21.length),(63,.own 0 0 y21.length),(64,.tup [])],[some (.row 2 (List.map ePartCount y21))]⟩) (Sees.cov (Cov.mk2 (rs:=[0]) (by decide) rfl rfl (.cons (.inl (by rw [show v20.length = y21.length from of_decide_eq_true c15]; rfl)) (.cons (.inl (by rw [show v20.length = y21.length from of_decide_eq_true c15]; rfl)) (.cons (.inl rfl) .nil))) (obRen_row ePartCount_frz rfl .nil))) ?_
   refine jf (.k .n) ?_
   refine sk (.i 4 (.own 0 0 y21.length) (.i 5 (vi 0) .n)) ?_
   refine q3 ?_
   have h:=si h
   subst h
   exact DoneS.ret (S' := ⟨[(4,eS 2 ePartCount y21),(5,vi 0)],[]⟩) (Sees.trans (Sees.freeze 0 (fr' := [(4,eS 2 ePartCount y21),(5,vi 0)]) (ob' := [none]) rfl (frz_row ePartCount_frzE _) (.cons (frz_full rfl) (.cons (.refl _) .nil)) rfl) (sc [] (by decide) (by kernel_rfl) ObRen.nil rfl rfl)) rfl rfl
  intro k3 h
  refine sj ?_
  refine rk 1 (.d (.k (.i 50 (.map 0) .n))) ?_
  refine RegJ.rngM (d:=some 51) (t:=50) (n:=0) (ek:=vt) (ev:=vi) (l:=v12) (by kernel_rfl) rfl rfl vt_frz vi_frz ?_
  refine jp [(12,.emp),(51,.itp 1)] ?_
  refine q4 ?_
  refine TriE.sees (S':=⟨[(12,.own 1 0 ([] : List PartCount).length),(51,.itp 0)],[some (itO vt vi none v12),some (.row 2 (List.map ePartCount ([] : List PartCount)))]⟩) (Sees.trans (Sees.co (fr':=[(12,.own 2 0 0),(51,.itp 1)]) (ob':=[none,some (itO vt vi none v12)]) (.cons .own (.cons .same .nil)) (.same (.same .nil)) 2) (sc [1,2] (by decide) (by kernel_rfl) (obRen_it rfl (obRen_row ePartCount_frz rfl .nil)) rfl rfl)) ?_
  refine TriE.loopN h (fun (t : (List PartCount) × (Option (Str × Int)) × (List (Str × Int)))=>match t with | (v15,v16,v17)=>St.mk [(12,.own 1 0 v15.length),(51,.itp 0)] [some (itO vt vi v16 v17),some (.row 2 (List.map ePartCount v15))]) rfl ?_
  clear h
  rintro back ⟨v15,v16,v17⟩ h
  dsimp only [restore_PartsOf_L3] at h
  refine sj ?_
  refine RegJ.nxtM (d:=some 52) (n:=0) (t:=51) (c:=v16) (l:=v17) (by kernel_rfl) rfl rfl rfl (fun c10=>?_) (fun j18 x19 c11=>?_)
  ·have h := cond_t h (len0 c10)
   refine jq 1 [(12,.own 1 0 v15.length),(51,.itp 0),(53,vb false)] [some (itO vt vi v16 v17),some (.row 2 (List.map ePartCount v15))] ?_
   refine q1 ?_
   refine TriE.cond (b:=false) rfl (fun c12=>?_) (fun c12=>?_)
   ·cases c12
   refine q5 ?_
   exact Vs.intro (sc [1] (by decide) (by kernel_rfl) (obRen_row ePartCount_frz rfl .nil) rfl rfl) ⟨v15,rfl,h⟩
  have h:=pickK_at (cond_f h (lenS c11)) c11
  refine jq 1 [(12,.own 1 0 v15.length),(51,.itp 0),(53,vb true)] [some (itO vt vi (some x19) (List.eraseIdx v17 j18)),some (.row 2 (List.map ePartCount v15))] ?_
  refine q1 ?_
  refine TriE.cond (b:=true) rfl (fun c13=>?_) (fun c13=>?_)
  rotate_left
  ·cases c13
  refine q2 ?_
  refine q4 ?_
  refine sj ?_
  refine RegJ.entM (d:=some 54) (t:=51) (n:=0) (x:=x19) (l:=(List.eraseIdx v17 j18)) (by kernel_rfl) rfl rfl rfl ?_
  refine jq 4 [(12,.own 1 0 v15.length),(51,.itp 0),(13,vt x19.1),(14,vi x19.2)] [some (itO vt vi (some x19) (List.eraseIdx v17 j18)),some (.row 2 (List.map ePartCount v15))] ?_
  refine q6 ?_
  refine rko 5 (.d (.k (.i 57 (.own 1 0 v15.length) (.i 61 (.own 2 0 1) .n)))) [some (itO vt vi (some x19) (List.eraseIdx v17 j18)),some (.row 2 (List.map ePartCount v15)),some (.row 2 [.agg [vt x19.1,vi x19.2]])] ?_
  obtain ⟨c14,h⟩:=ck h
  refine jx 62 (.app 2 24 57 61) _ (ok_app_own (l:=v15) (l2:=([(PartCount.mk x19.1 x19.2)] : List PartCount)) (e:=ePartCount) (u:=.own 2 0 1) rfl rfl rfl rfl rfl c14) rfl rfl ?_
  refine jk 1 (.d (.k (.i 12 (.own 3 0 ((v15 ++ ([(PartCount.mk x19.1 x19.2)] : List PartCount)).length)) .n))) ?_
  exact Vs.intro (sc [0,3] (by decide) (by kernel_rfl) (obRen_it rfl (obRen_row ePartCount_frz rfl .nil)) rfl rfl) ⟨((v15 ++ ([(PartCount.mk x19.1 x19.2)] : List PartCount)),(some x19),(List.eraseIdx v17 j18)),rfl,h⟩
 intro k2 h
 refine sj ?_
 refine rk 1 (.k (.d (.k (.i 23 (eS 1 vt a1) .n)))) ?_
 refine jo 24 (.len 0 23) (ok_len_m rfl) ?_
 refine jk 1 (.d (.k3 (.i 24 (vi (a1.length : Int)) (.i 25 (vi 0) .n)))) ?_
 refine q4 ?_
 refine TriE.sees (S':=⟨[(0,eS 6 eTask a0),(7,.map 0),(23,eS 1 vt a1),(24,vi (a1.length : Int)),(25,vi 0)],[some (.mp (mpE vt vi ([] : List (Str × Int))))]⟩) (sc [1] (by decide) (by kernel_rfl) (obRen_mp vt_frz vi_frz rfl .nil) rfl rfl) ?_
 refine TriE.loopN h (fun (t : Nat × (List (Str × Int)))=>match t with | (v6,v7)=>St.mk [(0,eS 6 eTask a0),(7,.map 0),(23,eS 1 vt a1),(24,vi (a1.length : Int)),(25,vi v6)] [some (.mp (mpE vt vi v7))]) rfl ?_
 clear h
 rintro back ⟨v6,v7⟩ h
 dsimp only [restore_PartsOf_L2] at h
 refine sj ?_
 refine jo 26 (.bin .lss false 25 24) (n_lss (i:=v6) (j:=a1.length) rfl rfl) ?_
 refine jf (.d (.k4 (.k (.i 26 (vb (decide (v6 < a1.length))) .n)))) ?_
 refine q1 ?_
 refine tc h (fun c2 h=>?_) (fun c2 h=>?_)
 ·refine q2 ?_
  refine TriE.seqK h (fun (v11 : (List (Str × Int)))=>St.mk [(0,eS 6 eTask a0),(7,.map 0),(23,eS 1 vt a1),(24,vi (a1.length : Int)),(25,vi v6)] [some (.mp (mpE vt vi v11))]) ?_ ?_
  ·rintro v11 h
   refine q6 ?_
   obtain ⟨c9,h⟩:=ck h
   refine jo 49 (.bin .add false 25 (ki 1)) (r_addn (i:=v6) (j:=1) rfl rfl c9) ?_
   refine jk 1 (.d (.k4 (.i 25 (vi ((v6 + 1 : Nat) : Int)) .n))) ?_
   exact Vs.intro sy ⟨(v6 + 1,v11),rfl,h⟩
  intro k1 h
  refine q4 ?_
  refine sj ?_
  refine jo 27 (.iaddr 1 23 25) (ok_iaddr_m (j:=v6) rfl rfl rfl c2) ?_
  refine jo 28 (.load false 1 27) (ok_load_fm (v:=vt (ix a1 v6)) rfl c2 rfl) ?_
  refine jk 1 (.d2 (.k4 (.k (.i 9 (vt (ix a1 v6)) .n)))) ?_
  refine sj ?_
  refine rk 3 (.k4 (.k (.i 29 (eS 6 eTask a0) (.i 30 (eS 6 eTask a0) (.i 31 (vt (ix a1 v6)) .n))))) ?_
  obtain ⟨y8,hy8,h⟩:=bs h
  refine jc 32 [30,31] (restore_list_find_ok n a0 (ix a1 v6) y8 hy8) ?_
  obtain ⟨c3,h⟩:=ck h
  refine jo 33 (.iaddr 6 29 32) (ok_iaddr_m (j:=y8.toNat) rfl rfl (inB_to c3) (inB_lt c3)) ?_
  refine rk 1 (.d2 (.k4 (.k (.i 34 (.fptr 6 (List.map eTask a0) y8.toNat 5) .n)))) ?_
  obtain ⟨c4,h⟩:=ck h
  refine jo 35 (.load false 1 34) (ok_load_fm (v:=eS 2 ePartCount ((ix a0 y8.toNat).Parts)) rfl c4 rfl) ?_
  refine jo 36 (.len 0 35) (ok_len_m rfl) ?_
  refine jk 1 (.d2 (.k4 (.k (.i 35 (eS 2 ePartCount ((ix a0 y8.toNat).Parts)) (.i 36 (vi ((((ix a0 y8.toNat).Parts).length : Nat) : Int)) (.i 37 (vi 0) .n)))))) ?_
  refine q4 ?_
  refine ts (.k4 (.k3 (.i 37 (vi 0) .n))) ?_
  refine TriE.loopN h (fun (t : Nat × (List (Str × Int)))=>match t with | (v9,v10)=>St.mk [(0,eS 6 eTask a0),(7,.map 0),(23,eS 1 vt a1),(24,vi (a1.length : Int)),(25,vi v6),(35,eS 2 ePartCount ((ix a0 y8.toNat).Parts)),(36,vi ((((ix a0 y8.toNat).Parts).length : Nat) : Int)),(37,vi v9)] [some (.mp (mpE vt vi v10))]) rfl ?_
  clear h
  rintro back ⟨v9,v10⟩ h
  dsimp only [restore_PartsOf_L1] at h
  refine sj ?_
  refine jo 38 (.bin .lss false 37 36) (n_lss (i:=v9) (j:=((ix a0 y8.toNat).Parts).length) rfl rfl) ?_
  refine jf (.d (.k4 (.k4 (.i 38 (vb (decide (v9 < (((ix a0 y8.toNat).Parts).length)))) .n)))) ?_
  refine q1 ?_
  refine tc h (fun c5 h=>?_) (fun c5 h=>?_)
  ·refine q2 ?_
   refine q7 ?_
   refine sj ?_
   obtain ⟨c6,h⟩:=ck h
   refine jo 39 (.iaddr 2 35 37) (ok_iaddr_m (j:=v9) rfl rfl rfl c6) ?_
   refine jo 40 (.load true 2 39) (ok_load_fm (v:=.agg [vt ((ix ((ix a0 y8.toNat).Parts) v9).Part),vi ((ix ((ix a0 y8.toNat).Parts) v9).Count)]) rfl c6 rfl) ?_
   refine jko 2 (.d2 (.k4 (.k4 (.i 11 (.ptr 1 0 0) .n)))) [some (.mp (mpE vt vi v10)),some (.row 2 [.agg [vt ((ix ((ix a0 y8.toNat).Parts) v9).Part),vi ((ix ((ix a0 y8.toNat).Parts) v9).Count)]])] ?_
   refine q6 ?_
   refine rk 3 (.k4 (.k4 (.k (.i 41 (.map 0) (.i 43 (vt ((ix ((ix a0 y8.toNat).Parts) v9).Part)) .n))))) ?_
   refine jo 44 (.lookup true (.p (.int .i64 0)) false 41 43) (ok_lookup_s (l:=v10) (ev:=vi) (z0:=(0 : Int)) rfl rfl rfl rfl) ?_
   refine rk 2 (.d (.k4 (.k4 (.d (.k2 (.i 44 (vi (Option.getD (List.lookup ((ix ((ix a0 y8.toNat).Parts) v9).Part) v10) (0 : Int))) (.i 46 (vi ((ix ((ix a0 y8.toNat).Parts) v9).Count)) .n))))))) ?_
   obtain ⟨c7,h⟩:=ck h
   refine jo 47 (.bin .add false 44 46) (r_add rfl rfl c7) ?_
   refine jn (.mapset true 41 43 47) _ (ok_mapset_s (l:=v10) (ev:=vi) (v:=(Option.getD (List.lookup ((ix ((ix a0 y8.toNat).Parts) v9).Part) v10) (0 : Int)) + ((ix ((ix a0 y8.toNat).Parts) v9).Count)) rfl rfl rfl rfl) rfl rfl ?_
   refine jf (.d (.k4 (.k4 .n))) ?_
   refine q6 ?_
   obtain ⟨c8,h⟩:=ck h
   refine jo 48 (.bin .add false 37 (ki 1)) (r_addn (i:=v9) (j:=1) rfl rfl c8) ?_
   refine jk 1 (.d (.k4 (.k3 (.i 37 (vi ((v9 + 1 : Nat) : Int)) .n)))) ?_
   exact Vs.intro (sc [0] (by decide) (by kernel_rfl) (obRen_mp vt_frz vi_frz rfl .nil) rfl rfl) ⟨(v9 + 1,(mPut ((ix ((ix a0 y8.toNat).Parts) v9).Part) ((Option.getD (List.lookup ((ix ((ix a0 y8.toNat).Parts) v9).Part) v10) (0 : Int)) + ((ix ((ix a0 y8.toNat).Parts) v9).Count)) v10)),rfl,h⟩
  refine q5 ?_
  exact Vs.intro sy ⟨v10,rfl,h⟩
 refine q5 ?_
 exact Vs.intro sy ⟨v7,rfl,h⟩
theorem agraffetop_estimated_ok (n : Nat) (r : Bool) (h : agraffetop_estimated n = some r) : FnL Tryz.prog 75 [] [] (vb r) [] := by
 cases h
 exact closed_top
set_option maxHeartbeats 1000000 in
theorem restore_shelf_take_ok (n : Nat) (a0 : List Stocked) (a1 : List Int) (a2 : PartPromise) (r : Int × (List Int)) (h : restore_shelf_take n a0 a1 a2 = some r) : FnL Tryz.prog 103 [.ptr 0 0 0,.agg [vt a2.Instrument,vt a2.Part,vi a2.Count]] [some (.row 2 [.agg [eS 3 eStocked a0,.own 1 0 a1.length]]),some (.row 1 (List.map vi a1))] (vi r.1) [some (.row 2 [.agg [eS 3 eStocked a0,.own 1 0 a1.length]]),some (.row 1 (List.map vi r.2))] := by
 dsimp only [restore_shelf_take] at h
 refine fob [4] Tryz.call103 Tryz.func103 rfl (.cons rfl (.cons rfl .nil)) ?_
 refine sko (.k (.i 3 (.ptr 2 0 0) .n)) [some (.row 2 [.agg [eS 3 eStocked a0,.own 1 0 a1.length]]),some (.row 1 (List.map vi a1)),some (.row 3 [.agg [vt a2.Instrument,vt a2.Part,vi a2.Count]])] ?_
 refine q1 ?_
 refine ts .a ?_
 refine TriE.draw (by kernel_rfl) ?_
 refine dk 6 (.i 11 (vt a2.Part) (.i 10 (.ptr 2 0 1) (.i 9 (eS 3 eStocked a0) (.i 8 (.ptr 0 0 0) (.i 7 (.ptr 0 0 0) (.i 6 (.ptr 0 0 0) .a)))))) ?_
 obtain ⟨y1,hy1,h⟩:=bs h
 refine dc (vi y1) 0 12 [9,11] (restore_stocked_ok n a0 a2.Part y1 hy1) [] rfl ObsRen.nil ObsRen.nil rfl (.inr ⟨rfl,rfl⟩) ?_
 refine dk 1 (.i 5 (vi y1) .a) ?_
 refine dfi (ob':=[some (.row 2 [.agg [eS 3 eStocked a0,.own 1 0 a1.length]]),some (.row 1 (List.map vi a1)),some (.row 3 [.agg [vt a2.Instrument,vt a2.Part,vi a2.Count]])]) (.d4 (.d4 (.k2 (.i 5 (vi y1) .n)))) [0,1,2] (.cons rfl (obRen_row vi_frz rfl (.cons rfl .nil))) ?_
 refine q7 ?_
 refine sj ?_
 refine rk 2 (.k3 (.i 15 (vt a2.Instrument) .n)) ?_
 obtain ⟨y2,hy2,h⟩:=bs h
 refine jc 16 [15] (restore_isName_ok n a2.Instrument y2 hy2) ?_
 refine jk 2 (.d (.k3 (.i 13 (vb (!y2)) .n))) ?_
 refine tc h (fun c1 h=>?_) (fun c1 h=>?_)
 ·refine sk (.i 4 (vi 4) .n) ?_
  refine q3 ?_
  have h:=si h
  subst h
  exact DoneS.ret (S' := ⟨[(4,vi 4)],[some (.row 2 [.agg [eS 3 eStocked a0,.own 1 0 a1.length]]),some (.row 1 (List.map vi a1))]⟩) (sc [0,1] (by decide) (by kernel_rfl) (.cons rfl (obRen_row vi_frz rfl .nil)) rfl rfl) rfl rfl
 refine sk (.k3 (.i 18 (vb (decide (y1 < (0 : Int)))) .n)) ?_
 refine tc h (fun c2 h=>?_) (fun c2 h=>?_)
 ·refine sk (.i 4 (vi 6) .n) ?_
  refine q3 ?_
  have h:=si h
  subst h
  exact DoneS.ret (S' := ⟨[(4,vi 6)],[some (.row 2 [.agg [eS 3 eStocked a0,.own 1 0 a1.length]]),some (.row 1 (List.map vi a1))]⟩) (sc [0,1] (by decide) (by kernel_rfl) (.cons rfl (obRen_row vi_frz rfl .nil)) rfl rfl) rfl rfl
 refine sj ?_
 refine rk 2 (.k3 (.i 23 (vi a2.Count) .n)) ?_
 obtain ⟨y3,hy3,h⟩:=bs h
 refine jc 24 [23,(ki 1),(ki 10000)] (restore_within_ok n a2.Count 1 10000 y3 hy3) ?_
 refine jk 2 (.d (.k3 (.i 21 (vb (!((decide (1 ≤ a2.Count)) && (decide (a2.Count ≤ 10000))))) .n))) ?_
 refine tc h (fun c3 h=>?_) (fun c3 h=>?_)
 ·refine sk (.i 4 (vi 2) .n) ?_
  refine q3 ?_
  have h:=si h
  subst h
  exact DoneS.ret (S' := ⟨[(4,vi 2)],[some (.row 2 [.agg [eS 3 eStocked a0,.own 1 0 a1.length]]),some (.row 1 (List.map vi a1))]⟩) (sc [0,1] (by decide) (by kernel_rfl) (.cons rfl (obRen_row vi_frz rfl .nil)) rfl rfl) rfl rfl
 refine q1 ?_
 refine ts (.k3 .n) ?_
 refine TriE.draw (by kernel_rfl) ?_
 refine dk 7 (.i 33 (vi y1) (.i 32 (.own 1 0 a1.length) (.i 31 (.ptr 0 0 1) (.i 30 (.ptr 0 0 0) (.i 29 (.ptr 0 0 0) (.i 28 (vi a2.Count) (.i 27 (.ptr 2 0 2) .a))))))) ?_
 obtain ⟨c4,h⟩:=ck h
 refine dp 34 (.iaddr 1 32 33) (ok_iaddr_o0 (j:=y1.toNat) rfl rfl rfl (inB_to c4) (inB_lt c4)) ?_
 obtain ⟨c5,h⟩:=ck h
 refine dp 35 (.load false 1 34) (ok_load_pm (l:=a1) (e:=vi) (v:=vi (ix a1 y1.toNat)) rfl rfl c5 rfl) ?_
 refine dk 2 (.i 26 (vb (decide ((ix a1 y1.toNat) < a2.Count))) (.i 36 (vb (decide ((ix a1 y1.toNat) < a2.Count))) .a)) ?_
 refine dfi (ob':=[some (.row 2 [.agg [eS 3 eStocked a0,.own 1 0 a1.length]]),some (.row 1 (List.map vi a1)),some (.row 3 [.agg [vt a2.Instrument,vt a2.Part,vi a2.Count]])]) (.d4 (.d4 (.d3 (.k3 (.i 26 (vb (decide ((ix a1 y1.toNat) < a2.Count))) .n))))) [0,1,2] (.cons rfl (obRen_row vi_frz rfl (.cons rfl .nil))) ?_
 refine tc h (fun c6 h=>?_) (fun c6 h=>?_)
 ·refine sk (.i 4 (vi 20) .n) ?_
  refine q3 ?_
  have h:=si h
  subst h
  exact DoneS.ret (S' := ⟨[(4,vi 20)],[some (.row 2 [.agg [eS 3 eStocked a0,.own 1 0 a1.length]]),some (.row 1 (List.map vi a1))]⟩) (sc [0,1] (by decide) (by kernel_rfl) (.cons rfl (obRen_row vi_frz rfl .nil)) rfl rfl) rfl rfl
 refine q2 ?_
 refine q1 ?_
 refine ts (.k3 .n) ?_
 refine TriE.draw (by kernel_rfl) ?_
 refine dk 5 (.i 41 (vi y1) (.i 40 (.own 1 0 a1.length) (.i 39 (.ptr 0 0 1) (.i 38 (.ptr 0 0 0) (.i 37 (.ptr 0 0 0) .a))))) ?_
 refine dp 42 (.iaddr 1 40 41) (ok_iaddr_o0 (j:=y1.toNat) rfl rfl rfl (inB_to c4) (inB_lt c4)) ?_
 refine dp 43 (.load false 1 42) (ok_load_pm (l:=a1) (e:=vi) (v:=vi (ix a1 y1.toNat)) rfl rfl c5 rfl) ?_
 refine dk 2 (.i 45 (vi a2.Count) (.i 44 (.ptr 2 0 2) .a)) ?_
 obtain ⟨c7,h⟩:=ck h
 refine dp 46 (.bin .sub false 43 45) (r_sub rfl rfl c7) ?_
 refine dp 47 (.iaddr 1 40 41) (ok_iaddr_o0 (j:=y1.toNat) rfl rfl rfl (inB_to c4) (inB_lt c4)) ?_
 refine dm (.store 1 47 46) _ (ok_store_m (l:=a1) (e:=vi) (x':=(ix a1 y1.toNat) - a2.Count) (u:=vi ((ix a1 y1.toNat) - a2.Count)) rfl rfl rfl c5 rfl rfl) rfl rfl ?_
 refine dfi (ob':=[some (.row 2 [.agg [eS 3 eStocked a0,.own 1 0 a1.length]]),some (.row 1 (List.map vi (List.set a1 y1.toNat ((ix a1 y1.toNat) - a2.Count))))]) .n [0,1] (.cons rfl (obRen_row vi_frz rfl .nil)) ?_
 refine sk (.i 4 (vi 0) .n) ?_
 refine q3 ?_
 have h:=si h
 subst h
 exact DoneS.ret Sees.refl rfl rfl
set_option maxHeartbeats 1000000 in
theorem restore_shelfOf_ok (n : Nat) (a0 : List Stocked) (a1 : List PartPromise) (r : Int ⊕ (List Int)) (h : restore_shelfOf n a0 a1 = some r) : FnL Tryz.prog 99 [eS 3 eStocked a0,eS 3 ePartPromise a1] [] (match r with | .inl r => .tup [.p (.pointer none),vi r] | .inr r => .tup [.ptr 0 0 0,vi 0]) (match r with | .inl r => [] | .inr r => [some (.row 2 [.agg [eS 3 eStocked a0,.own 1 0 r.length]]),some (.row 1 (List.map vi r))]) := by
 dsimp only [restore_shelfOf] at h
 refine FnL.ofS (ts:=[4,5]) Tryz.call99 Tryz.func99 rfl rfl (Nat.le_of_ble_eq_true rfl) (by rcases r with r | r <;> exact Nat.le_of_ble_eq_true rfl) (fun j h=>absurd h (Nat.not_lt_zero j)) ?_
 refine sk .a ?_
 refine q1 ?_
 refine sj ?_
 refine rk 1 (.k2 (.i 13 (eS 3 eStocked a0) .n)) ?_
 obtain ⟨y1,hy1,h⟩:=bs h
 refine jc 14 [13] (restore_CheckStock_ok n a0 y1 hy1) ?_
 refine jk 1 (.d (.k2 (.i 6 (vi y1) .n))) ?_
 refine sk (.k3 (.i 16 (vb (y1 != (0 : Int))) .n)) ?_
 refine tc h (fun c1 h=>?_) (fun c1 h=>?_)
 ·refine sk (.i 4 (.p (.pointer none)) (.i 5 (vi y1) .n)) ?_
  refine q3 ?_
  have h:=si h
  subst h
  exact DoneS.ret Sees.refl rfl rfl
 refine q2 ?_
 refine q1 ?_
 refine sj ?_
 refine rk 1 (.k2 (.i 18 (eS 3 ePartPromise a1) .n)) ?_
 refine jo 19 (.len 0 18) (ok_len_m rfl) ?_
 refine jo 20 (.bin .gtr false 19 (ki 200)) (n_gtr (i:=a1.length) (j:=200) rfl rfl) ?_
 refine jf (.d2 (.k2 (.i 20 (vb (decide (200 < a1.length))) .n))) ?_
 refine tc h (fun c2 h=>?_) (fun c2 h=>?_)
 ·refine sk (.i 4 (.p (.pointer none)) (.i 5 (vi 8) .n)) ?_
  refine q3 ?_
  have h:=si h
  subst h
  exact DoneS.ret Sees.refl rfl rfl
 refine q2 ?_
 refine sko (.k2 (.i 7 (.ptr 0 0 0) .n)) [some (.row 2 [.agg [eS 3 eStocked a0,.emp]])] ?_
 refine TriE.seqK h (fun (v4 : (List Int))=>St.mk [(1,eS 3 ePartPromise a1),(7,.ptr 0 0 0)] [some (.row 2 [.agg [eS 3 eStocked a0,.own 1 0 v4.length]]),some (.row 1 (List.map vi v4))]) ?_ ?_
 ·rintro v4 h
  refine TriE.seqK h (fun (v9 : (List Int))=>St.mk [(7,.ptr 0 0 0)] [some (.row 2 [.agg [eS 3 eStocked a0,.own 1 0 v9.length]]),some (.row 1 (List.map vi v9))]) ?_ ?_
  ·rintro v9 h
   refine sk (.i 4 (.ptr 0 0 0) (.i 5 (vi 0) .n)) ?_
   refine q3 ?_
   have h:=si h
   subst h
   exact DoneS.ret Sees.refl rfl rfl
  intro k2 h
  refine sj ?_
  refine rk 1 (.d (.k (.i 42 (eS 3 ePartPromise a1) .n))) ?_
  refine jo 43 (.len 0 42) (ok_len_m rfl) ?_
  refine jk 1 (.d (.k2 (.i 43 (vi (a1.length : Int)) (.i 44 (vi 0) .n)))) ?_
  refine q4 ?_
  refine ts (.k3 (.i 44 (vi 0) .n)) ?_
  refine TriE.loopN h (fun (t : Nat × (List Int))=>match t with | (v6,v7)=>St.mk [(7,.ptr 0 0 0),(42,eS 3 ePartPromise a1),(43,vi (a1.length : Int)),(44,vi v6)] [some (.row 2 [.agg [eS 3 eStocked a0,.own 1 0 v7.length]]),some (.row 1 (List.map vi v7))]) rfl ?_
  clear h
  rintro back ⟨v6,v7⟩ h
  dsimp only [restore_shelfOf_L2] at h
  refine sj ?_
  refine jo 45 (.bin .lss false 44 43) (n_lss (i:=v6) (j:=a1.length) rfl rfl) ?_
  refine jf (.d (.k4 (.i 45 (vb (decide (v6 < a1.length))) .n))) ?_
  refine q1 ?_
  refine tc h (fun c6 h=>?_) (fun c6 h=>?_)
  ·refine q2 ?_
   refine q7 ?_
   refine sj ?_
   refine jo 46 (.iaddr 3 42 44) (ok_iaddr_m (j:=v6) rfl rfl rfl c6) ?_
   refine jo 47 (.load true 3 46) (ok_load_fm (v:=.agg [vt ((ix a1 v6).Instrument),vt ((ix a1 v6).Part),vi ((ix a1 v6).Count)]) rfl c6 rfl) ?_
   refine jko 2 (.d2 (.k4 (.i 11 (.ptr 2 0 0) .n))) [some (.row 2 [.agg [eS 3 eStocked a0,.own 1 0 v7.length]]),some (.row 1 (List.map vi v7)),some (.row 3 [.agg [vt ((ix a1 v6).Instrument),vt ((ix a1 v6).Part),vi ((ix a1 v6).Count)]])] ?_
   refine sj ?_
   refine rk 2 (.k4 (.i 48 (.ptr 0 0 0) (.i 49 (.agg [vt ((ix a1 v6).Instrument),vt ((ix a1 v6).Part),vi ((ix a1 v6).Count)]) .n))) ?_
   obtain ⟨y8,hy8,h⟩:=bs h
   refine jco (vi y8.1) 50 [48,49] (restore_shelf_take_ok n a0 v7 (ix a1 v6) y8 hy8) [0,1] rfl (.cons rfl (.same (row_ren vi_frz _ _ _) .nil)) (.cons rfl (.same (row_ren vi_frz _ _ _) .nil)) rfl ?_
   obtain ⟨c7,h⟩:=ck h
   refine RegJ.sees (S':=⟨[(7,.ptr 0 0 0),(42,eS 3 ePartPromise a1),(43,vi (a1.length : Int)),(44,vi v6),(48,.ptr 0 0 0),(49,.agg [vt ((ix a1 v6).Instrument),vt ((ix a1 v6).Part),vi ((ix a1 v6).Count)]),(50,vi y8.1)],[some (.row 2 [.agg [eS 3 eStocked a0,.own 1 0 y8.2.length]]),some (.row 1 (List.map vi y8.2)),some (.row 3 [.agg [vt ((ix a1 v6).Instrument),vt ((ix a1 v6).Part),vi ((ix a1 v6).Count)]])]⟩) (Sees.cov (Cov.mk2 (rs:=[0,1,2]) (by decide) rfl rfl (.cons (.inl rfl) (.cons (.inl rfl) (.cons (.inl rfl) (.cons (.inl rfl) (.cons (.inl rfl) (.cons (.inl rfl) (.cons (.inl rfl) .nil))))))) (.cons (by rw [show v7.length = y8.2.length from of_decide_eq_true c7]; rfl) (obRen_row vi_frz rfl (.cons rfl .nil))))) ?_
   refine jk 1 (.k4 (.i 12 (vi y8.1) .n)) ?_
   refine sk (.k4 (.k (.i 52 (vb (y8.1 != (0 : Int))) .n))) ?_
   refine tc h (fun c8 h=>?_) (fun c8 h=>?_)
   ·refine sk (.i 4 (.p (.pointer none)) (.i 5 (vi y8.1) .n)) ?_
    refine q3 ?_
    have h:=si h
    subst h
    exact DoneS.ret (S' := ⟨[(4,.p (.pointer none)),(5,vi y8.1)],[]⟩) (sc [] (by decide) (by kernel_rfl) ObRen.nil rfl rfl) rfl rfl
   refine q2 ?_
   refine q6 ?_
   obtain ⟨c9,h⟩:=ck h
   refine jo 54 (.bin .add false 44 (ki 1)) (r_addn (i:=v6) (j:=1) rfl rfl c9) ?_
   refine jk 1 (.d (.k3 (.i 44 (vi ((v6 + 1 : Nat) : Int)) .n))) ?_
   exact Vs.intro (sc [0,1] (by decide) (by kernel_rfl) (.cons rfl (obRen_row vi_frz rfl .nil)) rfl rfl) ⟨(v6 + 1,y8.2),rfl,h⟩
  refine q5 ?_
  exact Vs.intro sy ⟨v7,rfl,h⟩
 intro k1 h
 refine sj ?_
 refine rk 1 (.d (.k2 (.i 24 (eS 3 eStocked a0) .n))) ?_
 refine jo 25 (.len 0 24) (ok_len_m rfl) ?_
 refine jk 1 (.d (.k3 (.i 25 (vi (a0.length : Int)) (.i 26 (vi 0) .n)))) ?_
 refine q4 ?_
 refine TriE.sees (S':=⟨[(1,eS 3 ePartPromise a1),(7,.ptr 0 0 0),(24,eS 3 eStocked a0),(25,vi (a0.length : Int)),(26,vi 0)],[some (.row 2 [.agg [eS 3 eStocked a0,.own 1 0 ([] : List Int).length]]),some (.row 1 (List.map vi ([] : List Int)))]⟩) (Sees.trans (Sees.co (fr':=[(1,eS 3 ePartPromise a1),(7,.ptr 0 0 0),(24,eS 3 eStocked a0),(25,vi (a0.length : Int)),(26,vi 0)]) (ob':=[some (.row 2 [.agg [eS 3 eStocked a0,.own 1 0 0]])]) (.cons .same (.cons .same (.cons .same (.cons .same (.cons .same .nil))))) (.cell (.cons .same (.cons .own .nil)) rfl .nil) 1) sy) ?_
 refine TriE.loopN h (fun (t : Nat × (List Int))=>match t with | (v2,v3)=>St.mk [(1,eS 3 ePartPromise a1),(7,.ptr 0 0 0),(24,eS 3 eStocked a0),(25,vi (a0.length : Int)),(26,vi v2)] [some (.row 2 [.agg [eS 3 eStocked a0,.own 1 0 v3.length]]),some (.row 1 (List.map vi v3))]) rfl ?_
 clear h
 rintro back ⟨v2,v3⟩ h
 dsimp only [restore_shelfOf_L1] at h
 refine sj ?_
 refine jo 27 (.bin .lss false 26 25) (n_lss (i:=v2) (j:=a0.length) rfl rfl) ?_
 refine jf (.d (.k4 (.k (.i 27 (vb (decide (v2 < a0.length))) .n)))) ?_
 refine q1 ?_
 refine tc h (fun c3 h=>?_) (fun c3 h=>?_)
 ·refine q2 ?_
  refine q7 ?_
  refine sj ?_
  refine jo 28 (.iaddr 3 24 26) (ok_iaddr_m (j:=v2) rfl rfl rfl c3) ?_
  refine jo 29 (.load true 3 28) (ok_load_fm (v:=.agg [vt ((ix a0 v2).Part),vi ((ix a0 v2).Cents),vi ((ix a0 v2).Count)]) rfl c3 rfl) ?_
  refine jko 2 (.d2 (.k4 (.k (.i 9 (.ptr 2 0 0) .n)))) [some (.row 2 [.agg [eS 3 eStocked a0,.own 1 0 v3.length]]),some (.row 1 (List.map vi v3)),some (.row 3 [.agg [vt ((ix a0 v2).Part),vi ((ix a0 v2).Cents),vi ((ix a0 v2).Count)]])] ?_
  refine ts .a ?_
  refine TriE.draw (by kernel_rfl) ?_
  refine dko 8 (.i 37 (.own 10 0 1) (.i 36 (vi ((ix a0 v2).Count)) (.i 35 (.ptr 2 0 2) (.i 34 (.own 1 0 v3.length) (.i 33 (.ptr 0 0 1) (.i 32 (.ptr 0 0 0) (.i 31 (.ptr 0 0 0) (.i 30 (.ptr 0 0 0) .a)))))))) [some (.row 2 [.agg [eS 3 eStocked a0,.own 1 0 v3.length]]),some (.row 1 (List.map vi v3)),some (.row 3 [.agg [vt ((ix a0 v2).Part),vi ((ix a0 v2).Cents),vi ((ix a0 v2).Count)]]),none,none,none,none,none,none,none,some (.row 1 [vi ((ix a0 v2).Count)])] ?_
  obtain ⟨c4,h⟩:=ck h
  refine dx 38 (.app 1 8 34 37) _ (ok_app_own (l:=v3) (l2:=([(ix a0 v2).Count] : List Int)) (e:=vi) (u:=.own 10 0 1) rfl rfl rfl rfl rfl c4) rfl rfl ?_
  refine dko 3 (.i 40 (.ptr 0 0 1) (.i 39 (.ptr 0 0 0) .a)) [some (.row 2 [.agg [eS 3 eStocked a0,.own 11 0 ((v3 ++ ([(ix a0 v2).Count] : List Int)).length)]]),none,some (.row 3 [.agg [vt ((ix a0 v2).Part),vi ((ix a0 v2).Cents),vi ((ix a0 v2).Count)]]),none,none,none,none,none,none,none,some (.row 1 [vi ((ix a0 v2).Count)]),some (.row 1 (List.map vi (v3 ++ ([(ix a0 v2).Count] : List Int)))),none,none,none] ?_
  refine dfi (ob':=[some (.row 2 [.agg [eS 3 eStocked a0,.own 1 0 ((v3 ++ ([(ix a0 v2).Count] : List Int)).length)]]),some (.row 1 (List.map vi (v3 ++ ([(ix a0 v2).Count] : List Int))))]) (.d4 (.d4 (.d3 (.k4 (.k .n))))) [0,11] (.cons rfl (obRen_row vi_frz rfl .nil)) ?_
  refine q6 ?_
  obtain ⟨c5,h⟩:=ck h
  refine jo 41 (.bin .add false 26 (ki 1)) (r_addn (i:=v2) (j:=1) rfl rfl c5) ?_
  refine jk 1 (.d (.k4 (.i 26 (vi ((v2 + 1 : Nat) : Int)) .n))) ?_
  exact Vs.intro sy ⟨(v2 + 1,(v3 ++ ([(ix a0 v2).Count] : List Int))),rfl,h⟩
 refine q5 ?_
 exact Vs.intro sy ⟨v3,rfl,h⟩
theorem slices_Clone_PartPromise_ok (n : Nat) (a0 : List PartPromise) (r : (List PartPromise)) (h : slices_Clone_PartPromise n a0 = some r) : FnL Tryz.prog 104 [eS 3 ePartPromise a0] [] (.own 0 0 r.length) [some (.row 3 (List.map ePartPromise r))] := by
 dsimp only [slices_Clone_PartPromise] at h
 refine fo [2] Tryz.call104 Tryz.func104 rfl ?_
 refine sk .a ?_
 refine q1 ?_
 refine sj ?_
 refine rk 1 (.k (.i 3 (eS 3 ePartPromise a0) .n)) ?_
 refine RegJ.nileq (v:=eS 3 ePartPromise a0) (a0.isEmpty) (cy (I0 4 (.bin .eql false 3 (.c .emp)))) (by kernel_rfl) (.cons rfl (.cons rfl .nil)) rfl nil_sl (fun b1 hb1=>?_)
 have h:=nilK_some h b1 hb1
 refine jp [(0,eS 3 ePartPromise a0),(4,vb b1)] ?_
 refine tc h (fun c1 h=>?_) (fun c1 h=>?_)
 ·refine sk (.i 2 .emp .n) ?_
  refine q3 ?_
  have h:=si h
  subst h
  exact DoneS.ret (S' := ⟨[(2,.own 0 0 (([] : List PartPromise).length))],[some (.row 3 (List.map ePartPromise ([] : List PartPromise)))]⟩) (Sees.trans (Sees.co (fr' := [(2,.own 0 0 0)]) (ob' := []) (.cons .own .nil) ObCo.nil 3) sy) rfl rfl
 refine q2 ?_
 refine sj ?_
 refine rk 2 (.i 5 .emp (.i 6 (eS 3 ePartPromise a0) .n)) ?_
 obtain ⟨c2,h⟩:=ck h
 refine jx 7 (.app 3 40 5 6) _ (ok_app_emp (e:=ePartPromise) (l:=a0) (u:=eS 3 ePartPromise a0) rfl rfl els_sl c2) rfl rfl ?_
 refine jk 1 (.i 2 (.own 0 0 a0.length) .n) ?_
 refine q3 ?_
 have h:=si h
 subst h
 exact DoneS.ret Sees.refl rfl rfl
set_option maxHeartbeats 1000000 in
theorem restore_AddPromise_ok (n : Nat) (a0 : List Stocked) (a1 : List PartPromise) (a2 : PartPromise) (r : Int × (List PartPromise)) (h : restore_AddPromise n a0 a1 a2 = some r) : FnL Tryz.prog 38 [eS 3 eStocked a0,eS 3 ePartPromise a1,.agg [vt a2.Instrument,vt a2.Part,vi a2.Count]] [] (.tup [eS 3 ePartPromise r.2,vi r.1]) [] := by
 dsimp only [restore_AddPromise] at h
 refine fo [6,7] Tryz.call38 Tryz.func38 rfl ?_
 refine sko (.k2 (.i 5 (.ptr 0 0 0) .n)) [some (.row 3 [.agg [vt a2.Instrument,vt a2.Part,vi a2.Count]])] ?_
 refine TriE.seqK2 h (fun (v4 : Int)=>St.mk [(1,eS 3 ePartPromise a1),(5,.ptr 0 0 0),(8,.p (.pointer none)),(9,vi v4)] [some (.row 3 [.agg [vt a2.Instrument,vt a2.Part,vi a2.Count]])]) (fun (v5 : (List Int))=>St.mk [(1,eS 3 ePartPromise a1),(5,.ptr 0 0 0),(8,.ptr 1 0 0),(9,vi 0)] [some (.row 3 [.agg [vt a2.Instrument,vt a2.Part,vi a2.Count]]),some (.row 2 [.agg [eS 3 eStocked a0,.own 2 0 v5.length]]),some (.row 1 (List.map vi v5))]) ?_ ?_ ?_
 ·rintro v4 h
  refine q7 ?_
  refine sk (.k4 (.i 17 (vb (v4 != (0 : Int))) .n)) ?_
  refine tc h (fun c1 h=>?_) (fun c1 h=>?_)
  ·refine sk (.i 6 .emp (.i 7 (vi v4) .n)) ?_
   refine q3 ?_
   have h:=si h
   subst h
   exact DoneS.ret (S' := ⟨[(6,eS 3 ePartPromise ([] : List PartPromise)),(7,vi v4)],[]⟩) (Sees.trans (Sees.vco (fr' := [(6,eS 3 ePartPromise ([] : List PartPromise)),(7,vi v4)]) (.cons .sl (.cons .same .nil))) (sc [] (by decide) (by kernel_rfl) ObRen.nil rfl rfl)) rfl rfl
  refine sj ?_
  refine rk 1 (.k3 (.i 22 (eS 3 ePartPromise a1) .n)) ?_
  refine jo 23 (.len 0 22) (ok_len_m rfl) ?_
  refine jo 24 (.bin .eql false 23 (ki 200)) (n_eql (i:=a1.length) (j:=200) rfl rfl) ?_
  refine jk 1 (.d2 (.k3 (.i 21 (vb (decide (a1.length = 200))) .n))) ?_
  refine tc h (fun c2 h=>?_) (fun c2 h=>?_)
  ·refine sk (.i 6 .emp (.i 7 (vi 8) .n)) ?_
   refine q3 ?_
   have h:=si h
   subst h
   exact DoneS.ret (S' := ⟨[(6,eS 3 ePartPromise ([] : List PartPromise)),(7,vi 8)],[]⟩) (Sees.trans (Sees.vco (fr' := [(6,eS 3 ePartPromise ([] : List PartPromise)),(7,vi 8)]) (.cons .sl (.cons .same .nil))) (sc [] (by decide) (by kernel_rfl) ObRen.nil rfl rfl)) rfl rfl
  refine q2 ?_
  refine q1 ?_
  refine sj ?_
  refine rk 2 (.k2 (.i 25 (.p (.pointer none)) (.i 26 (.agg [vt a2.Instrument,vt a2.Part,vi a2.Count]) .n))) ?_
  cases h
 ·rintro v5 h
  refine q7 ?_
  refine sk (.k4 (.i 17 (vb false) .n)) ?_
  refine TriE.cond (b:=false) rfl (fun c3=>?_) (fun c3=>?_)
  ·cases c3
  refine sj ?_
  refine rk 1 (.k3 (.i 22 (eS 3 ePartPromise a1) .n)) ?_
  refine jo 23 (.len 0 22) (ok_len_m rfl) ?_
  refine jo 24 (.bin .eql false 23 (ki 200)) (n_eql (i:=a1.length) (j:=200) rfl rfl) ?_
  refine jk 1 (.d2 (.k3 (.i 21 (vb (decide (a1.length = 200))) .n))) ?_
  refine tc h (fun c4 h=>?_) (fun c4 h=>?_)
  ·refine sk (.i 6 .emp (.i 7 (vi 8) .n)) ?_
   refine q3 ?_
   have h:=si h
   subst h
   exact DoneS.ret (S' := ⟨[(6,eS 3 ePartPromise ([] : List PartPromise)),(7,vi 8)],[]⟩) (Sees.trans (Sees.vco (fr' := [(6,eS 3 ePartPromise ([] : List PartPromise)),(7,vi 8)]) (.cons .sl (.cons .same .nil))) (sc [] (by decide) (by kernel_rfl) ObRen.nil rfl rfl)) rfl rfl
  refine q2 ?_
  refine q1 ?_
  refine sj ?_
  refine rk 2 (.k2 (.i 25 (.ptr 1 0 0) (.i 26 (.agg [vt a2.Instrument,vt a2.Part,vi a2.Count]) .n))) ?_
  obtain ⟨y6,hy6,h⟩:=bs h
  refine jco (vi y6.1) 27 [25,26] (restore_shelf_take_ok n a0 v5 a2 y6 hy6) [1,2] rfl (.cons rfl (.same (row_ren vi_frz _ _ _) .nil)) (.cons rfl (.same (row_ren vi_frz _ _ _) .nil)) rfl ?_
  obtain ⟨c5,h⟩:=ck h
  refine RegJ.sees (S':=⟨[(1,eS 3 ePartPromise a1),(5,.ptr 0 0 0),(25,.ptr 1 0 0),(26,.agg [vt a2.Instrument,vt a2.Part,vi a2.Count]),(27,vi y6.1)],[some (.row 3 [.agg [vt a2.Instrument,vt a2.Part,vi a2.Count]]),some (.row 2 [.agg [eS 3 eStocked a0,.own 2 0 y6.2.length]]),some (.row 1 (List.map vi y6.2))]⟩) (Sees.cov (Cov.mk2 (rs:=[0,1,2]) (by decide) rfl rfl (.cons (.inl rfl) (.cons (.inl rfl) (.cons (.inl rfl) (.cons (.inl rfl) (.cons (.inl rfl) .nil))))) (.cons rfl (.cons (by rw [show v5.length = y6.2.length from of_decide_eq_true c5]; rfl) (obRen_row vi_frz rfl .nil))))) ?_
  refine jk 1 (.k2 (.i 10 (vi y6.1) .n)) ?_
  refine sk (.k3 (.i 29 (vb (y6.1 != (0 : Int))) .n)) ?_
  refine tc h (fun c6 h=>?_) (fun c6 h=>?_)
  ·refine sk (.i 6 .emp (.i 7 (vi y6.1) .n)) ?_
   refine q3 ?_
   have h:=si h
   subst h
   exact DoneS.ret (S' := ⟨[(6,eS 3 ePartPromise ([] : List PartPromise)),(7,vi y6.1)],[]⟩) (Sees.trans (Sees.vco (fr' := [(6,eS 3 ePartPromise ([] : List PartPromise)),(7,vi y6.1)]) (.cons .sl (.cons .same .nil))) (sc [] (by decide) (by kernel_rfl) ObRen.nil rfl rfl)) rfl rfl
  refine q2 ?_
  refine q1 ?_
  refine ts (.k2 .n) ?_
  refine TriE.draw (by kernel_rfl) ?_
  refine dk 1 (.i 31 (eS 3 ePartPromise a1) .a) ?_
  obtain ⟨y7,hy7,h⟩:=bs h
  refine dc (.own 4 0 y7.length) 1 32 [31] (slices_Clone_PartPromise_ok n a1 y7 hy7) [] rfl ObsRen.nil (.same (row_ren ePartPromise_frz _ _ _) .nil) rfl (.inl rfl) ?_
  refine dko 2 (.i 34 (.own 7 0 1) (.i 33 (.agg [vt a2.Instrument,vt a2.Part,vi a2.Count]) .a)) [some (.row 3 [.agg [vt a2.Instrument,vt a2.Part,vi a2.Count]]),some (.row 2 [.agg [eS 3 eStocked a0,.own 2 0 y6.2.length]]),some (.row 1 (List.map vi y6.2)),none,some (.row 3 (List.map ePartPromise y7)),none,none,some (.row 3 [.agg [vt a2.Instrument,vt a2.Part,vi a2.Count]])] ?_
  obtain ⟨c7,h⟩:=ck h
  refine dx 35 (.app 3 40 32 34) _ (ok_app_own (l:=y7) (l2:=([a2] : List PartPromise)) (e:=ePartPromise) (u:=.own 7 0 1) rfl rfl rfl rfl rfl c7) rfl rfl ?_
  refine dk 2 (.i 7 (vi 0) (.i 6 (.own 8 0 ((y7 ++ ([a2] : List PartPromise)).length)) .a)) ?_
  refine dfi (.i 6 (.own 0 0 ((y7 ++ ([a2] : List PartPromise)).length)) (.k .n)) [8] (obRen_row ePartPromise_frz rfl .nil) ?_
  refine q3 ?_
  have h:=si h
  subst h
  exact DoneS.ret (S' := ⟨[(6,eS 3 ePartPromise (y7 ++ ([a2] : List PartPromise))),(7,vi 0)],[]⟩) (Sees.trans (Sees.freeze 0 (fr' := [(6,eS 3 ePartPromise (y7 ++ ([a2] : List PartPromise))),(7,vi 0)]) (ob' := [none]) rfl (frz_row ePartPromise_frzE _) (.cons (frz_full rfl) (.cons (.refl _) .nil)) rfl) (sc [] (by decide) (by kernel_rfl) ObRen.nil rfl rfl)) rfl rfl
 intro k1 k2 h
 refine q6 ?_
 refine rk 2 (.d (.k2 (.i 12 (eS 3 eStocked a0) (.i 13 (eS 3 ePartPromise a1) .n)))) ?_
 obtain ⟨y1,hy1,h⟩:=bs h
 rcases y1 with y1 | y1
 ·dsimp only at h
  refine jc 14 [12,13] (restore_shelfOf_ok n a0 a1 (Sum.inl y1) hy1) ?_
  refine jk 5 (.d (.k2 (.i 8 (.p (.pointer none)) (.i 9 (vi y1) .n)))) ?_
  exact Vs.intro Sees.refl (.inl ⟨y1,rfl,h⟩)
 dsimp only at h
 refine jco (.tup [.ptr 1 0 0,vi 0]) 14 [12,13] (restore_shelfOf_ok n a0 a1 (Sum.inr y1) hy1) [] rfl ObsRen.nil (.cons rfl (.same (row_ren vi_frz _ _ _) .nil)) rfl ?_
 refine jk 5 (.d (.k2 (.i 8 (.ptr 1 0 0) (.i 9 (vi 0) .n)))) ?_
 exact Vs.intro Sees.refl (.inr ⟨y1,rfl,h⟩)
set_option maxHeartbeats 1000000 in
theorem restore_LeftOf_ok (n : Nat) (a0 : List Stocked) (a1 : List PartPromise) (r : Int × (List PartCount)) (h : restore_LeftOf n a0 a1 = some r) : FnL Tryz.prog 39 [eS 3 eStocked a0,eS 3 ePartPromise a1] [] (.tup [eS 2 ePartCount r.2,vi r.1]) [] := by
 dsimp only [restore_LeftOf] at h
 refine fo [4,5] Tryz.call39 Tryz.func39 rfl ?_
 refine sk .a ?_
 refine TriE.seqK2 h (fun (v4 : Int)=>St.mk [(0,eS 3 eStocked a0),(6,.p (.pointer none)),(7,vi v4)] []) (fun (v5 : (List Int))=>St.mk [(0,eS 3 eStocked a0),(6,.ptr 0 0 0),(7,vi 0)] [some (.row 2 [.agg [eS 3 eStocked a0,.own 1 0 v5.length]]),some (.row 1 (List.map vi v5))]) ?_ ?_ ?_
 ·rintro v4 h
  refine q1 ?_
  refine sk (.k3 (.i 18 (vb (v4 != (0 : Int))) .n)) ?_
  refine tc h (fun c1 h=>?_) (fun c1 h=>?_)
  ·refine sk (.i 4 .emp (.i 5 (vi v4) .n)) ?_
   refine q3 ?_
   have h:=si h
   subst h
   exact DoneS.ret (S' := ⟨[(4,eS 2 ePartCount ([] : List PartCount)),(5,vi v4)],[]⟩) (Sees.trans (Sees.vco (fr' := [(4,eS 2 ePartCount ([] : List PartCount)),(5,vi v4)]) (.cons .sl (.cons .same .nil))) sy) rfl rfl
  refine q2 ?_
  refine sk (.k2 (.i 8 .emp .n)) ?_
  refine q1 ?_
  refine sj ?_
  refine rk 1 (.k (.d (.k (.i 20 (.p (.pointer none)) .n)))) ?_
  cases h
 ·rintro v5 h
  refine q1 ?_
  refine sk (.k3 (.i 18 (vb false) .n)) ?_
  refine TriE.cond (b:=false) rfl (fun c2=>?_) (fun c2=>?_)
  ·cases c2
  refine q2 ?_
  refine sk (.k2 (.i 8 .emp .n)) ?_
  refine TriE.seqK h (fun (v8 : (List PartCount))=>St.mk [(8,.own 0 0 v8.length)] [some (.row 2 (List.map ePartCount v8))]) ?_ ?_
  ·rintro v8 h
   refine sk (.i 4 (.own 0 0 v8.length) (.i 5 (vi 0) .n)) ?_
   refine q3 ?_
   have h:=si h
   subst h
   exact DoneS.ret (S' := ⟨[(4,eS 2 ePartCount v8),(5,vi 0)],[]⟩) (Sees.trans (Sees.freeze 0 (fr' := [(4,eS 2 ePartCount v8),(5,vi 0)]) (ob' := [none]) rfl (frz_row ePartCount_frzE _) (.cons (frz_full rfl) (.cons (.refl _) .nil)) rfl) (sc [] (by decide) (by kernel_rfl) ObRen.nil rfl rfl)) rfl rfl
  intro k3 h
  refine sk (.k (.d (.k (.i 23 (.own 1 0 v5.length) (.i 24 (vi (v5.length : Int)) (.i 25 (vi 0) .n)))))) ?_
  refine q4 ?_
  refine TriE.sees (S':=⟨[(0,eS 3 eStocked a0),(8,.own 1 0 ([] : List PartCount).length),(23,.own 0 0 v5.length),(24,vi (v5.length : Int)),(25,vi 0)],[some (.row 1 (List.map vi v5)),some (.row 2 (List.map ePartCount ([] : List PartCount)))]⟩) (Sees.trans (Sees.co (fr':=[(0,eS 3 eStocked a0),(8,.own 2 0 0),(23,.own 1 0 v5.length),(24,vi (v5.length : Int)),(25,vi 0)]) (ob':=[some (.row 2 [.agg [eS 3 eStocked a0,.own 1 0 v5.length]]),some (.row 1 (List.map vi v5))]) (.cons .same (.cons .own (.cons .same (.cons .same (.cons .same .nil))))) (.same (.same .nil)) 2) (sc [1,2] (by decide) (by kernel_rfl) (obRen_row vi_frz rfl (obRen_row ePartCount_frz rfl .nil)) rfl rfl)) ?_
  refine TriE.loopN h (fun (t : (List PartCount) × Nat)=>match t with | (v6,v7)=>St.mk [(0,eS 3 eStocked a0),(8,.own 1 0 v6.length),(23,.own 0 0 v5.length),(24,vi (v5.length : Int)),(25,vi v7)] [some (.row 1 (List.map vi v5)),some (.row 2 (List.map ePartCount v6))]) rfl ?_
  clear h
  rintro back ⟨v6,v7⟩ h
  dsimp only [restore_LeftOf_L1] at h
  refine sj ?_
  refine jo 26 (.bin .lss false 25 24) (n_lss (i:=v7) (j:=v5.length) rfl rfl) ?_
  refine jf (.d (.k4 (.k (.i 26 (vb (decide (v7 < v5.length))) .n)))) ?_
  refine q1 ?_
  refine tc h (fun c3 h=>?_) (fun c3 h=>?_)
  ·refine q2 ?_
   refine q7 ?_
   refine sj ?_
   refine rk 1 (.k4 (.k (.i 27 (vi v7) .n))) ?_
   refine jo 28 (.iaddr 1 23 25) (ok_iaddr_o0 (j:=v7) rfl rfl rfl rfl c3) ?_
   refine jo 29 (.load false 1 28) (ok_load_pm (l:=v5) (e:=vi) (v:=vi (ix v5 v7)) rfl rfl c3 rfl) ?_
   refine jk 2 (.d2 (.k4 (.k (.i 9 (vi v7) (.i 10 (vi (ix v5 v7)) .n))))) ?_
   refine q6 ?_
   refine rk 3 (.k (.d (.k3 (.d (.k (.i 30 (.own 1 0 v6.length) (.i 31 (eS 3 eStocked a0) (.i 32 (vi v7) .n)))))))) ?_
   obtain ⟨c4,h⟩:=ck h
   refine jo 33 (.iaddr 3 31 32) (ok_iaddr_m (j:=v7) rfl rfl rfl c4) ?_
   refine rk 1 (.d (.k4 (.k2 (.i 34 (.fptr 3 (List.map eStocked a0) v7 0) .n)))) ?_
   refine jo 35 (.load false 1 34) (ok_load_fm (v:=vt ((ix a0 v7).Part)) rfl c4 rfl) ?_
   refine rko 3 (.d (.k4 (.d (.k (.i 38 (.own 2 0 1) .n))))) [some (.row 1 (List.map vi v5)),some (.row 2 (List.map ePartCount v6)),some (.row 2 [.agg [vt ((ix a0 v7).Part),vi (ix v5 v7)]])] ?_
   obtain ⟨c5,h⟩:=ck h
   refine jx 39 (.app 2 24 30 38) _ (ok_app_own (l:=v6) (l2:=([(PartCount.mk ((ix a0 v7).Part) (ix v5 v7))] : List PartCount)) (e:=ePartCount) (u:=.own 2 0 1) rfl rfl rfl rfl rfl c5) rfl rfl ?_
   refine jk 1 (.d (.k4 (.i 8 (.own 3 0 ((v6 ++ ([(PartCount.mk ((ix a0 v7).Part) (ix v5 v7))] : List PartCount)).length)) .n))) ?_
   refine q6 ?_
   obtain ⟨c6,h⟩:=ck h
   refine jo 40 (.bin .add false 25 (ki 1)) (r_addn (i:=v7) (j:=1) rfl rfl c6) ?_
   refine jk 1 (.d (.k3 (.d (.k (.i 25 (vi ((v7 + 1 : Nat) : Int)) .n))))) ?_
   exact Vs.intro (sc [0,3] (by decide) (by kernel_rfl) (obRen_row vi_frz rfl (obRen_row ePartCount_frz rfl .nil)) rfl rfl) ⟨((v6 ++ ([(PartCount.mk ((ix a0 v7).Part) (ix v5 v7))] : List PartCount)),v7 + 1),rfl,h⟩
  refine q5 ?_
  exact Vs.intro (sc [1] (by decide) (by kernel_rfl) (obRen_row ePartCount_frz rfl .nil) rfl rfl) ⟨v6,rfl,h⟩
 intro k1 k2 h
 refine q6 ?_
 refine rk 2 (.k (.i 12 (eS 3 eStocked a0) (.i 13 (eS 3 ePartPromise a1) .n))) ?_
 obtain ⟨y1,hy1,h⟩:=bs h
 rcases y1 with y1 | y1
 ·dsimp only at h
  refine jc 14 [12,13] (restore_shelfOf_ok n a0 a1 (Sum.inl y1) hy1) ?_
  refine jk 5 (.d (.k (.i 6 (.p (.pointer none)) (.i 7 (vi y1) .n)))) ?_
  exact Vs.intro Sees.refl (.inl ⟨y1,rfl,h⟩)
 dsimp only at h
 refine jco (.tup [.ptr 0 0 0,vi 0]) 14 [12,13] (restore_shelfOf_ok n a0 a1 (Sum.inr y1) hy1) [] rfl ObsRen.nil (.cons rfl (.same (row_ren vi_frz _ _ _) .nil)) rfl ?_
 refine jk 5 (.d (.k (.i 6 (.ptr 0 0 0) (.i 7 (vi 0) .n)))) ?_
 exact Vs.intro Sees.refl (.inr ⟨y1,rfl,h⟩)
theorem agrafferef08_promised_ok (n : Nat) (a0 : List PartPromise) (a1 : Str) (r : Int) (h : agrafferef08_promised n a0 a1 = some r) : FnL Tryz.prog 101 [eS 3 ePartPromise a0,vt a1] [] (vi r) [] := by
 dsimp only [agrafferef08_promised] at h
 refine fo [4] Tryz.call101 Tryz.func101 rfl ?_
 refine sk .a ?_
 refine sk (.k2 (.i 5 (vi 0) .n)) ?_
 refine TriE.seqK h (fun (v5 : Int)=>St.mk [(5,vi v5)] []) ?_ ?_
 ·rintro v5 h
  refine sk (.i 4 (vi v5) .n) ?_
  refine q3 ?_
  have h:=si h
  subst h
  exact DoneS.ret Sees.refl rfl rfl
 intro k2 h
 refine sk (.k3 (.i 6 (vi 0) .n)) ?_
 refine q4 ?_
 refine ts (.k3 (.i 6 (vi 0) .n)) ?_
 refine TriE.loopN h (fun (t : Int × Nat)=>match t with | (v2,v3)=>St.mk [(0,eS 3 ePartPromise a0),(1,vt a1),(5,vi v2),(6,vi v3)] []) rfl ?_
 clear h
 rintro back ⟨v2,v3⟩ h
 dsimp only [agrafferef08_promised_L1] at h
 refine q1 ?_
 refine sj ?_
 refine rk 2 (.k4 (.i 7 (vi v3) (.i 8 (eS 3 ePartPromise a0) .n))) ?_
 refine jo 9 (.len 0 8) (ok_len_m rfl) ?_
 refine jo 10 (.bin .lss false 7 9) (n_lss (i:=v3) (j:=a0.length) rfl rfl) ?_
 refine jf (.d2 (.k4 (.i 10 (vb (decide (v3 < a0.length))) .n))) ?_
 refine tc h (fun c1 h=>?_) (fun c1 h=>?_)
 ·refine q2 ?_
  refine TriE.seqK h (fun (v4 : Int)=>St.mk [(0,eS 3 ePartPromise a0),(1,vt a1),(6,vi v3),(5,vi v4)] []) ?_ ?_
  ·rintro v4 h
   refine q6 ?_
   refine rk 1 (.k2 (.d (.k (.i 11 (vi v3) .n)))) ?_
   obtain ⟨c4,h⟩:=ck h
   refine jo 12 (.bin .add false 11 (ki 1)) (r_addn (i:=v3) (j:=1) rfl rfl c4) ?_
   refine jk 1 (.d (.k3 (.i 6 (vi ((v3 + 1 : Nat) : Int)) .n))) ?_
   exact Vs.intro sy ⟨(v4,v3 + 1),rfl,h⟩
  intro k1 h
  refine q4 ?_
  refine sj ?_
  refine rk 2 (.k4 (.i 13 (eS 3 ePartPromise a0) (.i 14 (vi v3) .n))) ?_
  refine jo 15 (.iaddr 3 13 14) (ok_iaddr_m (j:=v3) rfl rfl rfl c1) ?_
  refine rk 1 (.d (.k4 (.i 16 (.fptr 3 (List.map ePartPromise a0) v3 1) .n))) ?_
  refine jo 17 (.load false 1 16) (ok_load_fm (v:=vt ((ix a0 v3).Part)) rfl c1 rfl) ?_
  refine jk 2 (.d (.k4 (.i 19 (vb (((ix a0 v3).Part) == a1)) .n))) ?_
  refine tc h (fun c2 h=>?_) (fun c2 h=>?_)
  ·refine q6 ?_
   refine rk 3 (.k2 (.d (.k (.i 20 (vi v2) (.i 21 (eS 3 ePartPromise a0) (.i 22 (vi v3) .n)))))) ?_
   refine jo 23 (.iaddr 3 21 22) (ok_iaddr_m (j:=v3) rfl rfl rfl c1) ?_
   refine rk 1 (.d (.k4 (.i 24 (.fptr 3 (List.map ePartPromise a0) v3 2) .n))) ?_
   refine jo 25 (.load false 1 24) (ok_load_fm (v:=vi ((ix a0 v3).Count)) rfl c1 rfl) ?_
   obtain ⟨c3,h⟩:=ck h
   refine jo 26 (.bin .add false 20 25) (r_add rfl rfl c3) ?_
   refine jk 1 (.d2 (.k3 (.i 5 (vi (v2 + ((ix a0 v3).Count))) .n))) ?_
   exact Vs.intro Sees.refl ⟨(v2 + ((ix a0 v3).Count)),rfl,h⟩
  refine q2 ?_
  exact Vs.intro sy ⟨v2,rfl,h⟩
 refine q5 ?_
 exact Vs.intro sy ⟨v2,rfl,h⟩
set_option maxHeartbeats 1000000 in
theorem agrafferef08_CheckPromises_ok (n : Nat) (a0 : List Stocked) (a1 : List PartPromise) (r : Int) (h : q49k n a0 a1 = some r) : FnL Tryz.prog 35 [eS 3 eStocked a0,eS 3 ePartPromise a1] [] (vi r) [] := by
 dsimp only [q49k] at h
 refine fo [4] Tryz.call35 Tryz.func35 rfl ?_
 refine sk .a ?_
 refine q1 ?_
 refine sj ?_
 refine rk 1 (.k2 (.i 8 (eS 3 eStocked a0) .n)) ?_
 obtain ⟨y1,hy1,h⟩:=bs h
 refine jc 9 [8] (agrafferef08_CheckStock_ok n a0 y1 hy1) ?_
 refine jk 1 (.d (.k2 (.i 5 (vi y1) .n))) ?_
 refine sk (.k3 (.i 11 (vb (y1 != (0 : Int))) .n)) ?_
 refine tc h (fun c1 h=>?_) (fun c1 h=>?_)
 ·refine sk (.i 4 (vi y1) .n) ?_
  refine q3 ?_
  have h:=si h
  subst h
  exact DoneS.ret Sees.refl rfl rfl
 refine q2 ?_
 refine q1 ?_
 refine sj ?_
 refine rk 1 (.k2 (.i 13 (eS 3 ePartPromise a1) .n)) ?_
 refine jo 14 (.len 0 13) (ok_len_m rfl) ?_
 refine jo 15 (.bin .gtr false 14 (ki 200)) (n_gtr (i:=a1.length) (j:=200) rfl rfl) ?_
 refine jf (.d2 (.k2 (.i 15 (vb (decide (200 < a1.length))) .n))) ?_
 refine tc h (fun c2 h=>?_) (fun c2 h=>?_)
 ·refine sk (.i 4 (vi 8) .n) ?_
  refine q3 ?_
  have h:=si h
  subst h
  exact DoneS.ret Sees.refl rfl rfl
 refine q2 ?_
 refine TriE.seqK h (fun (_ : Unit)=>St.mk [] []) ?_ ?_
 ·rintro ⟨⟩ h
  refine sk (.i 4 (vi 0) .n) ?_
  refine q3 ?_
  have h:=si h
  subst h
  exact DoneS.ret Sees.refl rfl rfl
 intro k1 h
 refine sk (.k2 (.i 6 (vi 0) .n)) ?_
 refine q4 ?_
 refine ts (.k2 (.i 6 (vi 0) .n)) ?_
 refine TriE.loopN h (fun (v6 : Nat)=>St.mk [(0,eS 3 eStocked a0),(1,eS 3 ePartPromise a1),(6,vi v6)] []) rfl ?_
 clear h
 rintro back v6 h
 dsimp only [q54k] at h
 refine q1 ?_
 refine sj ?_
 refine rk 2 (.k3 (.i 16 (vi v6) (.i 17 (eS 3 ePartPromise a1) .n))) ?_
 refine jo 18 (.len 0 17) (ok_len_m rfl) ?_
 refine jo 19 (.bin .lss false 16 18) (n_lss (i:=v6) (j:=a1.length) rfl rfl) ?_
 refine jf (.d2 (.k3 (.i 19 (vb (decide (v6 < a1.length))) .n))) ?_
 refine tc h (fun c3 h=>?_) (fun c3 h=>?_)
 ·refine q2 ?_
  refine q7 ?_
  refine q1 ?_
  refine sj ?_
  refine rk 2 (.k3 (.i 22 (eS 3 ePartPromise a1) (.i 23 (vi v6) .n))) ?_
  refine jo 24 (.iaddr 3 22 23) (ok_iaddr_m (j:=v6) rfl rfl rfl c3) ?_
  refine rk 1 (.d (.k3 (.i 25 (.fptr 3 (List.map ePartPromise a1) v6 0) .n))) ?_
  refine jo 26 (.load false 1 25) (ok_load_fm (v:=vt ((ix a1 v6).Instrument)) rfl c3 rfl) ?_
  obtain ⟨y7,hy7,h⟩:=bs h
  refine jc 27 [26] (agraffebase_IsName_ok n ((ix a1 v6).Instrument) y7 hy7) ?_
  refine jk 1 (.d2 (.k3 (.i 28 (vb (!y7)) .n))) ?_
  refine tc h (fun c4 h=>?_) (fun c4 h=>?_)
  ·refine sk (.i 4 (vi 4) .n) ?_
   refine q3 ?_
   have h:=si h
   subst h
   exact DoneS.ret Sees.refl rfl rfl
  refine q2 ?_
  refine sj ?_
  refine rk 3 (.k3 (.i 29 (eS 3 eStocked a0) (.i 30 (eS 3 ePartPromise a1) (.i 31 (vi v6) .n)))) ?_
  refine jo 32 (.iaddr 3 30 31) (ok_iaddr_m (j:=v6) rfl rfl rfl c3) ?_
  refine rk 1 (.d (.k4 (.i 33 (.fptr 3 (List.map ePartPromise a1) v6 1) .n))) ?_
  refine jo 34 (.load false 1 33) (ok_load_fm (v:=vt ((ix a1 v6).Part)) rfl c3 rfl) ?_
  obtain ⟨y8,hy8,h⟩:=bs h
  refine jc 35 [29,34] (agrafferef08_FindStock_ok n a0 ((ix a1 v6).Part) y8 hy8) ?_
  refine jk 1 (.d2 (.k3 (.i 7 (vi y8) .n))) ?_
  refine q1 ?_
  refine sk (.k4 (.i 37 (vb (decide (y8 < (0 : Int)))) .n)) ?_
  refine tc h (fun c5 h=>?_) (fun c5 h=>?_)
  ·refine sk (.i 4 (vi 6) .n) ?_
   refine q3 ?_
   have h:=si h
   subst h
   exact DoneS.ret Sees.refl rfl rfl
  refine q2 ?_
  refine q1 ?_
  refine sj ?_
  refine rk 2 (.k4 (.i 38 (eS 3 ePartPromise a1) (.i 39 (vi v6) .n))) ?_
  refine jo 40 (.iaddr 3 38 39) (ok_iaddr_m (j:=v6) rfl rfl rfl c3) ?_
  refine rk 1 (.d (.k4 (.i 41 (.fptr 3 (List.map ePartPromise a1) v6 2) .n))) ?_
  refine jo 42 (.load false 1 41) (ok_load_fm (v:=vi ((ix a1 v6).Count)) rfl c3 rfl) ?_
  obtain ⟨y9,hy9,h⟩:=bs h
  refine jc 43 [42,(ki 1),(ki 10000)] (agraffebase_Within_ok n ((ix a1 v6).Count) 1 10000 y9 hy9) ?_
  refine jk 1 (.d2 (.k4 (.i 44 (vb (!((decide (1 ≤ ((ix a1 v6).Count))) && (decide (((ix a1 v6).Count) ≤ 10000))))) .n))) ?_
  refine tc h (fun c6 h=>?_) (fun c6 h=>?_)
  ·refine sk (.i 4 (vi 2) .n) ?_
   refine q3 ?_
   have h:=si h
   subst h
   exact DoneS.ret Sees.refl rfl rfl
  refine q2 ?_
  refine q1 ?_
  refine ts (.k4 .n) ?_
  refine TriE.draw (by kernel_rfl) ?_
  refine dk 2 (.i 46 (vi v6) (.i 45 (eS 3 ePartPromise a1) .a)) ?_
  obtain ⟨c7,h⟩:=ck h
  refine dp 47 (.bin .add false 46 (ki 1)) (r_addn (i:=v6) (j:=1) rfl rfl c7) ?_
  obtain ⟨c8,h⟩:=ck h
  refine dp 48 (.slc 3 45 none (some 47) none) (ok_slc_hi (j:=v6 + 1) rfl rfl rfl c8) ?_
  refine dk 2 (.i 50 (vi v6) (.i 49 (eS 3 ePartPromise a1) .a)) ?_
  refine dp 51 (.iaddr 3 49 50) (ok_iaddr_m (j:=v6) rfl rfl rfl c3) ?_
  refine dk 1 (.i 52 (.fptr 3 (List.map ePartPromise a1) v6 1) .a) ?_
  refine dp 53 (.load false 1 52) (ok_load_fm (v:=vt ((ix a1 v6).Part)) rfl c3 rfl) ?_
  obtain ⟨y10,hy10,h⟩:=bs h
  refine dc (vi y10) 0 54 [48,53] (agrafferef08_promised_ok n (List.take (v6 + 1) a1) ((ix a1 v6).Part) y10 hy10) [] rfl ObsRen.nil ObsRen.nil rfl (.inr ⟨rfl,rfl⟩) ?_
  refine dk 2 (.i 56 (vi y8) (.i 55 (eS 3 eStocked a0) .a)) ?_
  obtain ⟨c9,h⟩:=ck h
  refine dp 57 (.iaddr 3 55 56) (ok_iaddr_m (j:=y8.toNat) rfl rfl (inB_to c9) (inB_lt c9)) ?_
  refine dk 1 (.i 58 (.fptr 3 (List.map eStocked a0) y8.toNat 2) .a) ?_
  obtain ⟨c10,h⟩:=ck h
  refine dp 59 (.load false 1 58) (ok_load_fm (v:=vi ((ix a0 y8.toNat).Count)) rfl c10 rfl) ?_
  refine dk 1 (.i 60 (vb (decide (((ix a0 y8.toNat).Count) < y10))) .a) ?_
  refine dfi (.d4 (.d4 (.d4 (.d4 (.k3 (.i 60 (vb (decide (((ix a0 y8.toNat).Count) < y10))) .n)))))) [] ObRen.nil ?_
  refine tc h (fun c11 h=>?_) (fun c11 h=>?_)
  ·refine sk (.i 4 (vi 20) .n) ?_
   refine q3 ?_
   have h:=si h
   subst h
   exact DoneS.ret Sees.refl rfl rfl
  refine q2 ?_
  refine q6 ?_
  refine rk 1 (.k2 (.i 20 (vi v6) .n)) ?_
  refine jo 21 (.bin .add false 20 (ki 1)) (r_addn (i:=v6) (j:=1) rfl rfl c7) ?_
  refine jk 1 (.d (.k2 (.i 6 (vi ((v6 + 1 : Nat) : Int)) .n))) ?_
  exact Vs.intro sy ⟨(v6 + 1),rfl,h⟩
 refine q5 ?_
 exact Vs.intro sy ⟨(),rfl,h⟩
set_option maxHeartbeats 1000000 in
theorem restore_MissingParts_ok (n : Nat) (a0 : List Stocked) (a1 : List PartPromise) (a2 : List PartCount) (r : Int × (List PartCount)) (h : restore_MissingParts n a0 a1 a2 = some r) : FnL Tryz.prog 33 [eS 3 eStocked a0,eS 3 ePartPromise a1,eS 2 ePartCount a2] [] (.tup [eS 2 ePartCount r.2,vi r.1]) [] := by
 dsimp only [restore_MissingParts] at h
 refine fo [6,7] Tryz.call33 Tryz.func33 rfl ?_
 refine sk .a ?_
 refine TriE.seqK2 h (fun (v4 : Int)=>St.mk [(0,eS 3 eStocked a0),(2,eS 2 ePartCount a2),(8,.p (.pointer none)),(9,vi v4)] []) (fun (v13 : (List Int))=>St.mk [(0,eS 3 eStocked a0),(2,eS 2 ePartCount a2),(8,.ptr 0 0 0),(9,vi 0)] [some (.row 2 [.agg [eS 3 eStocked a0,.own 1 0 v13.length]]),some (.row 1 (List.map vi v13))]) ?_ ?_ ?_
 ·rintro v4 h
  refine q1 ?_
  refine sk (.k4 (.i 22 (vb (v4 != (0 : Int))) .n)) ?_
  refine tc h (fun c1 h=>?_) (fun c1 h=>?_)
  ·refine sk (.i 6 .emp (.i 7 (vi v4) .n)) ?_
   refine q3 ?_
   have h:=si h
   subst h
   exact DoneS.ret (S' := ⟨[(6,eS 2 ePartCount ([] : List PartCount)),(7,vi v4)],[]⟩) (Sees.trans (Sees.vco (fr' := [(6,eS 2 ePartCount ([] : List PartCount)),(7,vi v4)]) (.cons .sl (.cons .same .nil))) sy) rfl rfl
  refine q2 ?_
  refine q1 ?_
  refine sj ?_
  refine rk 1 (.k3 (.i 24 (eS 2 ePartCount a2) .n)) ?_
  refine jo 25 (.len 0 24) (ok_len_m rfl) ?_
  refine jo 26 (.bin .gtr false 25 (ki 60)) (n_gtr (i:=a2.length) (j:=60) rfl rfl) ?_
  refine jf (.d2 (.k3 (.i 26 (vb (decide (60 < a2.length))) .n))) ?_
  refine tc h (fun c2 h=>?_) (fun c2 h=>?_)
  ·refine sk (.i 6 .emp (.i 7 (vi 8) .n)) ?_
   refine q3 ?_
   have h:=si h
   subst h
   exact DoneS.ret (S' := ⟨[(6,eS 2 ePartCount ([] : List PartCount)),(7,vi 8)],[]⟩) (Sees.trans (Sees.vco (fr' := [(6,eS 2 ePartCount ([] : List PartCount)),(7,vi 8)]) (.cons .sl (.cons .same .nil))) sy) rfl rfl
  refine q2 ?_
  refine q1 ?_
  refine sj ?_
  refine rk 1 (.k3 (.i 27 (eS 2 ePartCount a2) .n)) ?_
  obtain ⟨y5,hy5,h⟩:=bs h
  refine jc 28 [27,(ki 10000)] (restore_checkCounts_ok n a2 10000 y5 hy5) ?_
  refine jk 1 (.d (.k3 (.i 10 (vi y5) .n))) ?_
  refine sk (.k4 (.i 30 (vb (y5 != (0 : Int))) .n)) ?_
  refine tc h (fun c3 h=>?_) (fun c3 h=>?_)
  ·refine sk (.i 6 .emp (.i 7 (vi y5) .n)) ?_
   refine q3 ?_
   have h:=si h
   subst h
   exact DoneS.ret (S' := ⟨[(6,eS 2 ePartCount ([] : List PartCount)),(7,vi y5)],[]⟩) (Sees.trans (Sees.vco (fr' := [(6,eS 2 ePartCount ([] : List PartCount)),(7,vi y5)]) (.cons .sl (.cons .same .nil))) sy) rfl rfl
  refine q2 ?_
  refine sk (.k3 (.i 11 .emp .n)) ?_
  refine TriE.seqK h (fun (v12 : (List PartCount))=>St.mk [(11,.own 0 0 v12.length)] [some (.row 2 (List.map ePartCount v12))]) ?_ ?_
  ·rintro v12 h
   refine sk (.i 6 (.own 0 0 v12.length) (.i 7 (vi 0) .n)) ?_
   refine q3 ?_
   have h:=si h
   subst h
   exact DoneS.ret (S' := ⟨[(6,eS 2 ePartCount v12),(7,vi 0)],[]⟩) (Sees.trans (Sees.freeze 0 (fr' := [(6,eS 2 ePartCount v12),(7,vi 0)]) (ob' := [none]) rfl (frz_row ePartCount_frzE _) (.cons (frz_full rfl) (.cons (.refl _) .nil)) rfl) (sc [] (by decide) (by kernel_rfl) ObRen.nil rfl rfl)) rfl rfl
  intro k3 h
  refine sj ?_
  refine rk 1 (.k (.d (.k2 (.i 32 (eS 2 ePartCount a2) .n)))) ?_
  refine jo 33 (.len 0 32) (ok_len_m rfl) ?_
  refine jk 1 (.d (.k4 (.i 33 (vi (a2.length : Int)) (.i 34 (vi 0) .n)))) ?_
  refine q4 ?_
  refine TriE.sees (S':=⟨[(0,eS 3 eStocked a0),(8,.p (.pointer none)),(11,.own 0 0 ([] : List PartCount).length),(32,eS 2 ePartCount a2),(33,vi (a2.length : Int)),(34,vi 0)],[some (.row 2 (List.map ePartCount ([] : List PartCount)))]⟩) (Sees.trans (Sees.co (fr':=[(0,eS 3 eStocked a0),(8,.p (.pointer none)),(11,.own 0 0 0),(32,eS 2 ePartCount a2),(33,vi (a2.length : Int)),(34,vi 0)]) (ob':=[]) (.cons .same (.cons .same (.cons .own (.cons .same (.cons .same (.cons .same .nil)))))) ObCo.nil 2) sy) ?_
  refine TriE.loopN h (fun (t : (List PartCount) × Nat)=>match t with | (v8,v9)=>St.mk [(0,eS 3 eStocked a0),(8,.p (.pointer none)),(11,.own 0 0 v8.length),(32,eS 2 ePartCount a2),(33,vi (a2.length : Int)),(34,vi v9)] [some (.row 2 (List.map ePartCount v8))]) rfl ?_
  clear h
  rintro back ⟨v8,v9⟩ h
  dsimp only [restore_MissingParts_L1] at h
  refine sj ?_
  refine jo 35 (.bin .lss false 34 33) (n_lss (i:=v9) (j:=a2.length) rfl rfl) ?_
  refine jf (.d (.k4 (.k2 (.i 35 (vb (decide (v9 < a2.length))) .n)))) ?_
  refine q1 ?_
  refine tc h (fun c4 h=>?_) (fun c4 h=>?_)
  ·refine q2 ?_
   refine TriE.seqK h (fun (v11 : (List PartCount))=>St.mk [(0,eS 3 eStocked a0),(8,.p (.pointer none)),(32,eS 2 ePartCount a2),(33,vi (a2.length : Int)),(34,vi v9),(11,.own 0 0 v11.length)] [some (.row 2 (List.map ePartCount v11))]) ?_ ?_
   ·rintro v11 h
    refine q6 ?_
    obtain ⟨c8,h⟩:=ck h
    refine jo 62 (.bin .add false 34 (ki 1)) (r_addn (i:=v9) (j:=1) rfl rfl c8) ?_
    refine jk 1 (.d (.k4 (.d (.k (.i 34 (vi ((v9 + 1 : Nat) : Int)) .n))))) ?_
    exact Vs.intro sy ⟨(v11,v9 + 1),rfl,h⟩
   intro k2 h
   refine q4 ?_
   refine sj ?_
   refine jo 36 (.iaddr 2 32 34) (ok_iaddr_m (j:=v9) rfl rfl rfl c4) ?_
   refine jo 37 (.load true 2 36) (ok_load_fm (v:=.agg [vt ((ix a2 v9).Part),vi ((ix a2 v9).Count)]) rfl c4 rfl) ?_
   refine jko 2 (.d2 (.k4 (.k2 (.i 13 (.ptr 1 0 0) .n)))) [some (.row 2 (List.map ePartCount v8)),some (.row 2 [.agg [vt ((ix a2 v9).Part),vi ((ix a2 v9).Count)]])] ?_
   refine q1 ?_
   refine sj ?_
   refine rk 3 (.k4 (.k3 (.i 38 (eS 3 eStocked a0) (.i 40 (vt ((ix a2 v9).Part)) .n)))) ?_
   obtain ⟨y10,hy10,h⟩:=bs h
   refine jc 41 [38,40] (restore_stocked_ok n a0 ((ix a2 v9).Part) y10 hy10) ?_
   refine jk 1 (.d (.k4 (.k3 (.i 14 (vi y10) .n)))) ?_
   refine sk (.k4 (.k4 (.i 43 (vb (decide ((0 : Int) ≤ y10))) .n))) ?_
   refine tc h (fun c5 h=>?_) (fun c5 h=>?_)
   ·refine ts (.k4 (.k4 .n)) ?_
    refine TriE.draw (by kernel_rfl) ?_
    refine dk 3 (.i 46 (.p (.pointer none)) (.i 45 (vi ((ix a2 v9).Count)) (.i 44 (.ptr 1 0 1) .a))) ?_
    cases h
   refine q2 ?_
   refine sk (.k4 (.k3 (.i 57 (vb (decide ((0 : Int) < ((ix a2 v9).Count)))) .n))) ?_
   refine tc h (fun c6 h=>?_) (fun c6 h=>?_)
   ·refine q6 ?_
    refine rko 3 (.k2 (.d (.k3 (.i 58 (.own 0 0 v8.length) (.i 60 (.own 2 0 1) .n))))) [some (.row 2 (List.map ePartCount v8)),some (.row 2 [.agg [vt ((ix a2 v9).Part),vi ((ix a2 v9).Count)]]),some (.row 2 [.agg [vt ((ix a2 v9).Part),vi ((ix a2 v9).Count)]])] ?_
    obtain ⟨c7,h⟩:=ck h
    refine jx 61 (.app 2 24 58 60) _ (ok_app_own (l:=v8) (l2:=([(ix a2 v9)] : List PartCount)) (e:=ePartCount) (u:=.own 2 0 1) rfl rfl rfl rfl rfl c7) rfl rfl ?_
    refine jk 1 (.d (.k4 (.k (.i 11 (.own 3 0 ((v8 ++ ([(ix a2 v9)] : List PartCount)).length)) .n)))) ?_
    exact Vs.intro (sc [3] (by decide) (by kernel_rfl) (obRen_row ePartCount_frz rfl .nil) rfl rfl) ⟨(v8 ++ ([(ix a2 v9)] : List PartCount)),rfl,h⟩
   refine q2 ?_
   exact Vs.intro (sc [0] (by decide) (by kernel_rfl) (obRen_row ePartCount_frz rfl .nil) rfl rfl) ⟨v8,rfl,h⟩
  refine q5 ?_
  exact Vs.intro sy ⟨v8,rfl,h⟩
 ·rintro v13 h
  refine q1 ?_
  refine sk (.k4 (.i 22 (vb false) .n)) ?_
  refine TriE.cond (b:=false) rfl (fun c9=>?_) (fun c9=>?_)
  ·cases c9
  refine q2 ?_
  refine q1 ?_
  refine sj ?_
  refine rk 1 (.k3 (.i 24 (eS 2 ePartCount a2) .n)) ?_
  refine jo 25 (.len 0 24) (ok_len_m rfl) ?_
  refine jo 26 (.bin .gtr false 25 (ki 60)) (n_gtr (i:=a2.length) (j:=60) rfl rfl) ?_
  refine jf (.d2 (.k3 (.i 26 (vb (decide (60 < a2.length))) .n))) ?_
  refine tc h (fun c10 h=>?_) (fun c10 h=>?_)
  ·refine sk (.i 6 .emp (.i 7 (vi 8) .n)) ?_
   refine q3 ?_
   have h:=si h
   subst h
   exact DoneS.ret (S' := ⟨[(6,eS 2 ePartCount ([] : List PartCount)),(7,vi 8)],[]⟩) (Sees.trans (Sees.vco (fr' := [(6,eS 2 ePartCount ([] : List PartCount)),(7,vi 8)]) (.cons .sl (.cons .same .nil))) (sc [] (by decide) (by kernel_rfl) ObRen.nil rfl rfl)) rfl rfl
  refine q2 ?_
  refine q1 ?_
  refine sj ?_
  refine rk 1 (.k3 (.i 27 (eS 2 ePartCount a2) .n)) ?_
  obtain ⟨y14,hy14,h⟩:=bs h
  refine jc 28 [27,(ki 10000)] (restore_checkCounts_ok n a2 10000 y14 hy14) ?_
  refine jk 1 (.d (.k3 (.i 10 (vi y14) .n))) ?_
  refine sk (.k4 (.i 30 (vb (y14 != (0 : Int))) .n)) ?_
  refine tc h (fun c11 h=>?_) (fun c11 h=>?_)
  ·refine sk (.i 6 .emp (.i 7 (vi y14) .n)) ?_
   refine q3 ?_
   have h:=si h
   subst h
   exact DoneS.ret (S' := ⟨[(6,eS 2 ePartCount ([] : List PartCount)),(7,vi y14)],[]⟩) (Sees.trans (Sees.vco (fr' := [(6,eS 2 ePartCount ([] : List PartCount)),(7,vi y14)]) (.cons .sl (.cons .same .nil))) (sc [] (by decide) (by kernel_rfl) ObRen.nil rfl rfl)) rfl rfl
  refine q2 ?_
  refine sk (.k3 (.i 11 .emp .n)) ?_
  refine TriE.seqK h (fun (v23 : (List PartCount))=>St.mk [(11,.own 0 0 v23.length)] [some (.row 2 (List.map ePartCount v23))]) ?_ ?_
  ·rintro v23 h
   refine sk (.i 6 (.own 0 0 v23.length) (.i 7 (vi 0) .n)) ?_
   refine q3 ?_
   have h:=si h
   subst h
   exact DoneS.ret (S' := ⟨[(6,eS 2 ePartCount v23),(7,vi 0)],[]⟩) (Sees.trans (Sees.freeze 0 (fr' := [(6,eS 2 ePartCount v23),(7,vi 0)]) (ob' := [none]) rfl (frz_row ePartCount_frzE _) (.cons (frz_full rfl) (.cons (.refl _) .nil)) rfl) (sc [] (by decide) (by kernel_rfl) ObRen.nil rfl rfl)) rfl rfl
  intro k7 h
  refine sj ?_
  refine rk 1 (.k (.d (.k2 (.i 32 (eS 2 ePartCount a2) .n)))) ?_
  refine jo 33 (.len 0 32) (ok_len_m rfl) ?_
  refine jk 1 (.d (.k4 (.i 33 (vi (a2.length : Int)) (.i 34 (vi 0) .n)))) ?_
  refine q4 ?_
  refine TriE.sees (S':=⟨[(0,eS 3 eStocked a0),(8,.ptr 0 0 0),(11,.own 2 0 ([] : List PartCount).length),(32,eS 2 ePartCount a2),(33,vi (a2.length : Int)),(34,vi 0)],[some (.row 2 [.agg [eS 3 eStocked a0,.own 1 0 v13.length]]),some (.row 1 (List.map vi v13)),some (.row 2 (List.map ePartCount ([] : List PartCount)))]⟩) (Sees.trans (Sees.co (fr':=[(0,eS 3 eStocked a0),(8,.ptr 0 0 0),(11,.own 2 0 0),(32,eS 2 ePartCount a2),(33,vi (a2.length : Int)),(34,vi 0)]) (ob':=[some (.row 2 [.agg [eS 3 eStocked a0,.own 1 0 v13.length]]),some (.row 1 (List.map vi v13))]) (.cons .same (.cons .same (.cons .own (.cons .same (.cons .same (.cons .same .nil)))))) (.same (.same .nil)) 2) sy) ?_
  refine TriE.loopN h (fun (t : (List PartCount) × Nat)=>match t with | (v18,v19)=>St.mk [(0,eS 3 eStocked a0),(8,.ptr 0 0 0),(11,.own 2 0 v18.length),(32,eS 2 ePartCount a2),(33,vi (a2.length : Int)),(34,vi v19)] [some (.row 2 [.agg [eS 3 eStocked a0,.own 1 0 v13.length]]),some (.row 1 (List.map vi v13)),some (.row 2 (List.map ePartCount v18))]) rfl ?_
  clear h
  rintro back ⟨v18,v19⟩ h
  dsimp only [restore_MissingParts_L2] at h
  refine sj ?_
  refine jo 35 (.bin .lss false 34 33) (n_lss (i:=v19) (j:=a2.length) rfl rfl) ?_
  refine jf (.d (.k4 (.k2 (.i 35 (vb (decide (v19 < a2.length))) .n)))) ?_
  refine q1 ?_
  refine tc h (fun c12 h=>?_) (fun c12 h=>?_)
  ·refine q2 ?_
   refine TriE.seqK h (fun (v22 : (List PartCount))=>St.mk [(0,eS 3 eStocked a0),(8,.ptr 0 0 0),(32,eS 2 ePartCount a2),(33,vi (a2.length : Int)),(34,vi v19),(11,.own 2 0 v22.length)] [some (.row 2 [.agg [eS 3 eStocked a0,.own 1 0 v13.length]]),some (.row 1 (List.map vi v13)),some (.row 2 (List.map ePartCount v22))]) ?_ ?_
   ·rintro v22 h
    refine q6 ?_
    obtain ⟨c19,h⟩:=ck h
    refine jo 62 (.bin .add false 34 (ki 1)) (r_addn (i:=v19) (j:=1) rfl rfl c19) ?_
    refine jk 1 (.d (.k4 (.d (.k (.i 34 (vi ((v19 + 1 : Nat) : Int)) .n))))) ?_
    exact Vs.intro sy ⟨(v22,v19 + 1),rfl,h⟩
   intro k6 h
   refine q4 ?_
   refine sj ?_
   refine jo 36 (.iaddr 2 32 34) (ok_iaddr_m (j:=v19) rfl rfl rfl c12) ?_
   refine jo 37 (.load true 2 36) (ok_load_fm (v:=.agg [vt ((ix a2 v19).Part),vi ((ix a2 v19).Count)]) rfl c12 rfl) ?_
   refine jko 2 (.d2 (.k4 (.k2 (.i 13 (.ptr 3 0 0) .n)))) [some (.row 2 [.agg [eS 3 eStocked a0,.own 1 0 v13.length]]),some (.row 1 (List.map vi v13)),some (.row 2 (List.map ePartCount v18)),some (.row 2 [.agg [vt ((ix a2 v19).Part),vi ((ix a2 v19).Count)]])] ?_
   refine TriE.seqK h (fun (v21 : Int)=>St.mk [(0,eS 3 eStocked a0),(8,.ptr 0 0 0),(11,.own 2 0 v18.length),(32,eS 2 ePartCount a2),(33,vi (a2.length : Int)),(34,vi v19),(13,.ptr 3 0 0)] [some (.row 2 [.agg [eS 3 eStocked a0,.own 1 0 v13.length]]),some (.row 1 (List.map vi v13)),some (.row 2 (List.map ePartCount v18)),some (.row 2 [.agg [vt ((ix a2 v19).Part),vi v21]])]) ?_ ?_
   ·rintro v21 h
    refine sk (.k4 (.k3 (.i 57 (vb (decide ((0 : Int) < v21))) .n))) ?_
    refine tc h (fun c17 h=>?_) (fun c17 h=>?_)
    ·refine q6 ?_
     refine rko 3 (.k2 (.d (.k3 (.i 58 (.own 2 0 v18.length) (.i 60 (.own 4 0 1) .n))))) [some (.row 2 [.agg [eS 3 eStocked a0,.own 1 0 v13.length]]),some (.row 1 (List.map vi v13)),some (.row 2 (List.map ePartCount v18)),some (.row 2 [.agg [vt ((ix a2 v19).Part),vi v21]]),some (.row 2 [.agg [vt ((ix a2 v19).Part),vi v21]])] ?_
     obtain ⟨c18,h⟩:=ck h
     refine jx 61 (.app 2 24 58 60) _ (ok_app_own (l:=v18) (l2:=([(PartCount.mk ((ix a2 v19).Part) v21)] : List PartCount)) (e:=ePartCount) (u:=.own 4 0 1) rfl rfl rfl rfl rfl c18) rfl rfl ?_
     refine jk 1 (.d (.k4 (.k (.i 11 (.own 5 0 ((v18 ++ ([(PartCount.mk ((ix a2 v19).Part) v21)] : List PartCount)).length)) .n)))) ?_
     exact Vs.intro (sc [0,1,5] (by decide) (by kernel_rfl) (.cons rfl (obRen_row vi_frz rfl (obRen_row ePartCount_frz rfl .nil))) rfl rfl) ⟨(v18 ++ ([(PartCount.mk ((ix a2 v19).Part) v21)] : List PartCount)),rfl,h⟩
    refine q2 ?_
    exact Vs.intro (sc [0,1,2] (by decide) (by kernel_rfl) (.cons rfl (obRen_row vi_frz rfl (obRen_row ePartCount_frz rfl .nil))) rfl rfl) ⟨v18,rfl,h⟩
   intro k5 h
   refine sj ?_
   refine rk 3 (.k4 (.k3 (.i 38 (eS 3 eStocked a0) (.i 40 (vt ((ix a2 v19).Part)) .n)))) ?_
   obtain ⟨y20,hy20,h⟩:=bs h
   refine jc 41 [38,40] (restore_stocked_ok n a0 ((ix a2 v19).Part) y20 hy20) ?_
   refine jk 1 (.d (.k4 (.k3 (.i 14 (vi y20) .n)))) ?_
   refine sk (.k4 (.k4 (.i 43 (vb (decide ((0 : Int) ≤ y20))) .n))) ?_
   refine tc h (fun c13 h=>?_) (fun c13 h=>?_)
   ·refine ts (.k4 (.k4 .n)) ?_
    refine TriE.draw (by kernel_rfl) ?_
    refine dk 7 (.i 50 (vi y20) (.i 49 (.own 1 0 v13.length) (.i 48 (.ptr 0 0 1) (.i 47 (.ptr 0 0 0) (.i 46 (.ptr 0 0 0) (.i 45 (vi ((ix a2 v19).Count)) (.i 44 (.ptr 3 0 1) .a))))))) ?_
    obtain ⟨c14,h⟩:=ck h
    refine dp 51 (.iaddr 1 49 50) (ok_iaddr_o0 (j:=y20.toNat) rfl rfl rfl (inB_to c14) (inB_lt c14)) ?_
    obtain ⟨c15,h⟩:=ck h
    refine dp 52 (.load false 1 51) (ok_load_pm (l:=v13) (e:=vi) (v:=vi (ix v13 y20.toNat)) rfl rfl c15 rfl) ?_
    obtain ⟨c16,h⟩:=ck h
    refine dp 53 (.bin .sub false 45 52) (r_sub rfl rfl c16) ?_
    refine dko 2 (.i 54 (.ptr 3 0 1) .a) [some (.row 2 [.agg [eS 3 eStocked a0,.own 1 0 v13.length]]),some (.row 1 (List.map vi v13)),some (.row 2 (List.map ePartCount v18)),some (.row 2 [.agg [vt ((ix a2 v19).Part),vi (((ix a2 v19).Count) - (ix v13 y20.toNat))]]),none,none,none,none,none,none,none,none,none,none,none,none] ?_
    refine dfi (ob':=[some (.row 2 [.agg [eS 3 eStocked a0,.own 1 0 v13.length]]),some (.row 1 (List.map vi v13)),some (.row 2 (List.map ePartCount v18)),some (.row 2 [.agg [vt ((ix a2 v19).Part),vi (((ix a2 v19).Count) - (ix v13 y20.toNat))]])]) (.d4 (.d4 (.d3 (.k4 (.k3 .n))))) [0,1,2,3] (.cons rfl (obRen_row vi_frz rfl (obRen_row ePartCount_frz rfl (.cons rfl .nil)))) ?_
    exact Vs.intro Sees.refl ⟨(((ix a2 v19).Count) - (ix v13 y20.toNat)),rfl,h⟩
   refine q2 ?_
   exact Vs.intro sy ⟨((ix a2 v19).Count),rfl,h⟩
  refine q5 ?_
  exact Vs.intro (sc [2] (by decide) (by kernel_rfl) (obRen_row ePartCount_frz rfl .nil) rfl rfl) ⟨v18,rfl,h⟩
 intro k1 k4 h
 refine q6 ?_
 refine rk 2 (.k (.d (.k (.i 16 (eS 3 eStocked a0) (.i 17 (eS 3 ePartPromise a1) .n))))) ?_
 obtain ⟨y1,hy1,h⟩:=bs h
 rcases y1 with y1 | y1
 ·dsimp only at h
  refine jc 18 [16,17] (restore_shelfOf_ok n a0 a1 (Sum.inl y1) hy1) ?_
  refine jk 5 (.d (.k2 (.i 8 (.p (.pointer none)) (.i 9 (vi y1) .n)))) ?_
  exact Vs.intro Sees.refl (.inl ⟨y1,rfl,h⟩)
 dsimp only at h
 refine jco (.tup [.ptr 0 0 0,vi 0]) 18 [16,17] (restore_shelfOf_ok n a0 a1 (Sum.inr y1) hy1) [] rfl ObsRen.nil (.cons rfl (.same (row_ren vi_frz _ _ _) .nil)) rfl ?_
 refine jk 5 (.d (.k2 (.i 8 (.ptr 0 0 0) (.i 9 (vi 0) .n)))) ?_
 exact Vs.intro Sees.refl (.inr ⟨y1,rfl,h⟩)
set_option maxHeartbeats 1000000 in
theorem agraffetop_TopPromisedOnce_ok (n : Nat) (a0 : List Task) (a1 : Shop) (a2 : List Str) (r : Bool) (h : agraffetop_TopPromisedOnce n a0 a1 a2 = some r) : FnL Tryz.prog 14 [eS 6 eTask a0,.agg [eS 3 eStocked a1.Stock,eS 3 ePartPromise a1.Promises],eS 1 vt a2] [] (vb r) [] := by
 dsimp only [agraffetop_TopPromisedOnce] at h
 refine fo [6] Tryz.call14 Tryz.func14 rfl ?_
 refine sko (.k (.d (.k (.i 4 (.ptr 0 0 0) .n)))) [some (.row 2 [.agg [eS 3 eStocked a1.Stock,eS 3 ePartPromise a1.Promises]])] ?_
 refine q1 ?_
 refine sj ?_
 obtain ⟨y1,hy1,h⟩:=bs h
 refine jc 27 [] (agraffetop_estimated_ok n y1 hy1) ?_
 refine jrd 1 [(0,eS 6 eTask a0),(2,eS 1 vt a2),(4,.ptr 0 0 0),(28,vb (!y1))] [some (.row 2 [.agg [eS 3 eStocked a1.Stock,eS 3 ePartPromise a1.Promises]])] (by kernel_rfl) rfl ?_
 refine tc h (fun c1 h=>?_) (fun c1 h=>?_)
 ·refine sk (.i 6 (vb false) .n) ?_
  refine q3 ?_
  have h:=si h
  subst h
  exact DoneS.ret (S' := ⟨[(6,vb false)],[]⟩) (sc [] (by decide) (by kernel_rfl) ObRen.nil rfl rfl) rfl rfl
 refine q2 ?_
 refine q1 ?_
 refine sj ?_
 refine RegJ.run 1 [(0,eS 6 eTask a0),(2,eS 1 vt a2),(4,.ptr 0 0 0),(29,eS 6 eTask a0)] [some (.row 2 [.agg [eS 3 eStocked a1.Stock,eS 3 ePartPromise a1.Promises]])] (by kernel_rfl) ?_
 obtain ⟨y2,hy2,h⟩:=bs h
 refine jc 30 [29] (agraffelaw08_Few_ok n a0 y2 hy2) ?_
 refine RegJ.run 2 [(0,eS 6 eTask a0),(2,eS 1 vt a2),(4,.ptr 0 0 0),(32,vb (!y2))] [some (.row 2 [.agg [eS 3 eStocked a1.Stock,eS 3 ePartPromise a1.Promises]])] (by kernel_rfl) ?_
 refine gj (eS 6 eTask a0) 33 (.mov 0) 32 false rfl ?_
 refine gv 34 (.len 0 33) 32 false rfl (fun hg=>(ok_len_m rfl)) (fun hg=>(.cons hg .nil)) ?_
 refine gv 35 (.bin .gtr false 34 (ki 8)) 32 false rfl (fun hg=>(n_gtr (i:=a0.length) (j:=8) rfl rfl)) (fun hg=>(.cons hg (.cons rfl .nil))) ?_
 refine po 36 32 35 rfl rfl ?_
 refine RegJ.run 1 [(0,eS 6 eTask a0),(2,eS 1 vt a2),(4,.ptr 0 0 0),(37,vb ((!y2) || (decide (8 < a0.length))))] [some (.row 2 [.agg [eS 3 eStocked a1.Stock,eS 3 ePartPromise a1.Promises]])] (by kernel_rfl) ?_
 refine gj (.ptr 0 0 0) 38 (.faddr 0 4) 37 false rfl ?_
 refine gk (eS 3 eStocked a1.Stock) 39 (.load false 1 38) 37 false rfl (fun hg=>(.cons hg .nil)) ?_
 refine gv 40 (.len 0 39) 37 false rfl (fun hg=>(ok_len_m rfl)) (fun hg=>(.cons hg .nil)) ?_
 refine gv 41 (.bin .gtr false 40 (ki 8)) 37 false rfl (fun hg=>(n_gtr (i:=a1.Stock.length) (j:=8) rfl rfl)) (fun hg=>(.cons hg (.cons rfl .nil))) ?_
 refine po 42 37 41 rfl rfl ?_
 refine RegJ.run 1 [(0,eS 6 eTask a0),(2,eS 1 vt a2),(4,.ptr 0 0 0),(43,vb (((!y2) || (decide (8 < a0.length))) || (decide (8 < a1.Stock.length))))] [some (.row 2 [.agg [eS 3 eStocked a1.Stock,eS 3 ePartPromise a1.Promises]])] (by kernel_rfl) ?_
 refine gj (.ptr 0 0 1) 44 (.faddr 1 4) 43 false rfl ?_
 refine gk (eS 3 ePartPromise a1.Promises) 45 (.load false 1 44) 43 false rfl (fun hg=>(.cons hg .nil)) ?_
 refine gv 46 (.len 0 45) 43 false rfl (fun hg=>(ok_len_m rfl)) (fun hg=>(.cons hg .nil)) ?_
 refine gv 47 (.bin .gtr false 46 (ki 8)) 43 false rfl (fun hg=>(n_gtr (i:=a1.Promises.length) (j:=8) rfl rfl)) (fun hg=>(.cons hg (.cons rfl .nil))) ?_
 refine po 48 43 47 rfl rfl ?_
 refine RegJ.run 1 [(0,eS 6 eTask a0),(2,eS 1 vt a2),(4,.ptr 0 0 0),(49,vb ((((!y2) || (decide (8 < a0.length))) || (decide (8 < a1.Stock.length))) || (decide (8 < a1.Promises.length))))] [some (.row 2 [.agg [eS 3 eStocked a1.Stock,eS 3 ePartPromise a1.Promises]])] (by kernel_rfl) ?_
 refine gj (eS 6 eTask a0) 50 (.mov 0) 49 false rfl ?_
 obtain ⟨y3,hy3,h⟩:=bs h
 refine gc 51 [50] 49 false rfl (fun hg=>agrafferef08_CheckTasks_ok n a0 y3 (gcall_some hy3 hg)) (fun hg=>(.cons rfl (.cons hg .nil))) (fun hg=>by kernel_rfl) ?_
 refine gk (vb (y3 != (0 : Int))) 52 (.bin .neq false 51 (ki 0)) 49 false rfl (fun hg=>(.cons hg (.cons rfl .nil))) ?_
 refine po 53 49 52 rfl rfl ?_
 refine RegJ.run 1 [(0,eS 6 eTask a0),(2,eS 1 vt a2),(4,.ptr 0 0 0),(54,vb (((((!y2) || (decide (8 < a0.length))) || (decide (8 < a1.Stock.length))) || (decide (8 < a1.Promises.length))) || (y3 != (0 : Int))))] [some (.row 2 [.agg [eS 3 eStocked a1.Stock,eS 3 ePartPromise a1.Promises]])] (by kernel_rfl) ?_
 refine gj (eS 6 eTask a0) 55 (.mov 0) 54 false rfl ?_
 refine gj (eS 1 vt a2) 56 (.mov 2) 54 false rfl ?_
 obtain ⟨y4,hy4,h⟩:=bs h
 refine gc 57 [55,56] 54 false rfl (fun hg=>agrafferef08_CheckSet_ok n a0 a2 y4 (gcall_some hy4 hg)) (fun hg=>(.cons rfl (.cons hg (.cons hg .nil)))) (fun hg=>by kernel_rfl) ?_
 refine gk (vb (y4 != (0 : Int))) 58 (.bin .neq false 57 (ki 0)) 54 false rfl (fun hg=>(.cons hg (.cons rfl .nil))) ?_
 refine po 59 54 58 rfl rfl ?_
 refine RegJ.run 1 [(0,eS 6 eTask a0),(2,eS 1 vt a2),(4,.ptr 0 0 0),(60,vb ((((((!y2) || (decide (8 < a0.length))) || (decide (8 < a1.Stock.length))) || (decide (8 < a1.Promises.length))) || (y3 != (0 : Int))) || (y4 != (0 : Int))))] [some (.row 2 [.agg [eS 3 eStocked a1.Stock,eS 3 ePartPromise a1.Promises]])] (by kernel_rfl) ?_
 refine gj (.ptr 0 0 0) 61 (.faddr 0 4) 60 false rfl ?_
 refine gk (eS 3 eStocked a1.Stock) 62 (.load false 1 61) 60 false rfl (fun hg=>(.cons hg .nil)) ?_
 refine gj (.ptr 0 0 1) 63 (.faddr 1 4) 60 false rfl ?_
 refine gk (eS 3 ePartPromise a1.Promises) 64 (.load false 1 63) 60 false rfl (fun hg=>(.cons hg .nil)) ?_
 obtain ⟨y5,hy5,h⟩:=bs h
 refine gc 65 [62,64] 60 false rfl (fun hg=>agrafferef08_CheckPromises_ok n a1.Stock a1.Promises y5 (gcall_some hy5 hg)) (fun hg=>(.cons rfl (.cons hg (.cons hg .nil)))) (fun hg=>by kernel_rfl) ?_
 refine gk (vb (y5 != (0 : Int))) 66 (.bin .neq false 65 (ki 0)) 60 false rfl (fun hg=>(.cons hg (.cons rfl .nil))) ?_
 refine po 67 60 66 rfl rfl ?_
 refine jf (.d4 (.d3 (.k3 (.i 67 (vb (((((((!y2) || (decide (8 < a0.length))) || (decide (8 < a1.Stock.length))) || (decide (8 < a1.Promises.length))) || (y3 != (0 : Int))) || (y4 != (0 : Int))) || (y5 != (0 : Int)))) .n)))) ?_
 refine tc h (fun c2 h=>?_) (fun c2 h=>?_)
 ·refine sk (.i 6 (vb true) .n) ?_
  refine q3 ?_
  have h:=si h
  subst h
  exact DoneS.ret (S' := ⟨[(6,vb true)],[]⟩) (sc [] (by decide) (by kernel_rfl) ObRen.nil rfl rfl) rfl rfl
 refine q2 ?_
 refine sj ?_
 refine RegJ.run 2 [(4,.ptr 0 0 0),(69,eS 6 eTask a0),(70,eS 1 vt a2)] [some (.row 2 [.agg [eS 3 eStocked a1.Stock,eS 3 ePartPromise a1.Promises]])] (by kernel_rfl) ?_
 obtain ⟨y6,hy6,h⟩:=bs h
 refine jc 71 [69,70] (restore_PartsOf_ok n a0 a2 y6 hy6) ?_
 refine jrd 5 [(4,.ptr 0 0 0),(7,eS 2 ePartCount y6.2),(8,vi y6.1)] [some (.row 2 [.agg [eS 3 eStocked a1.Stock,eS 3 ePartPromise a1.Promises]])] (by kernel_rfl) rfl ?_
 refine sj ?_
 refine RegJ.run 5 [(4,.ptr 0 0 0),(7,eS 2 ePartCount y6.2),(8,vi y6.1),(76,eS 3 eStocked a1.Stock),(78,eS 3 ePartPromise a1.Promises),(79,eS 2 ePartCount y6.2)] [some (.row 2 [.agg [eS 3 eStocked a1.Stock,eS 3 ePartPromise a1.Promises]])] (by kernel_rfl) ?_
 obtain ⟨y7,hy7,h⟩:=bs h
 refine jc 80 [76,78,79] (restore_MissingParts_ok n a1.Stock a1.Promises y6.2 y7 hy7) ?_
 refine jrd 5 [(4,.ptr 0 0 0),(7,eS 2 ePartCount y6.2),(8,vi y6.1),(9,eS 2 ePartCount y7.2),(10,vi y7.1)] [some (.row 2 [.agg [eS 3 eStocked a1.Stock,eS 3 ePartPromise a1.Promises]])] (by kernel_rfl) rfl ?_
 refine sj ?_
 refine RegJ.run 4 [(4,.ptr 0 0 0),(7,eS 2 ePartCount y6.2),(8,vi y6.1),(9,eS 2 ePartCount y7.2),(10,vi y7.1),(85,eS 3 eStocked a1.Stock),(87,eS 3 ePartPromise a1.Promises)] [some (.row 2 [.agg [eS 3 eStocked a1.Stock,eS 3 ePartPromise a1.Promises]])] (by kernel_rfl) ?_
 obtain ⟨y8,hy8,h⟩:=bs h
 refine jc 88 [85,87] (restore_LeftOf_ok n a1.Stock a1.Promises y8 hy8) ?_
 refine jrd 5 [(4,.ptr 0 0 0),(7,eS 2 ePartCount y6.2),(8,vi y6.1),(9,eS 2 ePartCount y7.2),(10,vi y7.1),(11,eS 2 ePartCount y8.2),(12,vi y8.1)] [some (.row 2 [.agg [eS 3 eStocked a1.Stock,eS 3 ePartPromise a1.Promises]])] (by kernel_rfl) rfl ?_
 refine q1 ?_
 refine sj ?_
 refine RegJ.run 3 [(4,.ptr 0 0 0),(7,eS 2 ePartCount y6.2),(9,eS 2 ePartCount y7.2),(10,vi y7.1),(11,eS 2 ePartCount y8.2),(12,vi y8.1),(93,vb (y6.1 != (0 : Int)))] [some (.row 2 [.agg [eS 3 eStocked a1.Stock,eS 3 ePartPromise a1.Promises]])] (by kernel_rfl) ?_
 refine gj (vi y8.1) 94 (.mov 12) 93 false rfl ?_
 refine gk (vb (y8.1 != (0 : Int))) 95 (.bin .neq false 94 (ki 0)) 93 false rfl (fun hg=>(.cons hg (.cons rfl .nil))) ?_
 refine po 96 93 95 rfl rfl ?_
 refine RegJ.run 1 [(4,.ptr 0 0 0),(7,eS 2 ePartCount y6.2),(9,eS 2 ePartCount y7.2),(10,vi y7.1),(11,eS 2 ePartCount y8.2),(97,vb ((y6.1 != (0 : Int)) || (y8.1 != (0 : Int))))] [some (.row 2 [.agg [eS 3 eStocked a1.Stock,eS 3 ePartPromise a1.Promises]])] (by kernel_rfl) ?_
 refine gj (eS 2 ePartCount y8.2) 98 (.mov 11) 97 false rfl ?_
 refine gv 99 (.len 0 98) 97 false rfl (fun hg=>(ok_len_m rfl)) (fun hg=>(.cons hg .nil)) ?_
 refine gj (.ptr 0 0 0) 100 (.faddr 0 4) 97 false rfl ?_
 refine gk (eS 3 eStocked a1.Stock) 101 (.load false 1 100) 97 false rfl (fun hg=>(.cons hg .nil)) ?_
 refine gv 102 (.len 0 101) 97 false rfl (fun hg=>(ok_len_m rfl)) (fun hg=>(.cons hg .nil)) ?_
 refine gv 103 (.bin .neq false 99 102) 97 false rfl (fun hg=>(n_neq (i:=y8.2.length) (j:=a1.Stock.length) rfl rfl)) (fun hg=>(.cons hg (.cons hg .nil))) ?_
 refine po 104 97 103 rfl rfl ?_
 refine jf (.d4 (.d3 (.k4 (.k (.i 104 (vb (((y6.1 != (0 : Int)) || (y8.1 != (0 : Int))) || (!decide (y8.2.length = a1.Stock.length)))) .n))))) ?_
 refine tc h (fun c3 h=>?_) (fun c3 h=>?_)
 ·refine sk (.i 6 (vb false) .n) ?_
  refine q3 ?_
  have h:=si h
  subst h
  exact DoneS.ret (S' := ⟨[(6,vb false)],[]⟩) (sc [] (by decide) (by kernel_rfl) ObRen.nil rfl rfl) rfl rfl
 refine q2 ?_
 refine q1 ?_
 refine sj ?_
 refine RegJ.run 1 [(4,.ptr 0 0 0),(7,eS 2 ePartCount y6.2),(9,eS 2 ePartCount y7.2),(10,vi y7.1),(11,eS 2 ePartCount y8.2),(105,eS 2 ePartCount y6.2)] [some (.row 2 [.agg [eS 3 eStocked a1.Stock,eS 3 ePartPromise a1.Promises]])] (by kernel_rfl) ?_
 refine jo 106 (.len 0 105) (ok_len_m rfl) ?_
 refine jo 107 (.bin .gtr false 106 (ki 60)) (n_gtr (i:=y6.2.length) (j:=60) rfl rfl) ?_
 refine jf (.d2 (.k4 (.k (.i 107 (vb (decide (60 < y6.2.length))) .n)))) ?_
 refine tc h (fun c4 h=>?_) (fun c4 h=>?_)
 ·refine sk (.i 6 (vb (y7.1 == (8 : Int))) .n) ?_
  refine q3 ?_
  have h:=si h
  subst h
  exact DoneS.ret (S' := ⟨[(6,vb (y7.1 == (8 : Int)))],[]⟩) (sc [] (by decide) (by kernel_rfl) ObRen.nil rfl rfl) rfl rfl
 refine q2 ?_
 refine TriE.seqK h (fun (_ : Unit)=>St.mk [(4,.ptr 0 0 0),(7,eS 2 ePartCount y6.2),(9,eS 2 ePartCount y7.2),(10,vi y7.1),(11,eS 2 ePartCount y8.2)] [some (.row 2 [.agg [eS 3 eStocked a1.Stock,eS 3 ePartPromise a1.Promises]])]) ?_ ?_
 ·rintro ⟨⟩ h
  refine q1 ?_
  refine sj ?_
  refine RegJ.run 3 [(4,.ptr 0 0 0),(7,eS 2 ePartCount y6.2),(9,eS 2 ePartCount y7.2),(11,eS 2 ePartCount y8.2),(124,vb (y7.1 != (0 : Int)))] [some (.row 2 [.agg [eS 3 eStocked a1.Stock,eS 3 ePartPromise a1.Promises]])] (by kernel_rfl) ?_
  refine gj (eS 2 ePartCount y7.2) 125 (.mov 9) 124 false rfl ?_
  refine gv 126 (.len 0 125) 124 false rfl (fun hg=>(ok_len_m rfl)) (fun hg=>(.cons hg .nil)) ?_
  refine gj (eS 2 ePartCount y6.2) 127 (.mov 7) 124 false rfl ?_
  refine gv 128 (.len 0 127) 124 false rfl (fun hg=>(ok_len_m rfl)) (fun hg=>(.cons hg .nil)) ?_
  refine gv 129 (.bin .gtr false 126 128) 124 false rfl (fun hg=>(n_gtr (i:=y7.2.length) (j:=y6.2.length) rfl rfl)) (fun hg=>(.cons hg (.cons hg .nil))) ?_
  refine po 130 124 129 rfl rfl ?_
  refine jf (.d4 (.d2 (.k4 (.i 130 (vb ((y7.1 != (0 : Int)) || (decide (y6.2.length < y7.2.length)))) .n)))) ?_
  refine tc h (fun c8 h=>?_) (fun c8 h=>?_)
  ·refine sk (.i 6 (vb false) .n) ?_
   refine q3 ?_
   have h:=si h
   subst h
   exact DoneS.ret (S' := ⟨[(6,vb false)],[]⟩) (sc [] (by decide) (by kernel_rfl) ObRen.nil rfl rfl) rfl rfl
  refine q2 ?_
  refine sj ?_
  refine RegJ.run 3 [(4,.ptr 0 0 0),(7,eS 2 ePartCount y6.2),(9,eS 2 ePartCount y7.2),(11,eS 2 ePartCount y8.2),(131,.emp),(133,eS 3 ePartPromise a1.Promises)] [some (.row 2 [.agg [eS 3 eStocked a1.Stock,eS 3 ePartPromise a1.Promises]])] (by kernel_rfl) ?_
  obtain ⟨c9,h⟩:=ck h
  refine jx 134 (.app 3 40 131 133) _ (ok_app_emp (e:=ePartPromise) (l:=a1.Promises) (u:=eS 3 ePartPromise a1.Promises) rfl rfl els_sl c9) rfl rfl ?_
  refine jrd 1 [(4,.ptr 0 0 0),(7,eS 2 ePartCount y6.2),(9,eS 2 ePartCount y7.2),(11,eS 2 ePartCount y8.2),(14,.own 1 0 a1.Promises.length)] [some (.row 2 [.agg [eS 3 eStocked a1.Stock,eS 3 ePartPromise a1.Promises]]),some (.row 3 (List.map ePartPromise a1.Promises))] (by kernel_rfl) rfl ?_
  refine sk (.k4 (.k (.i 15 (vb true) .n))) ?_
  refine TriE.seqK h (fun (t : (List PartPromise) × Bool)=>match t with | (v31,v32)=>St.mk [(4,.ptr 0 0 0),(7,eS 2 ePartCount y6.2),(9,eS 2 ePartCount y7.2),(11,eS 2 ePartCount y8.2),(14,eS 3 ePartPromise v31),(15,vb v32)] [some (.row 2 [.agg [eS 3 eStocked a1.Stock,eS 3 ePartPromise a1.Promises]])]) ?_ ?_
  ·rintro ⟨v31,v32⟩ h
   refine q1 ?_
   refine sj ?_
   refine RegJ.run 2 [(4,.ptr 0 0 0),(7,eS 2 ePartCount y6.2),(11,eS 2 ePartCount y8.2),(14,eS 3 ePartPromise v31),(15,vb v32),(243,vb v32),(244,eS 2 ePartCount y7.2)] [some (.row 2 [.agg [eS 3 eStocked a1.Stock,eS 3 ePartPromise a1.Promises]])] (by kernel_rfl) ?_
   refine jo 245 (.len 0 244) (ok_len_m rfl) ?_
   refine jo 246 (.bin .eql false 245 (ki 0)) (n_eql (i:=y7.2.length) (j:=0) rfl rfl) ?_
   refine jrd 1 [(4,.ptr 0 0 0),(7,eS 2 ePartCount y6.2),(11,eS 2 ePartCount y8.2),(14,eS 3 ePartPromise v31),(15,vb v32),(247,vb (!(v32 == decide (y7.2.length = 0))))] [some (.row 2 [.agg [eS 3 eStocked a1.Stock,eS 3 ePartPromise a1.Promises]])] (by kernel_rfl) rfl ?_
   refine tc h (fun c25 h=>?_) (fun c25 h=>?_)
   ·refine sk (.i 6 (vb false) .n) ?_
    refine q3 ?_
    have h:=si h
    subst h
    exact DoneS.ret (S' := ⟨[(6,vb false)],[]⟩) (sc [] (by decide) (by kernel_rfl) ObRen.nil rfl rfl) rfl rfl
   refine q2 ?_
   refine sj ?_
   refine RegJ.run 3 [(7,eS 2 ePartCount y6.2),(11,eS 2 ePartCount y8.2),(15,vb v32),(250,eS 3 eStocked a1.Stock),(251,eS 3 ePartPromise v31)] [some (.row 2 [.agg [eS 3 eStocked a1.Stock,eS 3 ePartPromise a1.Promises]])] (by kernel_rfl) ?_
   obtain ⟨y33,hy33,h⟩:=bs h
   refine jc 252 [250,251] (restore_LeftOf_ok n a1.Stock v31 y33 hy33) ?_
   refine jrd 5 [(7,eS 2 ePartCount y6.2),(11,eS 2 ePartCount y8.2),(15,vb v32),(22,eS 2 ePartCount y33.2),(23,vi y33.1)] [some (.row 2 [.agg [eS 3 eStocked a1.Stock,eS 3 ePartPromise a1.Promises]])] (by kernel_rfl) rfl ?_
   refine q1 ?_
   refine sj ?_
   refine RegJ.run 3 [(7,eS 2 ePartCount y6.2),(11,eS 2 ePartCount y8.2),(15,vb v32),(22,eS 2 ePartCount y33.2),(257,vb (y33.1 != (0 : Int)))] [some (.row 2 [.agg [eS 3 eStocked a1.Stock,eS 3 ePartPromise a1.Promises]])] (by kernel_rfl) ?_
   refine gj (eS 2 ePartCount y33.2) 258 (.mov 22) 257 false rfl ?_
   refine gv 259 (.len 0 258) 257 false rfl (fun hg=>(ok_len_m rfl)) (fun hg=>(.cons hg .nil)) ?_
   refine gj (eS 2 ePartCount y8.2) 260 (.mov 11) 257 false rfl ?_
   refine gv 261 (.len 0 260) 257 false rfl (fun hg=>(ok_len_m rfl)) (fun hg=>(.cons hg .nil)) ?_
   refine gv 262 (.bin .neq false 259 261) 257 false rfl (fun hg=>(n_neq (i:=y33.2.length) (j:=y8.2.length) rfl rfl)) (fun hg=>(.cons hg (.cons hg .nil))) ?_
   refine po 263 257 262 rfl rfl ?_
   refine jf (.d4 (.d2 (.k4 (.i 263 (vb ((y33.1 != (0 : Int)) || (!decide (y33.2.length = y8.2.length)))) .n)))) ?_
   refine tc h (fun c26 h=>?_) (fun c26 h=>?_)
   ·refine sk (.i 6 (vb false) .n) ?_
    refine q3 ?_
    have h:=si h
    subst h
    exact DoneS.ret (S' := ⟨[(6,vb false)],[]⟩) (sc [] (by decide) (by kernel_rfl) ObRen.nil rfl rfl) rfl rfl
   refine q2 ?_
   refine TriE.seqK h (fun (_ : Unit)=>St.mk [] []) ?_ ?_
   ·rintro ⟨⟩ h
    refine sk (.i 6 (vb true) .n) ?_
    refine q3 ?_
    have h:=si h
    subst h
    exact DoneS.ret Sees.refl rfl rfl
   intro k8 h
   refine sk (.k4 (.i 24 (vi 0) .n)) ?_
   refine q4 ?_
   refine TriE.sees (S':=⟨[(7,eS 2 ePartCount y6.2),(11,eS 2 ePartCount y8.2),(15,vb v32),(22,eS 2 ePartCount y33.2),(24,vi 0)],[]⟩) (sc [] (by decide) (by kernel_rfl) ObRen.nil rfl rfl) ?_
   refine TriE.loopN h (fun (v39 : Nat)=>St.mk [(7,eS 2 ePartCount y6.2),(11,eS 2 ePartCount y8.2),(15,vb v32),(22,eS 2 ePartCount y33.2),(24,vi v39)] []) rfl ?_
   clear h
   rintro back v39 h
   dsimp only [q31k] at h
   refine q1 ?_
   refine sj ?_
   refine RegJ.run 2 [(7,eS 2 ePartCount y6.2),(11,eS 2 ePartCount y8.2),(15,vb v32),(22,eS 2 ePartCount y33.2),(24,vi v39),(264,vi v39),(265,eS 2 ePartCount y33.2)] [] (by kernel_rfl) ?_
   refine jo 266 (.len 0 265) (ok_len_m rfl) ?_
   refine jo 267 (.bin .lss false 264 266) (n_lss (i:=v39) (j:=y33.2.length) rfl rfl) ?_
   refine RegJ.run 1 [(7,eS 2 ePartCount y6.2),(11,eS 2 ePartCount y8.2),(15,vb v32),(22,eS 2 ePartCount y33.2),(24,vi v39),(268,vb (decide (v39 < y33.2.length)))] [] (by kernel_rfl) ?_
   refine gj (vb v32) 269 (.mov 15) 268 true rfl ?_
   refine pa 270 268 269 rfl rfl ?_
   refine jf (.d2 (.k4 (.k (.i 270 (vb ((decide (v39 < y33.2.length)) && v32)) .n)))) ?_
   refine tc h (fun c27 h=>?_) (fun c27 h=>?_)
   ·refine q2 ?_
    refine q7 ?_
    refine sk (.k4 (.k (.i 25 (vi 0) .n))) ?_
    refine TriE.seqK h (fun (v44 : Int)=>St.mk [(7,eS 2 ePartCount y6.2),(11,eS 2 ePartCount y8.2),(15,vb v32),(22,eS 2 ePartCount y33.2),(24,vi v39),(25,vi v44)] []) ?_ ?_
    ·rintro v44 h
     refine q1 ?_
     refine ts .a ?_
     refine TriE.draw (by kernel_rfl) ?_
     refine dk 2 (.i 296 (vi v39) (.i 295 (eS 2 ePartCount y33.2) .a)) ?_
     obtain ⟨c32,h⟩:=ck h
     refine dp 297 (.iaddr 2 295 296) (ok_iaddr_m (j:=v39) rfl rfl rfl c32) ?_
     refine dk 1 (.i 298 (.fptr 2 (List.map ePartCount y33.2) v39 1) .a) ?_
     refine dp 299 (.load false 1 298) (ok_load_fm (v:=vi ((ix y33.2 v39).Count)) rfl c32 rfl) ?_
     refine dk 2 (.i 301 (vi v39) (.i 300 (eS 2 ePartCount y8.2) .a)) ?_
     obtain ⟨c33,h⟩:=ck h
     refine dp 302 (.iaddr 2 300 301) (ok_iaddr_m (j:=v39) rfl rfl rfl c33) ?_
     refine dk 1 (.i 303 (.fptr 2 (List.map ePartCount y8.2) v39 1) .a) ?_
     refine dp 304 (.load false 1 303) (ok_load_fm (v:=vi ((ix y8.2 v39).Count)) rfl c33 rfl) ?_
     refine dk 1 (.i 305 (vi v44) .a) ?_
     obtain ⟨c34,h⟩:=ck h
     refine dp 306 (.bin .sub false 304 305) (r_sub rfl rfl c34) ?_
     refine dk 1 (.i 307 (vb (((ix y33.2 v39).Count) != (((ix y8.2 v39).Count) - v44))) .a) ?_
     refine dfi (.d4 (.d4 (.d4 (.d (.k4 (.k (.i 307 (vb (((ix y33.2 v39).Count) != (((ix y8.2 v39).Count) - v44))) .n))))))) [] ObRen.nil ?_
     refine tc h (fun c35 h=>?_) (fun c35 h=>?_)
     ·refine sk (.i 6 (vb false) .n) ?_
      refine q3 ?_
      have h:=si h
      subst h
      exact DoneS.ret Sees.refl rfl rfl
     refine q2 ?_
     refine q6 ?_
     refine RegJ.run 1 [(7,eS 2 ePartCount y6.2),(11,eS 2 ePartCount y8.2),(15,vb v32),(22,eS 2 ePartCount y33.2),(271,vi v39)] [] (by kernel_rfl) ?_
     obtain ⟨c36,h⟩:=ck h
     refine jo 272 (.bin .add false 271 (ki 1)) (r_addn (i:=v39) (j:=1) rfl rfl c36) ?_
     refine jrd 1 [(7,eS 2 ePartCount y6.2),(11,eS 2 ePartCount y8.2),(15,vb v32),(22,eS 2 ePartCount y33.2),(24,vi ((v39 + 1 : Nat) : Int))] [] (by kernel_rfl) rfl ?_
     exact Vs.intro sy ⟨(v39 + 1),rfl,h⟩
    intro k7 h
    refine sk (.k4 (.k2 (.i 26 (vi 0) .n))) ?_
    refine q4 ?_
    refine ts (.k4 (.k2 (.i 26 (vi 0) .n))) ?_
    refine TriE.loopN h (fun (t : Int × Nat)=>match t with | (v41,v42)=>St.mk [(7,eS 2 ePartCount y6.2),(11,eS 2 ePartCount y8.2),(15,vb v32),(22,eS 2 ePartCount y33.2),(24,vi v39),(25,vi v41),(26,vi v42)] []) rfl ?_
    clear h
    rintro back ⟨v41,v42⟩ h
    dsimp only [q56k] at h
    refine q1 ?_
    refine sj ?_
    refine RegJ.run 2 [(7,eS 2 ePartCount y6.2),(11,eS 2 ePartCount y8.2),(15,vb v32),(22,eS 2 ePartCount y33.2),(24,vi v39),(25,vi v41),(26,vi v42),(273,vi v42),(274,eS 2 ePartCount y6.2)] [] (by kernel_rfl) ?_
    refine jo 275 (.len 0 274) (ok_len_m rfl) ?_
    refine jo 276 (.bin .lss false 273 275) (n_lss (i:=v42) (j:=y6.2.length) rfl rfl) ?_
    refine jf (.d2 (.k4 (.k3 (.i 276 (vb (decide (v42 < y6.2.length))) .n)))) ?_
    refine tc h (fun c28 h=>?_) (fun c28 h=>?_)
    ·refine q2 ?_
     refine TriE.seqK h (fun (v43 : Int)=>St.mk [(7,eS 2 ePartCount y6.2),(11,eS 2 ePartCount y8.2),(15,vb v32),(22,eS 2 ePartCount y33.2),(24,vi v39),(26,vi v42),(25,vi v43)] []) ?_ ?_
     ·rintro v43 h
      refine q6 ?_
      refine RegJ.run 1 [(7,eS 2 ePartCount y6.2),(11,eS 2 ePartCount y8.2),(15,vb v32),(22,eS 2 ePartCount y33.2),(24,vi v39),(25,vi v43),(277,vi v42)] [] (by kernel_rfl) ?_
      obtain ⟨c31,h⟩:=ck h
      refine jo 278 (.bin .add false 277 (ki 1)) (r_addn (i:=v42) (j:=1) rfl rfl c31) ?_
      refine jrd 1 [(7,eS 2 ePartCount y6.2),(11,eS 2 ePartCount y8.2),(15,vb v32),(22,eS 2 ePartCount y33.2),(24,vi v39),(25,vi v43),(26,vi ((v42 + 1 : Nat) : Int))] [] (by kernel_rfl) rfl ?_
      exact Vs.intro sy ⟨(v43,v42 + 1),rfl,h⟩
     intro k6 h
     refine q4 ?_
     refine q1 ?_
     refine ts (.k4 (.k3 .n)) ?_
     refine TriE.draw (by kernel_rfl) ?_
     refine dk 2 (.i 280 (vi v42) (.i 279 (eS 2 ePartCount y6.2) .a)) ?_
     refine dp 281 (.iaddr 2 279 280) (ok_iaddr_m (j:=v42) rfl rfl rfl c28) ?_
     refine dk 1 (.i 282 (.fptr 2 (List.map ePartCount y6.2) v42 0) .a) ?_
     refine dp 283 (.load false 1 282) (ok_load_fm (v:=vt ((ix y6.2 v42).Part)) rfl c28 rfl) ?_
     refine dk 2 (.i 285 (vi v39) (.i 284 (eS 2 ePartCount y33.2) .a)) ?_
     obtain ⟨c29,h⟩:=ck h
     refine dp 286 (.iaddr 2 284 285) (ok_iaddr_m (j:=v39) rfl rfl rfl c29) ?_
     refine dk 1 (.i 287 (.fptr 2 (List.map ePartCount y33.2) v39 0) .a) ?_
     refine dp 288 (.load false 1 287) (ok_load_fm (v:=vt ((ix y33.2 v39).Part)) rfl c29 rfl) ?_
     refine dk 1 (.i 289 (vb (((ix y6.2 v42).Part) == ((ix y33.2 v39).Part))) .a) ?_
     refine dfi (.d4 (.d4 (.d3 (.k4 (.k3 (.i 289 (vb (((ix y6.2 v42).Part) == ((ix y33.2 v39).Part))) .n)))))) [] ObRen.nil ?_
     refine tc h (fun c30 h=>?_) (fun c30 h=>?_)
     ·refine q6 ?_
      refine RegJ.run 2 [(7,eS 2 ePartCount y6.2),(11,eS 2 ePartCount y8.2),(15,vb v32),(22,eS 2 ePartCount y33.2),(24,vi v39),(26,vi v42),(290,eS 2 ePartCount y6.2),(291,vi v42)] [] (by kernel_rfl) ?_
      refine jo 292 (.iaddr 2 290 291) (ok_iaddr_m (j:=v42) rfl rfl rfl c28) ?_
      refine RegJ.run 1 [(7,eS 2 ePartCount y6.2),(11,eS 2 ePartCount y8.2),(15,vb v32),(22,eS 2 ePartCount y33.2),(24,vi v39),(26,vi v42),(293,.fptr 2 (List.map ePartCount y6.2) v42 1)] [] (by kernel_rfl) ?_
      refine jo 294 (.load false 1 293) (ok_load_fm (v:=vi ((ix y6.2 v42).Count)) rfl c28 rfl) ?_
      refine jrd 1 [(7,eS 2 ePartCount y6.2),(11,eS 2 ePartCount y8.2),(15,vb v32),(22,eS 2 ePartCount y33.2),(24,vi v39),(26,vi v42),(25,vi ((ix y6.2 v42).Count))] [] (by kernel_rfl) rfl ?_
      exact Vs.intro Sees.refl ⟨((ix y6.2 v42).Count),rfl,h⟩
     refine q2 ?_
     exact Vs.intro sy ⟨v41,rfl,h⟩
    refine q5 ?_
    exact Vs.intro sy ⟨v41,rfl,h⟩
   refine q5 ?_
   exact Vs.intro sy ⟨(),rfl,h⟩
  intro k5 h
  refine sk (.k4 (.k2 (.i 16 (vi 0) .n))) ?_
  refine q4 ?_
  refine TriE.sees (S':=⟨[(4,.ptr 0 0 0),(7,eS 2 ePartCount y6.2),(9,eS 2 ePartCount y7.2),(11,eS 2 ePartCount y8.2),(14,eS 3 ePartPromise a1.Promises),(15,vb true),(16,vi 0)],[some (.row 2 [.agg [eS 3 eStocked a1.Stock,eS 3 ePartPromise a1.Promises]])]⟩) (Sees.trans (Sees.freeze 1 (fr':=[(4,.ptr 0 0 0),(7,eS 2 ePartCount y6.2),(9,eS 2 ePartCount y7.2),(11,eS 2 ePartCount y8.2),(14,eS 3 ePartPromise a1.Promises),(15,vb true),(16,vi 0)]) (ob':=[some (.row 2 [.agg [eS 3 eStocked a1.Stock,eS 3 ePartPromise a1.Promises]]),none]) rfl (frz_row ePartPromise_frzE _) (.cons (.refl _) (.cons (.refl _) (.cons (.refl _) (.cons (.refl _) (.cons (frz_full rfl) (.cons (.refl _) (.cons (.refl _) .nil))))))) rfl) (sc [0] (by decide) (by kernel_rfl) (.cons rfl .nil) rfl rfl)) ?_
  refine TriE.loopN h (fun (t : (List PartPromise) × Bool × Nat)=>match t with | (v19,v20,v21)=>St.mk [(4,.ptr 0 0 0),(7,eS 2 ePartCount y6.2),(9,eS 2 ePartCount y7.2),(11,eS 2 ePartCount y8.2),(14,eS 3 ePartPromise v19),(15,vb v20),(16,vi v21)] [some (.row 2 [.agg [eS 3 eStocked a1.Stock,eS 3 ePartPromise a1.Promises]])]) rfl ?_
  clear h
  rintro back ⟨v19,v20,v21⟩ h
  dsimp only [q42k] at h
  refine q1 ?_
  refine sj ?_
  refine RegJ.run 2 [(4,.ptr 0 0 0),(7,eS 2 ePartCount y6.2),(9,eS 2 ePartCount y7.2),(11,eS 2 ePartCount y8.2),(14,eS 3 ePartPromise v19),(15,vb v20),(16,vi v21),(135,vi v21),(136,eS 2 ePartCount y6.2)] [some (.row 2 [.agg [eS 3 eStocked a1.Stock,eS 3 ePartPromise a1.Promises]])] (by kernel_rfl) ?_
  refine jo 137 (.len 0 136) (ok_len_m rfl) ?_
  refine jo 138 (.bin .lss false 135 137) (n_lss (i:=v21) (j:=y6.2.length) rfl rfl) ?_
  refine jf (.d2 (.k4 (.k3 (.i 138 (vb (decide (v21 < y6.2.length))) .n)))) ?_
  refine tc h (fun c10 h=>?_) (fun c10 h=>?_)
  ·refine q2 ?_
   refine TriE.seqK h (fun (t : (List PartPromise) × Bool)=>match t with | (v29,v30)=>St.mk [(4,.ptr 0 0 0),(7,eS 2 ePartCount y6.2),(9,eS 2 ePartCount y7.2),(11,eS 2 ePartCount y8.2),(15,vb v30),(16,vi v21),(14,eS 3 ePartPromise v29)] [some (.row 2 [.agg [eS 3 eStocked a1.Stock,eS 3 ePartPromise a1.Promises]])]) ?_ ?_
   ·rintro ⟨v29,v30⟩ h
    refine q6 ?_
    refine RegJ.run 1 [(4,.ptr 0 0 0),(7,eS 2 ePartCount y6.2),(9,eS 2 ePartCount y7.2),(11,eS 2 ePartCount y8.2),(15,vb v30),(14,eS 3 ePartPromise v29),(139,vi v21)] [some (.row 2 [.agg [eS 3 eStocked a1.Stock,eS 3 ePartPromise a1.Promises]])] (by kernel_rfl) ?_
    obtain ⟨c24,h⟩:=ck h
    refine jo 140 (.bin .add false 139 (ki 1)) (r_addn (i:=v21) (j:=1) rfl rfl c24) ?_
    refine jrd 1 [(4,.ptr 0 0 0),(7,eS 2 ePartCount y6.2),(9,eS 2 ePartCount y7.2),(11,eS 2 ePartCount y8.2),(15,vb v30),(14,eS 3 ePartPromise v29),(16,vi ((v21 + 1 : Nat) : Int))] [some (.row 2 [.agg [eS 3 eStocked a1.Stock,eS 3 ePartPromise a1.Promises]])] (by kernel_rfl) rfl ?_
    exact Vs.intro sy ⟨(v29,v30,v21 + 1),rfl,h⟩
   intro k4 h
   refine q4 ?_
   refine q1 ?_
   refine ts (.k4 (.k3 .n)) ?_
   refine TriE.draw (by kernel_rfl) ?_
   refine dk 5 (.i 146 (vi v21) (.i 145 (eS 2 ePartCount y6.2) (.i 144 (eS 3 ePartPromise v19) (.i 143 (eS 3 eStocked a1.Stock) (.i 142 (.ptr 0 0 0) .a))))) ?_
   refine dp 147 (.iaddr 2 145 146) (ok_iaddr_m (j:=v21) rfl rfl rfl c10) ?_
   refine dk 1 (.i 148 (.fptr 2 (List.map ePartCount y6.2) v21 0) .a) ?_
   refine dp 149 (.load false 1 148) (ok_load_fm (v:=vt ((ix y6.2 v21).Part)) rfl c10 rfl) ?_
   refine dk 2 (.i 151 (vi v21) (.i 150 (eS 2 ePartCount y6.2) .a)) ?_
   refine dp 152 (.iaddr 2 150 151) (ok_iaddr_m (j:=v21) rfl rfl rfl c10) ?_
   refine dk 1 (.i 153 (.fptr 2 (List.map ePartCount y6.2) v21 1) .a) ?_
   refine dp 154 (.load false 1 153) (ok_load_fm (v:=vi ((ix y6.2 v21).Count)) rfl c10 rfl) ?_
   refine dk 1 (.i 155 (.agg [vt ([103,114,97,110,100] : Str),vt ((ix y6.2 v21).Part),vi ((ix y6.2 v21).Count)]) .a) ?_
   obtain ⟨y22,hy22,h⟩:=bs h
   refine dc (.tup [eS 3 ePartPromise y22.2,vi y22.1]) 0 156 [143,144,155] (restore_AddPromise_ok n a1.Stock v19 (PartPromise.mk ([103,114,97,110,100] : Str) ((ix y6.2 v21).Part) ((ix y6.2 v21).Count)) y22 hy22) [] rfl ObsRen.nil ObsRen.nil rfl (.inr ⟨rfl,rfl⟩) ?_
   refine dk 5 (.i 18 (vi y22.1) (.i 17 (eS 3 ePartPromise y22.2) (.i 158 (vi y22.1) (.i 157 (eS 3 ePartPromise y22.2) (.i 141 (.tup [eS 3 ePartPromise y22.2,vi y22.1]) .a))))) ?_
   refine dfi (ob':=[some (.row 2 [.agg [eS 3 eStocked a1.Stock,eS 3 ePartPromise a1.Promises]])]) (.d4 (.d4 (.d4 (.d4 (.d4 (.k4 (.k3 (.i 17 (eS 3 ePartPromise y22.2) (.i 18 (vi y22.1) .n))))))))) [0] (.cons rfl .nil) ?_
   refine sk (.k4 (.k4 (.k (.i 19 (vi 0) .n)))) ?_
   refine TriE.seqK h (fun (v27 : Int)=>St.mk [(4,.ptr 0 0 0),(7,eS 2 ePartCount y6.2),(9,eS 2 ePartCount y7.2),(11,eS 2 ePartCount y8.2),(14,eS 3 ePartPromise v19),(15,vb v20),(16,vi v21),(17,eS 3 ePartPromise y22.2),(18,vi y22.1),(19,vi v27)] [some (.row 2 [.agg [eS 3 eStocked a1.Stock,eS 3 ePartPromise a1.Promises]])]) ?_ ?_
   ·rintro v27 h
    refine q1 ?_
    refine ts .a ?_
    refine TriE.draw (by kernel_rfl) ?_
    refine dk 4 (.i 184 (vi v21) (.i 183 (eS 2 ePartCount y6.2) (.i 182 (eS 3 eStocked a1.Stock) (.i 181 (.ptr 0 0 0) .a)))) ?_
    refine dp 185 (.iaddr 2 183 184) (ok_iaddr_m (j:=v21) rfl rfl rfl c10) ?_
    refine dk 1 (.i 186 (.fptr 2 (List.map ePartCount y6.2) v21 0) .a) ?_
    refine dp 187 (.load false 1 186) (ok_load_fm (v:=vt ((ix y6.2 v21).Part)) rfl c10 rfl) ?_
    obtain ⟨y28,hy28,h⟩:=bs h
    refine dc (vi y28) 0 188 [182,187] (agrafferef08_FindStock_ok n a1.Stock ((ix y6.2 v21).Part) y28 hy28) [] rfl ObsRen.nil ObsRen.nil rfl (.inr ⟨rfl,rfl⟩) ?_
    refine dk 1 (.i 21 (vi y28) .a) ?_
    refine dfi (ob':=[some (.row 2 [.agg [eS 3 eStocked a1.Stock,eS 3 ePartPromise a1.Promises]])]) (.d4 (.d4 (.d (.k4 (.k4 (.k2 (.i 21 (vi y28) .n))))))) [0] (.cons rfl .nil) ?_
    refine q4 ?_
    refine sk (.k4 (.k4 (.k3 (.i 206 (vb (y22.1 == (0 : Int))) .n)))) ?_
    refine tc h (fun c14 h=>?_) (fun c14 h=>?_)
    ·refine q1 ?_
     refine q1 ?_
     refine ts (.k4 (.d (.k3 (.d (.k2 .n))))) ?_
     refine TriE.draw (by kernel_rfl) ?_
     refine dk 3 (.i 211 (vb (v27 != (0 : Int))) (.i 210 (vb (v27 != (0 : Int))) (.i 209 (vi v27) .a))) ?_
     refine gd (!(v27 != (0 : Int))) (vi y28) 212 (.mov 21) 211 false rfl (fun hg=>(.cons rfl .nil)) ?_
     refine gd (!(v27 != (0 : Int))) (vb (decide (y28 < (0 : Int)))) 213 (.bin .lss false 212 (ki 0)) 211 false rfl (fun hg=>(.cons hg (.cons rfl .nil))) ?_
     refine RegD.op (OpD.or (cy (I0 214 (.pick 211 (.c (.p (.bool true))) 213))) rfl rfl (by first | exact hokO1 | exact hokO0 | simp)) ?_
     refine dk 1 (.i 215 (vb ((v27 != (0 : Int)) || (decide (y28 < (0 : Int))))) (.i 214 (vb ((v27 != (0 : Int)) || (decide (y28 < (0 : Int))))) (.d .a))) ?_
     refine gd (!((v27 != (0 : Int)) || (decide (y28 < (0 : Int))))) (eS 2 ePartCount y8.2) 216 (.mov 11) 215 false rfl (fun hg=>(.cons rfl .nil)) ?_
     refine gd (!((v27 != (0 : Int)) || (decide (y28 < (0 : Int))))) (vi y28) 217 (.mov 21) 215 false rfl (fun hg=>(.cons rfl .nil)) ?_
     obtain ⟨c15,h⟩:=ck h
     refine gu (!((v27 != (0 : Int)) || (decide (y28 < (0 : Int))))) 218 (.iaddr 2 216 217) 215 false rfl (fun hg=>(ok_iaddr_m (j:=y28.toNat) rfl rfl (inB_to (gor c15 hg)) (inB_lt (gor c15 hg)))) (fun hg=>(.cons hg (.cons hg .nil))) ?_
     refine gd (!((v27 != (0 : Int)) || (decide (y28 < (0 : Int))))) (.fptr 2 (List.map ePartCount y8.2) y28.toNat 1) 219 (.faddr 1 218) 215 false rfl (fun hg=>(.cons hg .nil)) ?_
     obtain ⟨c16,h⟩:=ck h
     refine gu (!((v27 != (0 : Int)) || (decide (y28 < (0 : Int))))) 220 (.load false 1 219) 215 false rfl (fun hg=>(ok_load_fm (v:=vi ((ix y8.2 y28.toNat).Count)) rfl (gor c16 hg) rfl)) (fun hg=>(.cons hg .nil)) ?_
     refine gd (!((v27 != (0 : Int)) || (decide (y28 < (0 : Int))))) (eS 2 ePartCount y6.2) 221 (.mov 7) 215 false rfl (fun hg=>(.cons rfl .nil)) ?_
     refine gd (!((v27 != (0 : Int)) || (decide (y28 < (0 : Int))))) (vi v21) 222 (.mov 16) 215 false rfl (fun hg=>(.cons rfl .nil)) ?_
     refine gu (!((v27 != (0 : Int)) || (decide (y28 < (0 : Int))))) 223 (.iaddr 2 221 222) 215 false rfl (fun hg=>(ok_iaddr_m (j:=v21) rfl rfl rfl c10)) (fun hg=>(.cons hg (.cons hg .nil))) ?_
     refine gd (!((v27 != (0 : Int)) || (decide (y28 < (0 : Int))))) (.fptr 2 (List.map ePartCount y6.2) v21 1) 224 (.faddr 1 223) 215 false rfl (fun hg=>(.cons hg .nil)) ?_
     refine gu (!((v27 != (0 : Int)) || (decide (y28 < (0 : Int))))) 225 (.load false 1 224) 215 false rfl (fun hg=>(ok_load_fm (v:=vi ((ix y6.2 v21).Count)) rfl c10 rfl)) (fun hg=>(.cons hg .nil)) ?_
     refine gd (!((v27 != (0 : Int)) || (decide (y28 < (0 : Int))))) (vb (decide (((ix y8.2 y28.toNat).Count) < ((ix y6.2 v21).Count)))) 226 (.bin .lss false 220 225) 215 false rfl (fun hg=>(.cons hg (.cons hg .nil))) ?_
     refine RegD.op (OpD.or (cy (I0 227 (.pick 215 (.c (.p (.bool true))) 226))) rfl rfl (by first | exact hokO1 | exact hokO0 | simp)) ?_
     refine dfi (ob':=[some (.row 2 [.agg [eS 3 eStocked a1.Stock,eS 3 ePartPromise a1.Promises]])]) (.d4 (.d4 (.d4 (.d4 (.d3 (.k4 (.k3 (.i 227 (vb (((v27 != (0 : Int)) || (decide (y28 < (0 : Int)))) || (decide (((ix y8.2 y28.toNat).Count) < ((ix y6.2 v21).Count))))) .n)))))))) [0] (.cons rfl .nil) ?_
     refine tc h (fun c17 h=>?_) (fun c17 h=>?_)
     ·refine sk (.i 6 (vb false) .n) ?_
      refine q3 ?_
      have h:=si h
      subst h
      exact DoneS.ret (S' := ⟨[(6,vb false)],[]⟩) (sc [] (by decide) (by kernel_rfl) ObRen.nil rfl rfl) rfl rfl
     refine q2 ?_
     refine tk (.k4 (.k2 (.i 14 (eS 3 ePartPromise y22.2) .n))) ?_
     exact Vs.intro Sees.refl ⟨(y22.2,v20),rfl,h⟩
    refine sk (.k4 (.k (.d (.k (.d (.k3 (.i 229 (vb (decide (y28 < (0 : Int)))) .n))))))) ?_
    refine tc h (fun c18 h=>?_) (fun c18 h=>?_)
    ·refine q1 ?_
     refine sj ?_
     refine RegJ.run 3 [(4,.ptr 0 0 0),(7,eS 2 ePartCount y6.2),(9,eS 2 ePartCount y7.2),(11,eS 2 ePartCount y8.2),(14,eS 3 ePartPromise v19),(16,vi v21),(19,vi v27),(234,vb (y22.1 != (6 : Int)))] [some (.row 2 [.agg [eS 3 eStocked a1.Stock,eS 3 ePartPromise a1.Promises]])] (by kernel_rfl) ?_
     refine gj (vi v27) 235 (.mov 19) 234 false rfl ?_
     refine gj (eS 2 ePartCount y6.2) 236 (.mov 7) 234 false rfl ?_
     refine gj (vi v21) 237 (.mov 16) 234 false rfl ?_
     refine gv 238 (.iaddr 2 236 237) 234 false rfl (fun hg=>(ok_iaddr_m (j:=v21) rfl rfl rfl c10)) (fun hg=>(.cons hg (.cons hg .nil))) ?_
     refine gk (.fptr 2 (List.map ePartCount y6.2) v21 1) 239 (.faddr 1 238) 234 false rfl (fun hg=>(.cons hg .nil)) ?_
     refine gv 240 (.load false 1 239) 234 false rfl (fun hg=>(ok_load_fm (v:=vi ((ix y6.2 v21).Count)) rfl c10 rfl)) (fun hg=>(.cons hg .nil)) ?_
     refine gk (vb (v27 != ((ix y6.2 v21).Count))) 241 (.bin .neq false 235 240) 234 false rfl (fun hg=>(.cons hg (.cons hg .nil))) ?_
     refine po 242 234 241 rfl rfl ?_
     refine jf (.d4 (.d4 (.k4 (.k2 (.i 242 (vb ((y22.1 != (6 : Int)) || (v27 != ((ix y6.2 v21).Count)))) .n))))) ?_
     refine tc h (fun c19 h=>?_) (fun c19 h=>?_)
     ·refine sk (.i 6 (vb false) .n) ?_
      refine q3 ?_
      have h:=si h
      subst h
      exact DoneS.ret (S' := ⟨[(6,vb false)],[]⟩) (sc [] (by decide) (by kernel_rfl) ObRen.nil rfl rfl) rfl rfl
     refine q2 ?_
     refine tk (.k4 (.k2 (.i 15 (vb false) .n))) ?_
     exact Vs.intro sy ⟨(v19,false),rfl,h⟩
    refine q1 ?_
    refine q1 ?_
    refine ts (.k4 (.k4 (.k .n))) ?_
    refine TriE.draw (by kernel_rfl) ?_
    refine dk 3 (.i 191 (vb (y22.1 != (20 : Int))) (.i 190 (vb (y22.1 != (20 : Int))) (.i 189 (vi y22.1) .a))) ?_
    refine gd (!(y22.1 != (20 : Int))) (vi v27) 192 (.mov 19) 191 false rfl (fun hg=>(.cons rfl .nil)) ?_
    refine gd (!(y22.1 != (20 : Int))) (eS 2 ePartCount y6.2) 193 (.mov 7) 191 false rfl (fun hg=>(.cons rfl .nil)) ?_
    refine gd (!(y22.1 != (20 : Int))) (vi v21) 194 (.mov 16) 191 false rfl (fun hg=>(.cons rfl .nil)) ?_
    refine gu (!(y22.1 != (20 : Int))) 195 (.iaddr 2 193 194) 191 false rfl (fun hg=>(ok_iaddr_m (j:=v21) rfl rfl rfl c10)) (fun hg=>(.cons hg (.cons hg .nil))) ?_
    refine gd (!(y22.1 != (20 : Int))) (.fptr 2 (List.map ePartCount y6.2) v21 1) 196 (.faddr 1 195) 191 false rfl (fun hg=>(.cons hg .nil)) ?_
    refine gu (!(y22.1 != (20 : Int))) 197 (.load false 1 196) 191 false rfl (fun hg=>(ok_load_fm (v:=vi ((ix y6.2 v21).Count)) rfl c10 rfl)) (fun hg=>(.cons hg .nil)) ?_
    refine gd (!(y22.1 != (20 : Int))) (eS 2 ePartCount y8.2) 198 (.mov 11) 191 false rfl (fun hg=>(.cons rfl .nil)) ?_
    refine gd (!(y22.1 != (20 : Int))) (vi y28) 199 (.mov 21) 191 false rfl (fun hg=>(.cons rfl .nil)) ?_
    obtain ⟨c20,h⟩:=ck h
    refine gu (!(y22.1 != (20 : Int))) 200 (.iaddr 2 198 199) 191 false rfl (fun hg=>(ok_iaddr_m (j:=y28.toNat) rfl rfl (inB_to (gor c20 hg)) (inB_lt (gor c20 hg)))) (fun hg=>(.cons hg (.cons hg .nil))) ?_
    refine gd (!(y22.1 != (20 : Int))) (.fptr 2 (List.map ePartCount y8.2) y28.toNat 1) 201 (.faddr 1 200) 191 false rfl (fun hg=>(.cons hg .nil)) ?_
    obtain ⟨c21,h⟩:=ck h
    refine gu (!(y22.1 != (20 : Int))) 202 (.load false 1 201) 191 false rfl (fun hg=>(ok_load_fm (v:=vi ((ix y8.2 y28.toNat).Count)) rfl (gor c21 hg) rfl)) (fun hg=>(.cons hg .nil)) ?_
    obtain ⟨c22,h⟩:=ck h
    refine gu (!(y22.1 != (20 : Int))) 203 (.bin .sub false 197 202) 191 false rfl (fun hg=>(r_sub rfl rfl (gor c22 hg))) (fun hg=>(.cons hg (.cons hg .nil))) ?_
    refine gd (!(y22.1 != (20 : Int))) (vb (v27 != (((ix y6.2 v21).Count) - ((ix y8.2 y28.toNat).Count)))) 204 (.bin .neq false 192 203) 191 false rfl (fun hg=>(.cons hg (.cons hg .nil))) ?_
    refine RegD.op (OpD.or (cy (I0 205 (.pick 191 (.c (.p (.bool true))) 204))) rfl rfl (by first | exact hokO1 | exact hokO0 | simp)) ?_
    refine dfi (ob':=[some (.row 2 [.agg [eS 3 eStocked a1.Stock,eS 3 ePartPromise a1.Promises]])]) (.d4 (.d4 (.d4 (.d4 (.d (.k4 (.k2 (.i 205 (vb ((y22.1 != (20 : Int)) || (v27 != (((ix y6.2 v21).Count) - ((ix y8.2 y28.toNat).Count))))) .n)))))))) [0] (.cons rfl .nil) ?_
    refine tc h (fun c23 h=>?_) (fun c23 h=>?_)
    ·refine sk (.i 6 (vb false) .n) ?_
     refine q3 ?_
     have h:=si h
     subst h
     exact DoneS.ret (S' := ⟨[(6,vb false)],[]⟩) (sc [] (by decide) (by kernel_rfl) ObRen.nil rfl rfl) rfl rfl
    refine q2 ?_
    refine tk (.k4 (.k2 (.i 15 (vb false) .n))) ?_
    exact Vs.intro sy ⟨(v19,false),rfl,h⟩
   intro k3 h
   refine sk (.k4 (.k4 (.k2 (.i 20 (vi 0) .n)))) ?_
   refine q4 ?_
   refine ts (.k4 (.k4 (.k2 (.i 20 (vi 0) .n)))) ?_
   refine TriE.loopN h (fun (t : Int × Nat)=>match t with | (v24,v25)=>St.mk [(4,.ptr 0 0 0),(7,eS 2 ePartCount y6.2),(9,eS 2 ePartCount y7.2),(11,eS 2 ePartCount y8.2),(14,eS 3 ePartPromise v19),(15,vb v20),(16,vi v21),(17,eS 3 ePartPromise y22.2),(18,vi y22.1),(19,vi v24),(20,vi v25)] [some (.row 2 [.agg [eS 3 eStocked a1.Stock,eS 3 ePartPromise a1.Promises]])]) rfl ?_
   clear h
   rintro back ⟨v24,v25⟩ h
   dsimp only [q55k] at h
   refine q1 ?_
   refine sj ?_
   refine RegJ.run 2 [(4,.ptr 0 0 0),(7,eS 2 ePartCount y6.2),(9,eS 2 ePartCount y7.2),(11,eS 2 ePartCount y8.2),(14,eS 3 ePartPromise v19),(15,vb v20),(16,vi v21),(17,eS 3 ePartPromise y22.2),(18,vi y22.1),(19,vi v24),(20,vi v25),(159,vi v25),(160,eS 2 ePartCount y7.2)] [some (.row 2 [.agg [eS 3 eStocked a1.Stock,eS 3 ePartPromise a1.Promises]])] (by kernel_rfl) ?_
   refine jo 161 (.len 0 160) (ok_len_m rfl) ?_
   refine jo 162 (.bin .lss false 159 161) (n_lss (i:=v25) (j:=y7.2.length) rfl rfl) ?_
   refine jf (.d2 (.k4 (.k4 (.k3 (.i 162 (vb (decide (v25 < y7.2.length))) .n))))) ?_
   refine tc h (fun c11 h=>?_) (fun c11 h=>?_)
   ·refine q2 ?_
    refine TriE.seqK h (fun (v26 : Int)=>St.mk [(4,.ptr 0 0 0),(7,eS 2 ePartCount y6.2),(9,eS 2 ePartCount y7.2),(11,eS 2 ePartCount y8.2),(14,eS 3 ePartPromise v19),(15,vb v20),(16,vi v21),(17,eS 3 ePartPromise y22.2),(18,vi y22.1),(20,vi v25),(19,vi v26)] [some (.row 2 [.agg [eS 3 eStocked a1.Stock,eS 3 ePartPromise a1.Promises]])]) ?_ ?_
    ·rintro v26 h
     refine q6 ?_
     refine RegJ.run 1 [(4,.ptr 0 0 0),(7,eS 2 ePartCount y6.2),(9,eS 2 ePartCount y7.2),(11,eS 2 ePartCount y8.2),(14,eS 3 ePartPromise v19),(15,vb v20),(16,vi v21),(17,eS 3 ePartPromise y22.2),(18,vi y22.1),(19,vi v26),(163,vi v25)] [some (.row 2 [.agg [eS 3 eStocked a1.Stock,eS 3 ePartPromise a1.Promises]])] (by kernel_rfl) ?_
     obtain ⟨c13,h⟩:=ck h
     refine jo 164 (.bin .add false 163 (ki 1)) (r_addn (i:=v25) (j:=1) rfl rfl c13) ?_
     refine jrd 1 [(4,.ptr 0 0 0),(7,eS 2 ePartCount y6.2),(9,eS 2 ePartCount y7.2),(11,eS 2 ePartCount y8.2),(14,eS 3 ePartPromise v19),(15,vb v20),(16,vi v21),(17,eS 3 ePartPromise y22.2),(18,vi y22.1),(19,vi v26),(20,vi ((v25 + 1 : Nat) : Int))] [some (.row 2 [.agg [eS 3 eStocked a1.Stock,eS 3 ePartPromise a1.Promises]])] (by kernel_rfl) rfl ?_
     exact Vs.intro sy ⟨(v26,v25 + 1),rfl,h⟩
    intro k2 h
    refine q4 ?_
    refine q1 ?_
    refine ts (.k4 (.k4 (.k3 .n))) ?_
    refine TriE.draw (by kernel_rfl) ?_
    refine dk 2 (.i 166 (vi v25) (.i 165 (eS 2 ePartCount y7.2) .a)) ?_
    refine dp 167 (.iaddr 2 165 166) (ok_iaddr_m (j:=v25) rfl rfl rfl c11) ?_
    refine dk 1 (.i 168 (.fptr 2 (List.map ePartCount y7.2) v25 0) .a) ?_
    refine dp 169 (.load false 1 168) (ok_load_fm (v:=vt ((ix y7.2 v25).Part)) rfl c11 rfl) ?_
    refine dk 2 (.i 171 (vi v21) (.i 170 (eS 2 ePartCount y6.2) .a)) ?_
    refine dp 172 (.iaddr 2 170 171) (ok_iaddr_m (j:=v21) rfl rfl rfl c10) ?_
    refine dk 1 (.i 173 (.fptr 2 (List.map ePartCount y6.2) v21 0) .a) ?_
    refine dp 174 (.load false 1 173) (ok_load_fm (v:=vt ((ix y6.2 v21).Part)) rfl c10 rfl) ?_
    refine dk 1 (.i 175 (vb (((ix y7.2 v25).Part) == ((ix y6.2 v21).Part))) .a) ?_
    refine dfi (ob':=[some (.row 2 [.agg [eS 3 eStocked a1.Stock,eS 3 ePartPromise a1.Promises]])]) (.d4 (.d4 (.d3 (.k4 (.k4 (.k3 (.i 175 (vb (((ix y7.2 v25).Part) == ((ix y6.2 v21).Part))) .n))))))) [0] (.cons rfl .nil) ?_
    refine tc h (fun c12 h=>?_) (fun c12 h=>?_)
    ·refine q6 ?_
     refine RegJ.run 2 [(4,.ptr 0 0 0),(7,eS 2 ePartCount y6.2),(9,eS 2 ePartCount y7.2),(11,eS 2 ePartCount y8.2),(14,eS 3 ePartPromise v19),(15,vb v20),(16,vi v21),(17,eS 3 ePartPromise y22.2),(18,vi y22.1),(20,vi v25),(176,eS 2 ePartCount y7.2),(177,vi v25)] [some (.row 2 [.agg [eS 3 eStocked a1.Stock,eS 3 ePartPromise a1.Promises]])] (by kernel_rfl) ?_
     refine jo 178 (.iaddr 2 176 177) (ok_iaddr_m (j:=v25) rfl rfl rfl c11) ?_
     refine RegJ.run 1 [(4,.ptr 0 0 0),(7,eS 2 ePartCount y6.2),(9,eS 2 ePartCount y7.2),(11,eS 2 ePartCount y8.2),(14,eS 3 ePartPromise v19),(15,vb v20),(16,vi v21),(17,eS 3 ePartPromise y22.2),(18,vi y22.1),(20,vi v25),(179,.fptr 2 (List.map ePartCount y7.2) v25 1)] [some (.row 2 [.agg [eS 3 eStocked a1.Stock,eS 3 ePartPromise a1.Promises]])] (by kernel_rfl) ?_
     refine jo 180 (.load false 1 179) (ok_load_fm (v:=vi ((ix y7.2 v25).Count)) rfl c11 rfl) ?_
     refine jrd 1 [(4,.ptr 0 0 0),(7,eS 2 ePartCount y6.2),(9,eS 2 ePartCount y7.2),(11,eS 2 ePartCount y8.2),(14,eS 3 ePartPromise v19),(15,vb v20),(16,vi v21),(17,eS 3 ePartPromise y22.2),(18,vi y22.1),(20,vi v25),(19,vi ((ix y7.2 v25).Count))] [some (.row 2 [.agg [eS 3 eStocked a1.Stock,eS 3 ePartPromise a1.Promises]])] (by kernel_rfl) rfl ?_
     exact Vs.intro Sees.refl ⟨((ix y7.2 v25).Count),rfl,h⟩
    refine q2 ?_
    exact Vs.intro sy ⟨v24,rfl,h⟩
   refine q5 ?_
   exact Vs.intro sy ⟨v24,rfl,h⟩
  refine q5 ?_
  exact Vs.intro sy ⟨(v19,v20),rfl,h⟩
 intro k1 h
 refine sk (.k4 (.k (.i 13 (vi 0) .n))) ?_
 refine q4 ?_
 refine ts (.k4 (.k (.i 13 (vi 0) .n))) ?_
 refine TriE.loopN h (fun (v9 : Nat)=>St.mk [(4,.ptr 0 0 0),(7,eS 2 ePartCount y6.2),(9,eS 2 ePartCount y7.2),(10,vi y7.1),(11,eS 2 ePartCount y8.2),(13,vi v9)] [some (.row 2 [.agg [eS 3 eStocked a1.Stock,eS 3 ePartPromise a1.Promises]])]) rfl ?_
 clear h
 rintro back v9 h
 dsimp only [q41k] at h
 refine q1 ?_
 refine sj ?_
 refine RegJ.run 2 [(4,.ptr 0 0 0),(7,eS 2 ePartCount y6.2),(9,eS 2 ePartCount y7.2),(10,vi y7.1),(11,eS 2 ePartCount y8.2),(13,vi v9),(110,vi v9),(111,eS 2 ePartCount y6.2)] [some (.row 2 [.agg [eS 3 eStocked a1.Stock,eS 3 ePartPromise a1.Promises]])] (by kernel_rfl) ?_
 refine jo 112 (.len 0 111) (ok_len_m rfl) ?_
 refine jo 113 (.bin .lss false 110 112) (n_lss (i:=v9) (j:=y6.2.length) rfl rfl) ?_
 refine jf (.d2 (.k4 (.k2 (.i 113 (vb (decide (v9 < y6.2.length))) .n)))) ?_
 refine tc h (fun c5 h=>?_) (fun c5 h=>?_)
 ·refine q2 ?_
  refine q7 ?_
  refine sj ?_
  refine RegJ.run 2 [(4,.ptr 0 0 0),(7,eS 2 ePartCount y6.2),(9,eS 2 ePartCount y7.2),(10,vi y7.1),(11,eS 2 ePartCount y8.2),(13,vi v9),(116,eS 2 ePartCount y6.2),(117,vi v9)] [some (.row 2 [.agg [eS 3 eStocked a1.Stock,eS 3 ePartPromise a1.Promises]])] (by kernel_rfl) ?_
  refine jo 118 (.iaddr 2 116 117) (ok_iaddr_m (j:=v9) rfl rfl rfl c5) ?_
  refine RegJ.run 1 [(4,.ptr 0 0 0),(7,eS 2 ePartCount y6.2),(9,eS 2 ePartCount y7.2),(10,vi y7.1),(11,eS 2 ePartCount y8.2),(13,vi v9),(119,.fptr 2 (List.map ePartCount y6.2) v9 1)] [some (.row 2 [.agg [eS 3 eStocked a1.Stock,eS 3 ePartPromise a1.Promises]])] (by kernel_rfl) ?_
  refine jo 120 (.load false 1 119) (ok_load_fm (v:=vi ((ix y6.2 v9).Count)) rfl c5 rfl) ?_
  refine jrd 1 [(4,.ptr 0 0 0),(7,eS 2 ePartCount y6.2),(9,eS 2 ePartCount y7.2),(10,vi y7.1),(11,eS 2 ePartCount y8.2),(13,vi v9),(121,vb (decide ((10000 : Int) < ((ix y6.2 v9).Count))))] [some (.row 2 [.agg [eS 3 eStocked a1.Stock,eS 3 ePartPromise a1.Promises]])] (by kernel_rfl) rfl ?_
  refine tc h (fun c6 h=>?_) (fun c6 h=>?_)
  ·refine sk (.i 6 (vb true) .n) ?_
   refine q3 ?_
   have h:=si h
   subst h
   exact DoneS.ret (S' := ⟨[(6,vb true)],[]⟩) (sc [] (by decide) (by kernel_rfl) ObRen.nil rfl rfl) rfl rfl
  refine q2 ?_
  refine q6 ?_
  refine RegJ.run 1 [(4,.ptr 0 0 0),(7,eS 2 ePartCount y6.2),(9,eS 2 ePartCount y7.2),(10,vi y7.1),(11,eS 2 ePartCount y8.2),(114,vi v9)] [some (.row 2 [.agg [eS 3 eStocked a1.Stock,eS 3 ePartPromise a1.Promises]])] (by kernel_rfl) ?_
  obtain ⟨c7,h⟩:=ck h
  refine jo 115 (.bin .add false 114 (ki 1)) (r_addn (i:=v9) (j:=1) rfl rfl c7) ?_
  refine jrd 1 [(4,.ptr 0 0 0),(7,eS 2 ePartCount y6.2),(9,eS 2 ePartCount y7.2),(10,vi y7.1),(11,eS 2 ePartCount y8.2),(13,vi ((v9 + 1 : Nat) : Int))] [some (.row 2 [.agg [eS 3 eStocked a1.Stock,eS 3 ePartPromise a1.Promises]])] (by kernel_rfl) rfl ?_
  exact Vs.intro sy ⟨(v9 + 1),rfl,h⟩
 refine q5 ?_
 exact Vs.intro sy ⟨(),rfl,h⟩
end Go.Proofs.YtifabpmjiphhdaaGreat.As
