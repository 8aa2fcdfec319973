/- The code computes what the plain functions say, part 2: no condition. -/
import Derived.Test.YtchkkpbkgghcoaaGreatDoorWalk1
namespace Go.Proofs.YtchkkpbkgghcoaaGreatDoor.As
open Go Go.Proofs
set_option maxRecDepth 4000
set_option maxHeartbeats 1000000 in
theorem slices_Compact_int_ok (n : Nat) (a0 : List Int) (a1 : Nat) (a2 : Nat) (r : Nat × (List Int)) (h : slices_Compact_int n a0 a1 a2 = some r) : FnL Tryz.prog 103 [.own 0 a1 a2] [some (.row 1 (List.map vi a0))] (.own 0 a1 r.1) [some (.row 1 (List.map vi r.2))] := by
 dsimp only [slices_Compact_int] at h
 refine fob [2] Tryz.call103 Tryz.func103 rfl (.cons rfl .nil) ?_
 refine sk .a ?_
 refine q1 ?_
 refine sj ?_
 refine rk 2 (.k (.i 7 (vi a2) .n)) ?_
 refine jo 8 (.bin .lss false 7 (ki 2)) (n_lss (i := a2) (j := 2) rfl rfl) ?_
 refine jf (.d (.k (.i 8 (vb (decide (a2 < 2))) .n))) ?_
 refine tc h (fun c1 h => ?_) (fun c1 h => ?_)
 ·refine sk (.i 2 (.own 0 a1 a2) .n) ?_
  refine q3 ?_
  have h := si h
  subst h
  exact DoneS.ret Sees.refl rfl rfl
 refine q2 ?_
 refine TriE.seqK h (fun (_ : Unit) => St.mk [(0, .own 0 a1 a2)] [some (.row 1 (List.map vi a0))]) ?_ ?_
 ·rintro ⟨⟩ h
  refine sk (.i 2 (.own 0 a1 a2) .n) ?_
  refine q3 ?_
  have h := si h
  subst h
  exact DoneS.ret Sees.refl rfl rfl
 intro k3 h
 refine sk (.k (.i 3 (vi 1) .n)) ?_
 refine q4 ?_
 refine ts (.k (.i 3 (vi 1) .n)) ?_
 refine TriE.loopN h (fun (v10 : Nat) => St.mk [(0, .own 0 a1 a2), (3, vi v10)] [some (.row 1 (List.map vi a0))]) rfl ?_
 clear h
 rintro back v10 h
 dsimp only [slices_Compact_int_L2] at h
 refine q1 ?_
 refine sj ?_
 refine rk 3 (.k2 (.i 10 (vi v10) (.i 12 (vi a2) .n))) ?_
 refine jo 13 (.bin .lss false 10 12) (n_lss (i := v10) (j := a2) rfl rfl) ?_
 refine jf (.d (.k2 (.i 13 (vb (decide (v10 < a2))) .n))) ?_
 refine tc h (fun c2 h => ?_) (fun c2 h => ?_)
 ·refine q2 ?_
  refine q7 ?_
  refine q1 ?_
  refine ts (.k2 .n) ?_
  refine TriE.draw (by kernel_rfl) ?_
  refine dk 2 (.i 17 (vi v10) (.i 16 (.own 0 a1 a2) .a)) ?_
  refine dp 18 (.iaddr 1 16 17) (ok_iaddr_o (j := v10) rfl rfl rfl rfl c2) ?_
  refine cK h fun c3 h => ?_
  refine dp 19 (.load false 1 18) (ok_load_pm (l := a0) (e := vi) (v := vi (ix a0 (a1 + v10))) rfl rfl c3 rfl) ?_
  refine dk 2 (.i 21 (vi v10) (.i 20 (.own 0 a1 a2) .a)) ?_
  refine cK h fun c4 h => ?_
  refine dp 22 (.bin .sub false 21 (ki 1)) (r_sub rfl rfl c4) ?_
  refine cK h fun c5 h => ?_
  refine dp 23 (.iaddr 1 20 22) (ok_iaddr_o (j := ((v10 : Int) - 1).toNat) rfl rfl rfl (inB_to c5) (inB_lt c5)) ?_
  refine cK h fun c6 h => ?_
  refine dp 24 (.load false 1 23) (ok_load_pm (l := a0) (e := vi) (v := vi (ix a0 (a1 + (((v10 : Int) - 1).toNat)))) rfl rfl c6 rfl) ?_
  refine dk 1 (.i 25 (vb ((ix a0 (a1 + v10)) == (ix a0 (a1 + (((v10 : Int) - 1).toNat))))) .a) ?_
  refine dfi (.d4 (.d4 (.d2 (.k2 (.i 25 (vb ((ix a0 (a1 + v10)) == (ix a0 (a1 + (((v10 : Int) - 1).toNat))))) .n))))) [0] (obRen_row vi_frz rfl .nil) ?_
  refine tc h (fun c7 h => ?_) (fun c7 h => ?_)
  ·refine sj ?_
   refine rk 2 (.k2 (.i 26 (.own 0 a1 a2) (.i 27 (vi v10) .n))) ?_
   refine jo 28 (.slc 1 26 (some 27) none none) (ok_slco_lo (i := v10) rfl rfl rfl rfl c2) ?_
   refine jk 1 (.d (.k2 (.i 4 (.own 0 (a1 + v10) (a2 - v10)) .n))) ?_
   refine TriE.seqK h (fun (t : Nat × (List Int)) => match t with | (v18, v19) => St.mk [(0, .own 0 a1 a2), (3, vi v18)] [some (.row 1 (List.map vi v19))]) ?_ ?_
   ·rintro ⟨v18, v19⟩ h
    refine sj ?_
    refine rk 2 (.k2 (.i 54 (.own 0 a1 a2) (.i 55 (vi v18) .n))) ?_
    refine cK h fun c18 h => ?_
    refine jo 56 (.slc 1 54 (some 55) none none) (ok_slco_lo (i := v18) rfl rfl rfl rfl c18) ?_
    refine cK h fun c19 h => ?_
    refine cK h fun c20 h => ?_
    refine cK h fun c21 h => ?_
    refine RegJ.clrM (d := none) (k := 1) (e := vi) (l := v19) (x0 := (0 : Int)) (nn := 0) (off := a1 + v18) (len := a2 - v18) (x := .t 56) (by kernel_rfl) rfl rfl rfl c19 c20 rfl ?_
    refine jp [(0, .own 0 a1 a2), (3, vi v18)] ?_
    refine sj ?_
    refine rko 2 (.i 57 (.own 0 a1 a2) (.i 58 (vi v18) .n)) [some (.row 1 (List.map vi (clrP v19 (a1 + v18) (a2 - v18) (0 : Int))))] ?_
    refine cK h fun c22 h => ?_
    refine jo 59 (.slc 1 57 none (some 58) none) (ok_slco_hi (j := v18) rfl rfl rfl rfl c22) ?_
    refine jk 1 (.i 2 (.own 0 a1 v18) .n) ?_
    refine q3 ?_
    have h := si h
    subst h
    exact DoneS.ret Sees.refl rfl rfl
   intro k2 h
   refine sk (.k3 (.i 5 (vi 1) .n)) ?_
   refine q4 ?_
   refine ts (.k3 (.i 5 (vi 1) .n)) ?_
   refine TriE.loopN h (fun (t : Nat × Nat × (List Int)) => match t with | (v13, v14, v15) => St.mk [(0, .own 0 a1 a2), (3, vi v13), (4, .own 0 (a1 + v10) (a2 - v10)), (5, vi v14)] [some (.row 1 (List.map vi v15))]) rfl ?_
   clear h
   rintro back ⟨v13, v14, v15⟩ h
   dsimp only [slices_Compact_int_L1] at h
   refine q1 ?_
   refine sj ?_
   refine rk 3 (.k4 (.i 29 (vi v14) (.i 31 (vi ((a2 - v10 : Nat) : Int)) .n))) ?_
   refine jo 32 (.bin .lss false 29 31) (n_lss (i := v14) (j := a2 - v10) rfl rfl) ?_
   refine jf (.d (.k4 (.i 32 (vb (decide (v14 < (a2 - v10)))) .n))) ?_
   refine tc h (fun c8 h => ?_) (fun c8 h => ?_)
   ·refine q2 ?_
    refine TriE.seqK h (fun (t : Nat × (List Int)) => match t with | (v16, v17) => St.mk [(0, .own 0 a1 a2), (4, .own 0 (a1 + v10) (a2 - v10)), (5, vi v14), (3, vi v16)] [some (.row 1 (List.map vi v17))]) ?_ ?_
    ·rintro ⟨v16, v17⟩ h
     refine q6 ?_
     refine rk 1 (.k2 (.d (.k (.i 33 (vi v14) .n)))) ?_
     refine cK h fun c17 h => ?_
     refine jo 34 (.bin .add false 33 (ki 1)) (r_addn (i := v14) (j := 1) rfl rfl c17) ?_
     refine jk 1 (.d (.k3 (.i 5 (vi ((v14 + 1 : Nat) : Int)) .n))) ?_
     exact Vs.intro sy ⟨(v16, v14 + 1, v17), rfl, h⟩
    intro k1 h
    refine q4 ?_
    refine q1 ?_
    refine ts (.k4 .n) ?_
    refine TriE.draw (by kernel_rfl) ?_
    refine dk 2 (.i 36 (vi v14) (.i 35 (.own 0 (a1 + v10) (a2 - v10)) .a)) ?_
    refine dp 37 (.iaddr 1 35 36) (ok_iaddr_o (j := v14) rfl rfl rfl rfl c8) ?_
    refine cK h fun c9 h => ?_
    refine dp 38 (.load false 1 37) (ok_load_pm (l := v15) (e := vi) (v := vi (ix v15 ((a1 + v10) + v14))) rfl rfl c9 rfl) ?_
    refine dk 2 (.i 40 (vi v14) (.i 39 (.own 0 (a1 + v10) (a2 - v10)) .a)) ?_
    refine cK h fun c10 h => ?_
    refine dp 41 (.bin .sub false 40 (ki 1)) (r_sub rfl rfl c10) ?_
    refine cK h fun c11 h => ?_
    refine dp 42 (.iaddr 1 39 41) (ok_iaddr_o (j := ((v14 : Int) - 1).toNat) rfl rfl rfl (inB_to c11) (inB_lt c11)) ?_
    refine cK h fun c12 h => ?_
    refine dp 43 (.load false 1 42) (ok_load_pm (l := v15) (e := vi) (v := vi (ix v15 ((a1 + v10) + (((v14 : Int) - 1).toNat)))) rfl rfl c12 rfl) ?_
    refine dk 1 (.i 44 (vb ((ix v15 ((a1 + v10) + v14)) != (ix v15 ((a1 + v10) + (((v14 : Int) - 1).toNat))))) .a) ?_
    refine dfi (.d4 (.d4 (.d2 (.k4 (.i 44 (vb ((ix v15 ((a1 + v10) + v14)) != (ix v15 ((a1 + v10) + (((v14 : Int) - 1).toNat))))) .n))))) [0] (obRen_row vi_frz rfl .nil) ?_
    refine tc h (fun c13 h => ?_) (fun c13 h => ?_)
    ·refine sj ?_
     refine rk 4 (.k4 (.i 45 (.own 0 a1 a2) (.i 46 (vi v13) (.i 47 (.own 0 (a1 + v10) (a2 - v10)) (.i 48 (vi v14) .n))))) ?_
     refine jo 49 (.iaddr 1 47 48) (ok_iaddr_o (j := v14) rfl rfl rfl rfl c8) ?_
     refine jo 50 (.load false 1 49) (ok_load_pm (l := v15) (e := vi) (v := vi (ix v15 ((a1 + v10) + v14))) rfl rfl c9 rfl) ?_
     refine cK h fun c14 h => ?_
     refine jo 51 (.iaddr 1 45 46) (ok_iaddr_o (j := v13) rfl rfl rfl rfl c14) ?_
     refine cK h fun c15 h => ?_
     refine jn (.store 1 51 50) _ (ok_store_m (l := v15) (e := vi) (x' := (ix v15 ((a1 + v10) + v14))) (u := vi (ix v15 ((a1 + v10) + v14))) rfl rfl rfl c15 rfl rfl) rfl rfl ?_
     refine jf (.d3 (.k4 .n)) ?_
     refine q6 ?_
     refine rk 1 (.k (.d (.k2 (.i 52 (vi v13) .n)))) ?_
     refine cK h fun c16 h => ?_
     refine jo 53 (.bin .add false 52 (ki 1)) (r_addn (i := v13) (j := 1) rfl rfl c16) ?_
     refine jk 1 (.d (.k3 (.i 3 (vi ((v13 + 1 : Nat) : Int)) .n))) ?_
     exact Vs.intro sy ⟨(v13 + 1, (List.set v15 (a1 + v13) (ix v15 ((a1 + v10) + v14)))), rfl, h⟩
    refine q2 ?_
    exact Vs.intro sy ⟨(v13, v15), rfl, h⟩
   refine q5 ?_
   exact Vs.intro sy ⟨(v13, v15), rfl, h⟩
  refine q2 ?_
  refine q6 ?_
  refine rk 1 (.k (.i 14 (vi v10) .n)) ?_
  refine cK h fun c23 h => ?_
  refine jo 15 (.bin .add false 14 (ki 1)) (r_addn (i := v10) (j := 1) rfl rfl c23) ?_
  refine jk 1 (.d (.k (.i 3 (vi ((v10 + 1 : Nat) : Int)) .n))) ?_
  exact Vs.intro sy ⟨(v10 + 1), rfl, h⟩
 refine q5 ?_
 exact Vs.intro sy ⟨(), rfl, h⟩
theorem slices_Clone_Item_ok (n : Nat) (a0 : List Item) (r : (List Item)) (h : slices_Clone_Item n a0 = some r) : FnL Tryz.prog 154 [eS 7 eItem a0] [] (.own 0 0 r.length) [some (.row 7 (List.map eItem r))] := by
 dsimp only [slices_Clone_Item] at h
 refine fo [2] Tryz.call154 Tryz.func154 rfl ?_
 refine sk .a ?_
 refine q1 ?_
 refine sj ?_
 refine rk 1 (.k (.i 3 (eS 7 eItem a0) .n)) ?_
 refine RegJ.nileq (v := eS 7 eItem a0) (a0.isEmpty) (cy (I0 4 (.bin .eql false 3 (.c .emp)))) (by kernel_rfl) (.cons rfl (.cons rfl .nil)) rfl nil_sl (fun b1 hb1 => ?_)
 have h := nilK_some h b1 hb1
 refine jp [(0, eS 7 eItem a0), (4, vb b1)] ?_
 refine tc h (fun c1 h => ?_) (fun c1 h => ?_)
 ·refine sk (.i 2 .emp .n) ?_
  refine q3 ?_
  have h := si h
  subst h
  exact DoneS.ret (S' := ⟨[(2, .own 0 0 (([] : List Item).length))], [some (.row 7 (List.map eItem ([] : List Item)))]⟩) (Sees.trans (Sees.co (fr' := [(2, .own 0 0 0)]) (ob' := []) (.cons .own .nil) ObCo.nil 7) sy) rfl rfl
 refine q2 ?_
 refine sj ?_
 refine rk 2 (.i 5 .emp (.i 6 (eS 7 eItem a0) .n)) ?_
 refine cK h fun c2 h => ?_
 refine jx 7 (.app 7 80 5 6) _ (ok_app_emp (e := eItem) (l := a0) (u := eS 7 eItem a0) rfl rfl els_sl c2) rfl rfl ?_
 refine jk 1 (.i 2 (.own 0 0 a0.length) .n) ?_
 refine q3 ?_
 have h := si h
 subst h
 exact DoneS.ret Sees.refl rfl rfl
theorem slices_Insert_Item_ok (n : Nat) (a0 : List Item) (a1 : Int) (a2 : List Item) (r : List Item) (h : slices_Insert_Item n a0 a1 a2 = some r) : FnL Tryz.prog 153 [.own 0 0 a0.length, vi a1, .own 1 0 a2.length] [some (.row 7 (List.map eItem a0)), some (.row 7 (List.map eItem a2))] (.own 2 0 r.length) [none, some (.row 7 (List.map eItem a2)), some (.row 7 (List.map eItem r))] := by
 refine cK h fun c1 h => ?_
 refine cK h fun c2 h => ?_
 refine cK h fun c3 h => ?_
 cases h
 exact FnL_insert c1 c2 c3
set_option maxHeartbeats 1000000 in
theorem diary_plan_add_ok (n : Nat) (a0 : List Item) (a1 : Item) (r : Int × (List Item)) (h : diary_plan_add n a0 a1 = some r) : FnL Tryz.prog 104 [.p (.pointer none), eS 7 eItem a0, .agg [vi a1.Kind, vi a1.From, vi a1.To, vt a1.Grand, vt a1.Place, vt a1.Who, vi a1.Deposit]] [] (.tup [eS 7 eItem r.2, vi r.1]) [] := by
 dsimp only [diary_plan_add] at h
 refine fo [6, 7] Tryz.call104 Tryz.func104 rfl ?_
 refine sko (.k2 (.i 5 (.ptr 0 0 0) .n)) [some (.row 7 [.agg [vi a1.Kind, vi a1.From, vi a1.To, vt a1.Grand, vt a1.Place, vt a1.Who, vi a1.Deposit]])] ?_
 refine sk (.k3 (.i 8 (vi 0) .n)) ?_
 refine TriE.seqK h (fun (v2 : Nat) => St.mk [(0, .p (.pointer none)), (1, eS 7 eItem a0), (5, .ptr 0 0 0), (8, vi v2)] [some (.row 7 [.agg [vi a1.Kind, vi a1.From, vi a1.To, vt a1.Grand, vt a1.Place, vt a1.Who, vi a1.Deposit]])]) ?_ ?_
 ·rintro v2 h
  refine q1 ?_
  refine ts .a ?_
  refine TriE.draw (by kernel_rfl) ?_
  refine dk 1 (.i 28 (eS 7 eItem a0) .a) ?_
  refine bK h fun y3 hy3 h => ?_
  refine dc (.own 2 0 y3.length) 1 29 [28] (slices_Clone_Item_ok n a0 y3 hy3) [] rfl ObsRen.nil (.same (row_ren eItem_frz _ _ _) .nil) rfl (.inl rfl) ?_
  refine dko 3 (.i 32 (.own 6 0 1) (.i 31 (.agg [vi a1.Kind, vi a1.From, vi a1.To, vt a1.Grand, vt a1.Place, vt a1.Who, vi a1.Deposit]) (.i 30 (vi v2) .a))) [some (.row 7 [.agg [vi a1.Kind, vi a1.From, vi a1.To, vt a1.Grand, vt a1.Place, vt a1.Who, vi a1.Deposit]]), none, some (.row 7 (List.map eItem y3)), none, none, none, some (.row 7 [.agg [vi a1.Kind, vi a1.From, vi a1.To, vt a1.Grand, vt a1.Place, vt a1.Who, vi a1.Deposit]])] ?_
  refine bK h fun y4 hy4 h => ?_
  refine dc (.own 7 0 y4.length) 1 33 [29, 30, 32] (slices_Insert_Item_ok n y3 (v2 : Int) ([a1] : List Item) y4 hy4) [2, 6] rfl (.same (row_ren eItem_frz _ _ _) (.same (row_ren eItem_frz _ _ _) .nil)) (.cons rfl (.same (row_ren eItem_frz _ _ _) (.same (row_ren eItem_frz _ _ _) .nil))) rfl (.inl rfl) ?_
  refine dk 1 (.i 9 (.own 7 0 y4.length) .a) ?_
  refine dfi (.d4 (.d3 (.k (.i 9 (.own 0 0 y4.length) .n)))) [7] (obRen_row eItem_frz rfl .nil) ?_
  refine q1 ?_
  refine sj ?_
  refine rk 2 (.d (.k (.i 35 (.p (.pointer none)) (.i 36 (.own 0 0 y4.length) .n)))) ?_
  refine RegJ.sees (Sees.freeze 0 (fr' := [(9, eS 7 eItem y4), (35, .p (.pointer none)), (36, eS 7 eItem y4)]) (ob' := [none]) rfl (frz_row eItem_frzE _) (.cons (frz_full rfl) (.cons (.refl _) (.cons (frz_full rfl) .nil))) rfl) ?_
  refine bK h fun y5 hy5 h => ?_
  refine jc 37 [35, 36] (diary_plan_accept_ok n y4 y5 hy5) ?_
  refine jk 5 (.d (.k (.i 11 (vi y5.2) .n))) ?_
  refine sk (.k2 (.i 41 (vb (y5.2 != (0 : Int))) .n)) ?_
  refine tc h (fun c3 h => ?_) (fun c3 h => ?_)
  ·refine sk (.i 6 .emp (.i 7 (vi y5.2) .n)) ?_
   refine q3 ?_
   have h := si h
   subst h
   exact DoneS.ret (S' := ⟨[(6, eS 7 eItem ([] : List Item)), (7, vi y5.2)], []⟩) (Sees.trans (Sees.vco (fr' := [(6, eS 7 eItem ([] : List Item)), (7, vi y5.2)]) (.cons .sl (.cons .same .nil))) (sc [] (by decide) (by kernel_rfl) ObRen.nil rfl rfl)) rfl rfl
  refine q2 ?_
  refine sk (.i 6 (eS 7 eItem y4) (.i 7 (vi 0) .n)) ?_
  refine q3 ?_
  have h := si h
  subst h
  exact DoneS.ret (S' := ⟨[(6, eS 7 eItem y4), (7, vi 0)], []⟩) (sc [] (by decide) (by kernel_rfl) ObRen.nil rfl rfl) rfl rfl
 intro k1 h
 refine q4 ?_
 refine ts (.k3 (.i 8 (vi 0) .n)) ?_
 refine TriE.loopN h (fun (v1 : Nat) => St.mk [(0, .p (.pointer none)), (1, eS 7 eItem a0), (5, .ptr 0 0 0), (8, vi v1)] [some (.row 7 [.agg [vi a1.Kind, vi a1.From, vi a1.To, vt a1.Grand, vt a1.Place, vt a1.Who, vi a1.Deposit]])]) rfl ?_
 clear h
 rintro back v1 h
 dsimp only [diary_plan_add_L1] at h
 refine q1 ?_
 refine q1 ?_
 refine ts .a ?_
 refine TriE.draw (by kernel_rfl) ?_
 refine dk 2 (.i 13 (eS 7 eItem a0) (.i 12 (vi v1) .a)) ?_
 refine dp 14 (.len 0 13) (ok_len_m rfl) ?_
 refine dp 15 (.bin .lss false 12 14) (n_lss (i := v1) (j := a0.length) rfl rfl) ?_
 refine dk 1 (.i 16 (vb (decide (v1 < a0.length))) .a) ?_
 refine gd (decide (v1 < a0.length)) (eS 7 eItem a0) 17 (.mov 1) 16 true rfl (fun hg => (.cons rfl .nil)) ?_
 refine gd (decide (v1 < a0.length)) (vi v1) 18 (.mov 8) 16 true rfl (fun hg => (.cons rfl .nil)) ?_
 refine gu (decide (v1 < a0.length)) 19 (.iaddr 7 17 18) 16 true rfl (fun hg => (ok_iaddr_m (j := v1) rfl rfl rfl hg)) (fun hg => (.cons hg (.cons hg .nil))) ?_
 refine gd (decide (v1 < a0.length)) (.fptr 7 (List.map eItem a0) v1 1) 20 (.faddr 1 19) 16 true rfl (fun hg => (.cons hg .nil)) ?_
 refine gu (decide (v1 < a0.length)) 21 (.load false 1 20) 16 true rfl (fun hg => (ok_load_fm (v := vi ((ix a0 v1).From)) rfl hg rfl)) (fun hg => (.cons hg .nil)) ?_
 refine gd (decide (v1 < a0.length)) (.ptr 0 0 1) 22 (.faddr 1 5) 16 true rfl (fun hg => (.cons rfl .nil)) ?_
 refine gd (decide (v1 < a0.length)) (vi a1.From) 23 (.load false 1 22) 16 true rfl (fun hg => (.cons hg .nil)) ?_
 refine gd (decide (v1 < a0.length)) (vb (decide (((ix a0 v1).From) ≤ a1.From))) 24 (.bin .leq false 21 23) 16 true rfl (fun hg => (.cons hg (.cons hg .nil))) ?_
 refine RegD.op (OpD.and (cy (I0 25 (.pick 16 24 (.c (.p (.bool false)))))) rfl rfl (by first | exact hokA1 | exact hokA0 | simp)) ?_
 refine dfi (ob' := [some (.row 7 [.agg [vi a1.Kind, vi a1.From, vi a1.To, vt a1.Grand, vt a1.Place, vt a1.Who, vi a1.Deposit]])]) (.d4 (.d4 (.d4 (.d2 (.k4 (.i 25 (vb ((decide (v1 < a0.length)) && (decide (((ix a0 v1).From) ≤ a1.From)))) .n)))))) [0] (.cons rfl .nil) ?_
 refine tc h (fun c1 h => ?_) (fun c1 h => ?_)
 ·refine q2 ?_
  refine q4 ?_
  refine q6 ?_
  refine rk 1 (.k3 (.i 26 (vi v1) .n)) ?_
  refine cK h fun c2 h => ?_
  refine jo 27 (.bin .add false 26 (ki 1)) (r_addn (i := v1) (j := 1) rfl rfl c2) ?_
  refine jk 1 (.d (.k3 (.i 8 (vi ((v1 + 1 : Nat) : Int)) .n))) ?_
  exact Vs.intro sy ⟨(v1 + 1), rfl, h⟩
 refine q5 ?_
 exact Vs.intro sy ⟨v1, rfl, h⟩
set_option maxHeartbeats 1000000 in
theorem diary_plan_add_2_ok (n : Nat) (a0 : List Str) (a1 : List Str) (a2 : List Road) (a3 : List Grand) (a4 : Int) (a5 : Int) (a6 : List (Int × List (Arr2_Str × Int))) (a7 : List Item) (a8 : Item) (r : Int × (List (Int × List (Arr2_Str × Int))) × (List Item)) (h : diary_plan_add_2 n a0 a1 a2 a3 a4 a5 a6 a7 a8 = some r) : FnL Tryz.prog 104 [.ptr 0 0 0, eS 7 eItem a7, .agg [vi a8.Kind, vi a8.From, vi a8.To, vt a8.Grand, vt a8.Place, vt a8.Who, vi a8.Deposit]] [some (.row 7 [.agg [eS 1 vt a0, eS 1 vt a1, eS 4 eRoad a2, eS 3 eGrand a3, vi a4, vi a5, .map 1]]), some (.mp (mpE vi (eM eArr2_Str vi) a6))] (.tup [eS 7 eItem r.2.2, vi r.1]) [some (.row 7 [.agg [eS 1 vt a0, eS 1 vt a1, eS 4 eRoad a2, eS 3 eGrand a3, vi a4, vi a5, .map 1]]), some (.mp (mpE vi (eM eArr2_Str vi) r.2.1))] := by
 dsimp only [diary_plan_add_2] at h
 refine fob [6, 7] Tryz.call104 Tryz.func104 rfl (.cons rfl (.cons rfl .nil)) ?_
 refine sko (.k2 (.i 5 (.ptr 2 0 0) .n)) [some (.row 7 [.agg [eS 1 vt a0, eS 1 vt a1, eS 4 eRoad a2, eS 3 eGrand a3, vi a4, vi a5, .map 1]]), some (.mp (mpE vi (eM eArr2_Str vi) a6)), some (.row 7 [.agg [vi a8.Kind, vi a8.From, vi a8.To, vt a8.Grand, vt a8.Place, vt a8.Who, vi a8.Deposit]])] ?_
 refine sk (.k3 (.i 8 (vi 0) .n)) ?_
 refine TriE.seqK h (fun (v2 : Nat) => St.mk [(0, .ptr 0 0 0), (1, eS 7 eItem a7), (5, .ptr 2 0 0), (8, vi v2)] [some (.row 7 [.agg [eS 1 vt a0, eS 1 vt a1, eS 4 eRoad a2, eS 3 eGrand a3, vi a4, vi a5, .map 1]]), some (.mp (mpE vi (eM eArr2_Str vi) a6)), some (.row 7 [.agg [vi a8.Kind, vi a8.From, vi a8.To, vt a8.Grand, vt a8.Place, vt a8.Who, vi a8.Deposit]])]) ?_ ?_
 ·rintro v2 h
  refine q1 ?_
  refine ts .a ?_
  refine TriE.draw (by kernel_rfl) ?_
  refine dk 1 (.i 28 (eS 7 eItem a7) .a) ?_
  refine bK h fun y3 hy3 h => ?_
  refine dc (.own 4 0 y3.length) 1 29 [28] (slices_Clone_Item_ok n a7 y3 hy3) [] rfl ObsRen.nil (.same (row_ren eItem_frz _ _ _) .nil) rfl (.inl rfl) ?_
  refine dko 3 (.i 32 (.own 8 0 1) (.i 31 (.agg [vi a8.Kind, vi a8.From, vi a8.To, vt a8.Grand, vt a8.Place, vt a8.Who, vi a8.Deposit]) (.i 30 (vi v2) .a))) [some (.row 7 [.agg [eS 1 vt a0, eS 1 vt a1, eS 4 eRoad a2, eS 3 eGrand a3, vi a4, vi a5, .map 1]]), some (.mp (mpE vi (eM eArr2_Str vi) a6)), some (.row 7 [.agg [vi a8.Kind, vi a8.From, vi a8.To, vt a8.Grand, vt a8.Place, vt a8.Who, vi a8.Deposit]]), none, some (.row 7 (List.map eItem y3)), none, none, none, some (.row 7 [.agg [vi a8.Kind, vi a8.From, vi a8.To, vt a8.Grand, vt a8.Place, vt a8.Who, vi a8.Deposit]])] ?_
  refine bK h fun y4 hy4 h => ?_
  refine dc (.own 9 0 y4.length) 1 33 [29, 30, 32] (slices_Insert_Item_ok n y3 (v2 : Int) ([a8] : List Item) y4 hy4) [4, 8] rfl (.same (row_ren eItem_frz _ _ _) (.same (row_ren eItem_frz _ _ _) .nil)) (.cons rfl (.same (row_ren eItem_frz _ _ _) (.same (row_ren eItem_frz _ _ _) .nil))) rfl (.inl rfl) ?_
  refine dk 1 (.i 9 (.own 9 0 y4.length) .a) ?_
  refine dfi (ob' := [some (.row 7 [.agg [eS 1 vt a0, eS 1 vt a1, eS 4 eRoad a2, eS 3 eGrand a3, vi a4, vi a5, .map 1]]), some (.mp (mpE vi (eM eArr2_Str vi) a6)), some (.row 7 (List.map eItem y4))]) (.d4 (.d3 (.k (.i 9 (.own 2 0 y4.length) .n)))) [0, 1, 9] (.cons rfl (obRen_mp vi_frz (eM_frz eArr2_Str vi) rfl (obRen_row eItem_frz rfl .nil))) ?_
  refine q1 ?_
  refine sj ?_
  refine rk 2 (.d (.k (.i 35 (.ptr 0 0 0) (.i 36 (.own 2 0 y4.length) .n)))) ?_
  refine RegJ.sees (Sees.freeze 2 (fr' := [(9, eS 7 eItem y4), (35, .ptr 0 0 0), (36, eS 7 eItem y4)]) (ob' := [some (.row 7 [.agg [eS 1 vt a0, eS 1 vt a1, eS 4 eRoad a2, eS 3 eGrand a3, vi a4, vi a5, .map 1]]), some (.mp (mpE vi (eM eArr2_Str vi) a6)), none]) rfl (frz_row eItem_frzE _) (.cons (frz_full rfl) (.cons (.refl _) (.cons (frz_full rfl) .nil))) rfl) ?_
  refine bK h fun y5 hy5 h => ?_
  refine jco (.tup [vi y5.1, vi y5.2.1]) 37 [35, 36] (diary_plan_accept_2_ok n a0 a1 a2 a3 a4 a5 a6 y4 y5 hy5) [0, 1] rfl (.cons rfl (.same (mp_ren vi_frz (eM_frz eArr2_Str vi) _ _) .nil)) (.cons rfl (.same (mp_ren vi_frz (eM_frz eArr2_Str vi) _ _) .nil)) rfl ?_
  refine jk 5 (.d (.k (.i 11 (vi y5.2.1) .n))) ?_
  refine sk (.k2 (.i 41 (vb (y5.2.1 != (0 : Int))) .n)) ?_
  refine tc h (fun c3 h => ?_) (fun c3 h => ?_)
  ·refine sk (.i 6 .emp (.i 7 (vi y5.2.1) .n)) ?_
   refine q3 ?_
   have h := si h
   subst h
   exact DoneS.ret (S' := ⟨[(6, eS 7 eItem ([] : List Item)), (7, vi y5.2.1)], [some (.row 7 [.agg [eS 1 vt a0, eS 1 vt a1, eS 4 eRoad a2, eS 3 eGrand a3, vi a4, vi a5, .map 1]]), some (.mp (mpE vi (eM eArr2_Str vi) y5.2.2))]⟩) (Sees.trans (Sees.vco (fr' := [(6, eS 7 eItem ([] : List Item)), (7, vi y5.2.1)]) (.cons .sl (.cons .same .nil))) (sc [0, 1] (by decide) (by kernel_rfl) (.cons rfl (obRen_mp vi_frz (eM_frz eArr2_Str vi) rfl .nil)) rfl rfl)) rfl rfl
  refine q2 ?_
  refine sk (.i 6 (eS 7 eItem y4) (.i 7 (vi 0) .n)) ?_
  refine q3 ?_
  have h := si h
  subst h
  exact DoneS.ret (S' := ⟨[(6, eS 7 eItem y4), (7, vi 0)], [some (.row 7 [.agg [eS 1 vt a0, eS 1 vt a1, eS 4 eRoad a2, eS 3 eGrand a3, vi a4, vi a5, .map 1]]), some (.mp (mpE vi (eM eArr2_Str vi) y5.2.2))]⟩) (sc [0, 1] (by decide) (by kernel_rfl) (.cons rfl (obRen_mp vi_frz (eM_frz eArr2_Str vi) rfl .nil)) rfl rfl) rfl rfl
 intro k1 h
 refine q4 ?_
 refine ts (.k3 (.i 8 (vi 0) .n)) ?_
 refine TriE.loopN h (fun (v1 : Nat) => St.mk [(0, .ptr 0 0 0), (1, eS 7 eItem a7), (5, .ptr 2 0 0), (8, vi v1)] [some (.row 7 [.agg [eS 1 vt a0, eS 1 vt a1, eS 4 eRoad a2, eS 3 eGrand a3, vi a4, vi a5, .map 1]]), some (.mp (mpE vi (eM eArr2_Str vi) a6)), some (.row 7 [.agg [vi a8.Kind, vi a8.From, vi a8.To, vt a8.Grand, vt a8.Place, vt a8.Who, vi a8.Deposit]])]) rfl ?_
 clear h
 rintro back v1 h
 dsimp only [diary_plan_add_2_L1] at h
 refine q1 ?_
 refine q1 ?_
 refine ts .a ?_
 refine TriE.draw (by kernel_rfl) ?_
 refine dk 2 (.i 13 (eS 7 eItem a7) (.i 12 (vi v1) .a)) ?_
 refine dp 14 (.len 0 13) (ok_len_m rfl) ?_
 refine dp 15 (.bin .lss false 12 14) (n_lss (i := v1) (j := a7.length) rfl rfl) ?_
 refine dk 1 (.i 16 (vb (decide (v1 < a7.length))) .a) ?_
 refine gd (decide (v1 < a7.length)) (eS 7 eItem a7) 17 (.mov 1) 16 true rfl (fun hg => (.cons rfl .nil)) ?_
 refine gd (decide (v1 < a7.length)) (vi v1) 18 (.mov 8) 16 true rfl (fun hg => (.cons rfl .nil)) ?_
 refine gu (decide (v1 < a7.length)) 19 (.iaddr 7 17 18) 16 true rfl (fun hg => (ok_iaddr_m (j := v1) rfl rfl rfl hg)) (fun hg => (.cons hg (.cons hg .nil))) ?_
 refine gd (decide (v1 < a7.length)) (.fptr 7 (List.map eItem a7) v1 1) 20 (.faddr 1 19) 16 true rfl (fun hg => (.cons hg .nil)) ?_
 refine gu (decide (v1 < a7.length)) 21 (.load false 1 20) 16 true rfl (fun hg => (ok_load_fm (v := vi ((ix a7 v1).From)) rfl hg rfl)) (fun hg => (.cons hg .nil)) ?_
 refine gd (decide (v1 < a7.length)) (.ptr 2 0 1) 22 (.faddr 1 5) 16 true rfl (fun hg => (.cons rfl .nil)) ?_
 refine gd (decide (v1 < a7.length)) (vi a8.From) 23 (.load false 1 22) 16 true rfl (fun hg => (.cons hg .nil)) ?_
 refine gd (decide (v1 < a7.length)) (vb (decide (((ix a7 v1).From) ≤ a8.From))) 24 (.bin .leq false 21 23) 16 true rfl (fun hg => (.cons hg (.cons hg .nil))) ?_
 refine RegD.op (OpD.and (cy (I0 25 (.pick 16 24 (.c (.p (.bool false)))))) rfl rfl (by first | exact hokA1 | exact hokA0 | simp)) ?_
 refine dfi (ob' := [some (.row 7 [.agg [eS 1 vt a0, eS 1 vt a1, eS 4 eRoad a2, eS 3 eGrand a3, vi a4, vi a5, .map 1]]), some (.mp (mpE vi (eM eArr2_Str vi) a6)), some (.row 7 [.agg [vi a8.Kind, vi a8.From, vi a8.To, vt a8.Grand, vt a8.Place, vt a8.Who, vi a8.Deposit]])]) (.d4 (.d4 (.d4 (.d2 (.k4 (.i 25 (vb ((decide (v1 < a7.length)) && (decide (((ix a7 v1).From) ≤ a8.From)))) .n)))))) [0, 1, 2] (.cons rfl (obRen_mp vi_frz (eM_frz eArr2_Str vi) rfl (.cons rfl .nil))) ?_
 refine tc h (fun c1 h => ?_) (fun c1 h => ?_)
 ·refine q2 ?_
  refine q4 ?_
  refine q6 ?_
  refine rk 1 (.k3 (.i 26 (vi v1) .n)) ?_
  refine cK h fun c2 h => ?_
  refine jo 27 (.bin .add false 26 (ki 1)) (r_addn (i := v1) (j := 1) rfl rfl c2) ?_
  refine jk 1 (.d (.k3 (.i 8 (vi ((v1 + 1 : Nat) : Int)) .n))) ?_
  exact Vs.intro sy ⟨(v1 + 1), rfl, h⟩
 refine q5 ?_
 exact Vs.intro sy ⟨v1, rfl, h⟩
set_option maxHeartbeats 1000000 in
theorem diary_FreeFrom_ok (n : Nat) (a0 : Diary) (a1 : List Item) (a2 : Item) (r : Int × Int) (h : diary_FreeFrom n a0 a1 a2 = some r) : FnL Tryz.prog 50 [.agg [eS 1 vt a0.Places, eS 1 vt a0.Technicians, eS 4 eRoad a0.Roads, eS 3 eGrand a0.Grands, vi a0.Change, vi a0.Lasts], eS 7 eItem a1, .agg [vi a2.Kind, vi a2.From, vi a2.To, vt a2.Grand, vt a2.Place, vt a2.Who, vi a2.Deposit]] [] (.tup [vi r.2, vi r.1]) [] := by
 dsimp only [diary_FreeFrom] at h
 refine fo [6, 7] Tryz.call50 Tryz.func50 rfl ?_
 refine sko (.d (.k (.i 3 (.ptr 0 0 0) (.i 5 (.ptr 1 0 0) .n)))) [some (.row 6 [.agg [eS 1 vt a0.Places, eS 1 vt a0.Technicians, eS 4 eRoad a0.Roads, eS 3 eGrand a0.Grands, vi a0.Change, vi a0.Lasts]]), some (.row 7 [.agg [vi a2.Kind, vi a2.From, vi a2.To, vt a2.Grand, vt a2.Place, vt a2.Who, vi a2.Deposit]])] ?_
 refine TriE.seqK2 h (fun (v4 : Int) => St.mk [(1, eS 7 eItem a1), (3, .ptr 0 0 0), (5, .ptr 1 0 0), (8, .p (.pointer none)), (9, vi v4)] [some (.row 6 [.agg [eS 1 vt a0.Places, eS 1 vt a0.Technicians, eS 4 eRoad a0.Roads, eS 3 eGrand a0.Grands, vi a0.Change, vi a0.Lasts]]), some (.row 7 [.agg [vi a2.Kind, vi a2.From, vi a2.To, vt a2.Grand, vt a2.Place, vt a2.Who, vi a2.Deposit]])]) (fun (t : Int × (List (Int × List (Arr2_Str × Int)))) => match t with | (v11, v12) => St.mk [(1, eS 7 eItem a1), (3, .ptr 0 0 0), (5, .ptr 1 0 0), (8, .ptr 3 0 0), (9, vi v11)] [some (.row 6 [.agg [eS 1 vt a0.Places, eS 1 vt a0.Technicians, eS 4 eRoad a0.Roads, eS 3 eGrand a0.Grands, vi a0.Change, vi a0.Lasts]]), some (.row 7 [.agg [vi a2.Kind, vi a2.From, vi a2.To, vt a2.Grand, vt a2.Place, vt a2.Who, vi a2.Deposit]]), some (.mp (mpE vi (eM eArr2_Str vi) v12)), some (.row 7 [.agg [eS 1 vt a0.Places, eS 1 vt a0.Technicians, eS 4 eRoad a0.Roads, eS 3 eGrand a0.Grands, vi a0.Change, vi a0.Lasts, .map 2]])]) ?_ ?_ ?_
 ·rintro v4 h
  refine q7 ?_
  refine sk (.k4 (.k (.i 28 (vb (v4 != (0 : Int))) .n))) ?_
  refine tc h (fun c1 h => ?_) (fun c1 h => ?_)
  ·refine sk (.i 6 (vi 0) (.i 7 (vi v4) .n)) ?_
   refine q3 ?_
   have h := si h
   subst h
   exact DoneS.ret (S' := ⟨[(6, vi 0), (7, vi v4)], []⟩) (sc [] (by decide) (by kernel_rfl) ObRen.nil rfl rfl) rfl rfl
  refine sj ?_
  refine rk 1 (.k4 (.i 33 (eS 7 eItem a1) .n)) ?_
  refine jo 34 (.len 0 33) (ok_len_m rfl) ?_
  refine jo 35 (.bin .geq false 34 (ki 100)) (n_geq (i := a1.length) (j := 100) rfl rfl) ?_
  refine jk 1 (.d2 (.k4 (.i 32 (vb (decide (100 ≤ a1.length))) .n))) ?_
  refine tc h (fun c2 h => ?_) (fun c2 h => ?_)
  ·refine sk (.i 6 (vi 0) (.i 7 (vi 8) .n)) ?_
   refine q3 ?_
   have h := si h
   subst h
   exact DoneS.ret (S' := ⟨[(6, vi 0), (7, vi 8)], []⟩) (sc [] (by decide) (by kernel_rfl) ObRen.nil rfl rfl) rfl rfl
  refine q2 ?_
  refine q1 ?_
  refine sj ?_
  refine rk 2 (.k4 (.i 36 (.agg [eS 1 vt a0.Places, eS 1 vt a0.Technicians, eS 4 eRoad a0.Roads, eS 3 eGrand a0.Grands, vi a0.Change, vi a0.Lasts]) (.i 37 (.agg [vi a2.Kind, vi a2.From, vi a2.To, vt a2.Grand, vt a2.Place, vt a2.Who, vi a2.Deposit]) .n))) ?_
  refine bK h fun y5 hy5 h => ?_
  refine jc 38 [36, 37] (diary_checkItem_ok n a0 a2 y5 hy5) ?_
  refine jk 1 (.d (.k4 (.i 10 (vi y5) .n))) ?_
  refine sk (.k4 (.k (.i 40 (vb (y5 != (0 : Int))) .n))) ?_
  refine tc h (fun c3 h => ?_) (fun c3 h => ?_)
  ·refine sk (.i 6 (vi 0) (.i 7 (vi y5) .n)) ?_
   refine q3 ?_
   have h := si h
   subst h
   exact DoneS.ret (S' := ⟨[(6, vi 0), (7, vi y5)], []⟩) (sc [] (by decide) (by kernel_rfl) ObRen.nil rfl rfl) rfl rfl
  refine q2 ?_
  refine sko (.k4 (.i 11 (.own 2 0 1) .n)) [some (.row 6 [.agg [eS 1 vt a0.Places, eS 1 vt a0.Technicians, eS 4 eRoad a0.Roads, eS 3 eGrand a0.Grands, vi a0.Change, vi a0.Lasts]]), some (.row 7 [.agg [vi a2.Kind, vi a2.From, vi a2.To, vt a2.Grand, vt a2.Place, vt a2.Who, vi a2.Deposit]]), some (.row 1 [vi a2.From])] ?_
  refine TriE.seqK h (fun (_ : Unit) => St.mk [(1, eS 7 eItem a1), (5, .ptr 0 0 0), (8, .p (.pointer none)), (11, .own 1 0 1)] [some (.row 7 [.agg [vi a2.Kind, vi a2.From, vi a2.To, vt a2.Grand, vt a2.Place, vt a2.Who, vi a2.Deposit]]), some (.row 1 [vi a2.From])]) ?_ ?_
  ·rintro ⟨⟩ h
   refine sj ?_
   refine rk 1 (.k4 (.i 81 (.own 1 0 1) .n)) ?_
   refine bK h fun y6 hy6 h => ?_
   refine jco (.tup []) 82 [81] (slices_Sort_int_ok n ([a2.From] : List Int) y6 hy6) [1] rfl (.same (row_ren vi_frz _ _ _) .nil) (.same (row_ren vi_frz _ _ _) .nil) rfl ?_
   refine jf (.d (.k4 .n)) ?_
   refine sj ?_
   refine rk 4 (.k4 (.i 84 (vi a2.To) (.i 86 (vi a2.From) .n))) ?_
   refine cK h fun c7 h => ?_
   refine jo 87 (.bin .sub false 84 86) (r_sub rfl rfl c7) ?_
   refine jk 1 (.d (.k4 (.i 16 (vi (a2.To - a2.From)) .n))) ?_
   refine TriE.seqK h (fun (_ : Unit) => St.mk [] []) ?_ ?_
   ·rintro ⟨⟩ h
    refine sk (.i 6 (vi 0) (.i 7 (vi 12) .n)) ?_
    refine q3 ?_
    have h := si h
    subst h
    exact DoneS.ret Sees.refl rfl rfl
   intro k4 h
   refine sj ?_
   refine rk 1 (.k3 (.d (.k (.i 88 (.own 1 0 1) .n)))) ?_
   refine bK h fun y7 hy7 h => ?_
   refine jco (.own 1 0 y7.1) 89 [88] (slices_Compact_int_ok n y6 0 1 y7 hy7) [1] rfl (.same (row_ren vi_frz _ _ _) .nil) (.same (row_ren vi_frz _ _ _) .nil) rfl ?_
   refine jk 2 (.d (.k4 (.i 89 (.own 1 0 y7.1) (.i 90 (vi ((y7.1 : Nat) : Int)) (.i 91 (vi 0) .n))))) ?_
   refine q4 ?_
   refine ts (.k4 (.k2 (.i 91 (vi 0) .n))) ?_
   refine TriE.loopN h (fun (v9 : Nat) => St.mk [(1, eS 7 eItem a1), (5, .ptr 0 0 0), (8, .p (.pointer none)), (16, vi (a2.To - a2.From)), (89, .own 1 0 y7.1), (90, vi ((y7.1 : Nat) : Int)), (91, vi v9)] [some (.row 7 [.agg [vi a2.Kind, vi a2.From, vi a2.To, vt a2.Grand, vt a2.Place, vt a2.Who, vi a2.Deposit]]), some (.row 1 (List.map vi y7.2))]) rfl ?_
   clear h
   rintro back v9 h
   dsimp only [diary_FreeFrom_L2] at h
   refine sj ?_
   refine jo 92 (.bin .lss false 91 90) (n_lss (i := v9) (j := y7.1) rfl rfl) ?_
   refine jf (.d (.k4 (.k3 (.i 92 (vb (decide (v9 < y7.1))) .n)))) ?_
   refine q1 ?_
   refine tc h (fun c8 h => ?_) (fun c8 h => ?_)
   ·refine q2 ?_
    refine TriE.seqK h (fun (_ : Unit) => St.mk [(1, eS 7 eItem a1), (5, .ptr 0 0 0), (8, .p (.pointer none)), (16, vi (a2.To - a2.From)), (89, .own 1 0 y7.1), (90, vi ((y7.1 : Nat) : Int)), (91, vi v9)] [some (.row 7 [.agg [vi a2.Kind, vi a2.From, vi a2.To, vt a2.Grand, vt a2.Place, vt a2.Who, vi a2.Deposit]]), some (.row 1 (List.map vi y7.2))]) ?_ ?_
    ·rintro ⟨⟩ h
     refine q6 ?_
     refine cK h fun c14 h => ?_
     refine jo 122 (.bin .add false 91 (ki 1)) (r_addn (i := v9) (j := 1) rfl rfl c14) ?_
     refine jk 1 (.d (.k4 (.k2 (.i 91 (vi ((v9 + 1 : Nat) : Int)) .n)))) ?_
     exact Vs.intro sy ⟨(v9 + 1), rfl, h⟩
    intro k3 h
    refine q4 ?_
    refine sj ?_
    refine jo 93 (.iaddr 1 89 91) (ok_iaddr_o0 (j := v9) rfl rfl rfl rfl c8) ?_
    refine cK h fun c9 h => ?_
    refine jo 94 (.load false 1 93) (ok_load_pm (l := y7.2) (e := vi) (v := vi (ix y7.2 v9)) rfl rfl c9 rfl) ?_
    refine jk 1 (.d2 (.k4 (.k3 (.i 18 (vi (ix y7.2 v9)) .n)))) ?_
    refine q1 ?_
    refine sj ?_
    refine rk 5 (.k4 (.k4 (.i 99 (vb (decide ((ix y7.2 v9) < a2.From))) .n))) ?_
    refine gj (vi (ix y7.2 v9)) 100 (.mov 18) 99 false rfl ?_
    refine gj (vi (a2.To - a2.From)) 101 (.mov 16) 99 false rfl ?_
    refine cK h fun c10 h => ?_
    refine gv 102 (.bin .add false 100 101) 99 false rfl (fun hg => (r_add rfl rfl (gor c10 hg))) (fun hg => (.cons hg (.cons hg .nil))) ?_
    refine gk (vb (decide ((1000000 : Int) < ((ix y7.2 v9) + (a2.To - a2.From))))) 103 (.bin .gtr false 102 (ki 1000000)) 99 false rfl (fun hg => (.cons hg (.cons rfl .nil))) ?_
    refine po 104 99 103 rfl rfl ?_
    refine jf (.d4 (.d (.k4 (.k4 (.i 104 (vb ((decide ((ix y7.2 v9) < a2.From)) || (decide ((1000000 : Int) < ((ix y7.2 v9) + (a2.To - a2.From)))))) .n))))) ?_
    refine tc h (fun c11 h => ?_) (fun c11 h => ?_)
    ·refine q5 ?_
     exact Vs.intro sy ⟨(), rfl, h⟩
    refine q2 ?_
    refine sko (.k4 (.k4 (.i 19 (.ptr 2 0 0) .n))) [some (.row 7 [.agg [vi a2.Kind, vi a2.From, vi a2.To, vt a2.Grand, vt a2.Place, vt a2.Who, vi a2.Deposit]]), some (.row 1 (List.map vi y7.2)), some (.row 7 [.agg [vi a2.Kind, vi a2.From, vi a2.To, vt a2.Grand, vt a2.Place, vt a2.Who, vi a2.Deposit]])] ?_
    refine sj ?_
    refine rk 3 (.k4 (.k4 (.k (.i 106 (vi (ix y7.2 v9)) (.i 107 (vi (ix y7.2 v9)) (.i 108 (vi (a2.To - a2.From)) .n)))))) ?_
    refine cK h fun c12 h => ?_
    refine jo 109 (.bin .add false 107 108) (r_add rfl rfl c12) ?_
    refine jko 4 (.d (.k4 (.k4 (.k .n)))) [some (.row 7 [.agg [vi a2.Kind, vi a2.From, vi a2.To, vt a2.Grand, vt a2.Place, vt a2.Who, vi a2.Deposit]]), some (.row 1 (List.map vi y7.2)), some (.row 7 [.agg [vi a2.Kind, vi (ix y7.2 v9), vi ((ix y7.2 v9) + (a2.To - a2.From)), vt a2.Grand, vt a2.Place, vt a2.Who, vi a2.Deposit]])] ?_
    refine sj ?_
    refine rk 3 (.k4 (.k4 (.i 113 (.p (.pointer none)) (.i 114 (eS 7 eItem a1) (.i 115 (.agg [vi a2.Kind, vi (ix y7.2 v9), vi ((ix y7.2 v9) + (a2.To - a2.From)), vt a2.Grand, vt a2.Place, vt a2.Who, vi a2.Deposit]) .n))))) ?_
    refine bK h fun y10 hy10 h => ?_
    refine jc 116 [113, 114, 115] (diary_plan_add_ok n a1 (Item.mk a2.Kind (ix y7.2 v9) ((ix y7.2 v9) + (a2.To - a2.From)) a2.Grand a2.Place a2.Who a2.Deposit) y10 hy10) ?_
    refine jk 5 (.d (.k4 (.k4 (.i 21 (vi y10.1) .n)))) ?_
    refine sk (.k4 (.k4 (.i 120 (vb (y10.1 == (0 : Int))) .n))) ?_
    refine tc h (fun c13 h => ?_) (fun c13 h => ?_)
    ·refine sk (.i 6 (vi (ix y7.2 v9)) (.i 7 (vi 0) .n)) ?_
     refine q3 ?_
     have h := si h
     subst h
     exact DoneS.ret (S' := ⟨[(6, vi (ix y7.2 v9)), (7, vi 0)], []⟩) (sc [] (by decide) (by kernel_rfl) ObRen.nil rfl rfl) rfl rfl
    refine q2 ?_
    exact Vs.intro (sc [0, 1] (by decide) (by kernel_rfl) (.cons rfl (obRen_row vi_frz rfl .nil)) rfl rfl) ⟨(), rfl, h⟩
   refine q5 ?_
   exact Vs.intro (sc [] (by decide) (by kernel_rfl) ObRen.nil rfl rfl) ⟨(), rfl, h⟩
  intro k2 h
  refine sj ?_
  refine rk 1 (.k4 (.k (.i 45 (eS 7 eItem a1) .n))) ?_
  refine jo 46 (.len 0 45) (ok_len_m rfl) ?_
  refine jk 1 (.d (.k4 (.k2 (.i 46 (vi (a1.length : Int)) (.i 47 (vi 0) .n))))) ?_
  refine q4 ?_
  refine TriE.loopN h (fun (_ : Unit) => St.mk [(1, eS 7 eItem a1), (3, .ptr 0 0 0), (5, .ptr 1 0 0), (8, .p (.pointer none)), (11, .own 2 0 1), (45, eS 7 eItem a1), (46, vi (a1.length : Int)), (47, vi 0)] [some (.row 6 [.agg [eS 1 vt a0.Places, eS 1 vt a0.Technicians, eS 4 eRoad a0.Roads, eS 3 eGrand a0.Grands, vi a0.Change, vi a0.Lasts]]), some (.row 7 [.agg [vi a2.Kind, vi a2.From, vi a2.To, vt a2.Grand, vt a2.Place, vt a2.Who, vi a2.Deposit]]), some (.row 1 [vi a2.From])]) rfl ?_
  clear h
  rintro back ⟨⟩ h
  dsimp only [diary_FreeFrom_L1] at h
  refine sj ?_
  refine jo 48 (.bin .lss false 47 46) (n_lss (i := 0) (j := a1.length) rfl rfl) ?_
  refine jf (.d (.k4 (.k4 (.i 48 (vb (decide (0 < a1.length))) .n)))) ?_
  refine q1 ?_
  refine tc h (fun c4 h => ?_) (fun c4 h => ?_)
  ·refine q2 ?_
   refine q7 ?_
   refine sj ?_
   refine jo 49 (.iaddr 7 45 47) (ok_iaddr_m (j := 0) rfl rfl rfl c4) ?_
   refine jo 50 (.load true 7 49) (ok_load_fm (v := .agg [vi ((ix a1 0).Kind), vi ((ix a1 0).From), vi ((ix a1 0).To), vt ((ix a1 0).Grand), vt ((ix a1 0).Place), vt ((ix a1 0).Who), vi ((ix a1 0).Deposit)]) rfl c4 rfl) ?_
   refine jko 2 (.d2 (.k4 (.k4 (.i 13 (.ptr 3 0 0) .n)))) [some (.row 6 [.agg [eS 1 vt a0.Places, eS 1 vt a0.Technicians, eS 4 eRoad a0.Roads, eS 3 eGrand a0.Grands, vi a0.Change, vi a0.Lasts]]), some (.row 7 [.agg [vi a2.Kind, vi a2.From, vi a2.To, vt a2.Grand, vt a2.Place, vt a2.Who, vi a2.Deposit]]), some (.row 1 [vi a2.From]), some (.row 7 [.agg [vi ((ix a1 0).Kind), vi ((ix a1 0).From), vi ((ix a1 0).To), vt ((ix a1 0).Grand), vt ((ix a1 0).Place), vt ((ix a1 0).Who), vi ((ix a1 0).Deposit)]])] ?_
   refine sj ?_
   refine rk 9 (.k4 (.d (.k4 (.i 51 (.own 2 0 1) (.i 53 (vi ((ix a1 0).From)) (.i 55 (vi ((ix a1 0).To)) (.i 57 (vi ((ix a1 0).To)) (.i 59 (vi a0.Change) .n)))))))) ?_
   refine cK h fun c5 h => ?_
   refine jo 60 (.bin .add false 57 59) (r_add rfl rfl c5) ?_
   refine rko 1 (.d (.k4 (.k4 (.k (.i 61 (.own 4 0 3) .n))))) [some (.row 6 [.agg [eS 1 vt a0.Places, eS 1 vt a0.Technicians, eS 4 eRoad a0.Roads, eS 3 eGrand a0.Grands, vi a0.Change, vi a0.Lasts]]), some (.row 7 [.agg [vi a2.Kind, vi a2.From, vi a2.To, vt a2.Grand, vt a2.Place, vt a2.Who, vi a2.Deposit]]), some (.row 1 [vi a2.From]), some (.row 7 [.agg [vi ((ix a1 0).Kind), vi ((ix a1 0).From), vi ((ix a1 0).To), vt ((ix a1 0).Grand), vt ((ix a1 0).Place), vt ((ix a1 0).Who), vi ((ix a1 0).Deposit)]]), some (.row 1 [vi ((ix a1 0).From), vi ((ix a1 0).To), vi (((ix a1 0).To) + a0.Change)])] ?_
   refine cK h fun c6 h => ?_
   refine jx 62 (.app 1 8 51 61) _ (ok_app_own (l := ([a2.From] : List Int)) (l2 := ([(ix a1 0).From, (ix a1 0).To, ((ix a1 0).To) + a0.Change] : List Int)) (e := vi) (u := .own 4 0 3) rfl rfl rfl rfl rfl c6) rfl rfl ?_
   refine jk 1 (.d (.k4 (.k4 (.i 11 (.own 5 0 ((([a2.From] : List Int) ++ ([(ix a1 0).From, (ix a1 0).To, ((ix a1 0).To) + a0.Change] : List Int)).length)) .n)))) ?_
   refine sj ?_
   refine rk 5 (.k4 (.k4 (.k (.i 64 (.p (.pointer none)) (.i 66 (vt ((ix a1 0).Place)) (.i 68 (vt a2.Place) .n)))))) ?_
   cases h
  refine q5 ?_
  exact Vs.intro (sc [1, 2] (by decide) (by kernel_rfl) (.cons rfl (.cons rfl .nil)) rfl rfl) ⟨(), rfl, h⟩
 ·rintro ⟨v11, v12⟩ h
  refine q7 ?_
  refine sk (.k4 (.k (.i 28 (vb (v11 != (0 : Int))) .n))) ?_
  refine tc h (fun c15 h => ?_) (fun c15 h => ?_)
  ·refine sk (.i 6 (vi 0) (.i 7 (vi v11) .n)) ?_
   refine q3 ?_
   have h := si h
   subst h
   exact DoneS.ret (S' := ⟨[(6, vi 0), (7, vi v11)], []⟩) (sc [] (by decide) (by kernel_rfl) ObRen.nil rfl rfl) rfl rfl
  refine sj ?_
  refine rk 1 (.k4 (.i 33 (eS 7 eItem a1) .n)) ?_
  refine jo 34 (.len 0 33) (ok_len_m rfl) ?_
  refine jo 35 (.bin .geq false 34 (ki 100)) (n_geq (i := a1.length) (j := 100) rfl rfl) ?_
  refine jk 1 (.d2 (.k4 (.i 32 (vb (decide (100 ≤ a1.length))) .n))) ?_
  refine tc h (fun c16 h => ?_) (fun c16 h => ?_)
  ·refine sk (.i 6 (vi 0) (.i 7 (vi 8) .n)) ?_
   refine q3 ?_
   have h := si h
   subst h
   exact DoneS.ret (S' := ⟨[(6, vi 0), (7, vi 8)], []⟩) (sc [] (by decide) (by kernel_rfl) ObRen.nil rfl rfl) rfl rfl
  refine q2 ?_
  refine q1 ?_
  refine sj ?_
  refine rk 2 (.k4 (.i 36 (.agg [eS 1 vt a0.Places, eS 1 vt a0.Technicians, eS 4 eRoad a0.Roads, eS 3 eGrand a0.Grands, vi a0.Change, vi a0.Lasts]) (.i 37 (.agg [vi a2.Kind, vi a2.From, vi a2.To, vt a2.Grand, vt a2.Place, vt a2.Who, vi a2.Deposit]) .n))) ?_
  refine bK h fun y13 hy13 h => ?_
  refine jc 38 [36, 37] (diary_checkItem_ok n a0 a2 y13 hy13) ?_
  refine jk 1 (.d (.k4 (.i 10 (vi y13) .n))) ?_
  refine sk (.k4 (.k (.i 40 (vb (y13 != (0 : Int))) .n))) ?_
  refine tc h (fun c17 h => ?_) (fun c17 h => ?_)
  ·refine sk (.i 6 (vi 0) (.i 7 (vi y13) .n)) ?_
   refine q3 ?_
   have h := si h
   subst h
   exact DoneS.ret (S' := ⟨[(6, vi 0), (7, vi y13)], []⟩) (sc [] (by decide) (by kernel_rfl) ObRen.nil rfl rfl) rfl rfl
  refine q2 ?_
  refine sko (.k4 (.i 11 (.own 4 0 1) .n)) [some (.row 6 [.agg [eS 1 vt a0.Places, eS 1 vt a0.Technicians, eS 4 eRoad a0.Roads, eS 3 eGrand a0.Grands, vi a0.Change, vi a0.Lasts]]), some (.row 7 [.agg [vi a2.Kind, vi a2.From, vi a2.To, vt a2.Grand, vt a2.Place, vt a2.Who, vi a2.Deposit]]), some (.mp (mpE vi (eM eArr2_Str vi) v12)), some (.row 7 [.agg [eS 1 vt a0.Places, eS 1 vt a0.Technicians, eS 4 eRoad a0.Roads, eS 3 eGrand a0.Grands, vi a0.Change, vi a0.Lasts, .map 2]]), some (.row 1 [vi a2.From])] ?_
  refine TriE.seqK h (fun (t : (List Int) × (List (Int × List (Arr2_Str × Int)))) => match t with | (v23, v24) => St.mk [(1, eS 7 eItem a1), (5, .ptr 0 0 0), (8, .ptr 2 0 0), (11, .own 3 0 v23.length)] [some (.row 7 [.agg [vi a2.Kind, vi a2.From, vi a2.To, vt a2.Grand, vt a2.Place, vt a2.Who, vi a2.Deposit]]), some (.mp (mpE vi (eM eArr2_Str vi) v24)), some (.row 7 [.agg [eS 1 vt a0.Places, eS 1 vt a0.Technicians, eS 4 eRoad a0.Roads, eS 3 eGrand a0.Grands, vi a0.Change, vi a0.Lasts, .map 1]]), some (.row 1 (List.map vi v23))]) ?_ ?_
  ·rintro ⟨v23, v24⟩ h
   refine sj ?_
   refine rk 1 (.k4 (.i 81 (.own 3 0 v23.length) .n)) ?_
   refine bK h fun y25 hy25 h => ?_
   refine jco (.tup []) 82 [81] (slices_Sort_int_ok n v23 y25 hy25) [3] rfl (.same (row_ren vi_frz _ _ _) .nil) (.same (row_ren vi_frz _ _ _) .nil) rfl ?_
   refine cK h fun c25 h => ?_
   refine RegJ.sees (S' := ⟨[(1, eS 7 eItem a1), (5, .ptr 0 0 0), (8, .ptr 2 0 0), (11, .own 3 0 y25.length), (81, .own 3 0 y25.length), (82, .tup [])], [some (.row 7 [.agg [vi a2.Kind, vi a2.From, vi a2.To, vt a2.Grand, vt a2.Place, vt a2.Who, vi a2.Deposit]]), some (.mp (mpE vi (eM eArr2_Str vi) v24)), some (.row 7 [.agg [eS 1 vt a0.Places, eS 1 vt a0.Technicians, eS 4 eRoad a0.Roads, eS 3 eGrand a0.Grands, vi a0.Change, vi a0.Lasts, .map 1]]), some (.row 1 (List.map vi y25))]⟩) (Sees.cov (Cov.mk2 (rs := [0, 1, 2, 3]) (by decide) rfl rfl (.cons (.inl rfl) (.cons (.inl rfl) (.cons (.inl rfl) (.cons (.inl (by rw [show v23.length = y25.length from of_decide_eq_true c25]; rfl)) (.cons (.inl (by rw [show v23.length = y25.length from of_decide_eq_true c25]; rfl)) (.cons (.inl rfl) .nil)))))) (.cons rfl (obRen_mp vi_frz (eM_frz eArr2_Str vi) rfl (.cons rfl (obRen_row vi_frz rfl .nil)))))) ?_
   refine jf (.k4 .n) ?_
   refine sj ?_
   refine rk 4 (.k4 (.i 84 (vi a2.To) (.i 86 (vi a2.From) .n))) ?_
   refine cK h fun c26 h => ?_
   refine jo 87 (.bin .sub false 84 86) (r_sub rfl rfl c26) ?_
   refine jk 1 (.d (.k4 (.i 16 (vi (a2.To - a2.From)) .n))) ?_
   refine TriE.seqK h (fun (_ : Unit) => St.mk [] []) ?_ ?_
   ·rintro ⟨⟩ h
    refine sk (.i 6 (vi 0) (.i 7 (vi 12) .n)) ?_
    refine q3 ?_
    have h := si h
    subst h
    exact DoneS.ret Sees.refl rfl rfl
   intro k9 h
   refine sj ?_
   refine rk 1 (.k3 (.d (.k (.i 88 (.own 3 0 y25.length) .n)))) ?_
   refine bK h fun y26 hy26 h => ?_
   refine jco (.own 3 0 y26.1) 89 [88] (slices_Compact_int_ok n y25 0 y25.length y26 hy26) [3] rfl (.same (row_ren vi_frz _ _ _) .nil) (.same (row_ren vi_frz _ _ _) .nil) rfl ?_
   refine cK h fun c27 h => ?_
   refine RegJ.sees (S' := ⟨[(1, eS 7 eItem a1), (5, .ptr 0 0 0), (8, .ptr 2 0 0), (16, vi (a2.To - a2.From)), (88, .own 3 0 y26.2.length), (89, .own 3 0 y26.1)], [some (.row 7 [.agg [vi a2.Kind, vi a2.From, vi a2.To, vt a2.Grand, vt a2.Place, vt a2.Who, vi a2.Deposit]]), some (.mp (mpE vi (eM eArr2_Str vi) v24)), some (.row 7 [.agg [eS 1 vt a0.Places, eS 1 vt a0.Technicians, eS 4 eRoad a0.Roads, eS 3 eGrand a0.Grands, vi a0.Change, vi a0.Lasts, .map 1]]), some (.row 1 (List.map vi y26.2))]⟩) (Sees.cov (Cov.mk2 (rs := [0, 1, 2, 3]) (by decide) rfl rfl (.cons (.inl rfl) (.cons (.inl rfl) (.cons (.inl rfl) (.cons (.inl rfl) (.cons (.inl (by rw [show y25.length = y26.2.length from of_decide_eq_true c27]; rfl)) (.cons (.inl rfl) .nil)))))) (.cons rfl (obRen_mp vi_frz (eM_frz eArr2_Str vi) rfl (.cons rfl (obRen_row vi_frz rfl .nil)))))) ?_
   refine jk 2 (.k4 (.d (.k (.i 90 (vi ((y26.1 : Nat) : Int)) (.i 91 (vi 0) .n))))) ?_
   refine q4 ?_
   refine ts (.k4 (.k2 (.i 91 (vi 0) .n))) ?_
   refine TriE.loopN h (fun (t : Nat × (List (Int × List (Arr2_Str × Int)))) => match t with | (v29, v30) => St.mk [(1, eS 7 eItem a1), (5, .ptr 0 0 0), (8, .ptr 2 0 0), (16, vi (a2.To - a2.From)), (89, .own 3 0 y26.1), (90, vi ((y26.1 : Nat) : Int)), (91, vi v29)] [some (.row 7 [.agg [vi a2.Kind, vi a2.From, vi a2.To, vt a2.Grand, vt a2.Place, vt a2.Who, vi a2.Deposit]]), some (.mp (mpE vi (eM eArr2_Str vi) v30)), some (.row 7 [.agg [eS 1 vt a0.Places, eS 1 vt a0.Technicians, eS 4 eRoad a0.Roads, eS 3 eGrand a0.Grands, vi a0.Change, vi a0.Lasts, .map 1]]), some (.row 1 (List.map vi y26.2))]) rfl ?_
   clear h
   rintro back ⟨v29, v30⟩ h
   dsimp only [diary_FreeFrom_L4] at h
   refine sj ?_
   refine jo 92 (.bin .lss false 91 90) (n_lss (i := v29) (j := y26.1) rfl rfl) ?_
   refine jf (.d (.k4 (.k3 (.i 92 (vb (decide (v29 < y26.1))) .n)))) ?_
   refine q1 ?_
   refine tc h (fun c28 h => ?_) (fun c28 h => ?_)
   ·refine q2 ?_
    refine TriE.seqK h (fun (v32 : (List (Int × List (Arr2_Str × Int)))) => St.mk [(1, eS 7 eItem a1), (5, .ptr 0 0 0), (8, .ptr 2 0 0), (16, vi (a2.To - a2.From)), (89, .own 3 0 y26.1), (90, vi ((y26.1 : Nat) : Int)), (91, vi v29)] [some (.row 7 [.agg [vi a2.Kind, vi a2.From, vi a2.To, vt a2.Grand, vt a2.Place, vt a2.Who, vi a2.Deposit]]), some (.mp (mpE vi (eM eArr2_Str vi) v32)), some (.row 7 [.agg [eS 1 vt a0.Places, eS 1 vt a0.Technicians, eS 4 eRoad a0.Roads, eS 3 eGrand a0.Grands, vi a0.Change, vi a0.Lasts, .map 1]]), some (.row 1 (List.map vi y26.2))]) ?_ ?_
    ·rintro v32 h
     refine q6 ?_
     refine cK h fun c34 h => ?_
     refine jo 122 (.bin .add false 91 (ki 1)) (r_addn (i := v29) (j := 1) rfl rfl c34) ?_
     refine jk 1 (.d (.k4 (.k2 (.i 91 (vi ((v29 + 1 : Nat) : Int)) .n)))) ?_
     exact Vs.intro sy ⟨(v29 + 1, v32), rfl, h⟩
    intro k8 h
    refine q4 ?_
    refine sj ?_
    refine jo 93 (.iaddr 1 89 91) (ok_iaddr_o0 (j := v29) rfl rfl rfl rfl c28) ?_
    refine cK h fun c29 h => ?_
    refine jo 94 (.load false 1 93) (ok_load_pm (l := y26.2) (e := vi) (v := vi (ix y26.2 v29)) rfl rfl c29 rfl) ?_
    refine jk 1 (.d2 (.k4 (.k3 (.i 18 (vi (ix y26.2 v29)) .n)))) ?_
    refine q1 ?_
    refine sj ?_
    refine rk 5 (.k4 (.k4 (.i 99 (vb (decide ((ix y26.2 v29) < a2.From))) .n))) ?_
    refine gj (vi (ix y26.2 v29)) 100 (.mov 18) 99 false rfl ?_
    refine gj (vi (a2.To - a2.From)) 101 (.mov 16) 99 false rfl ?_
    refine cK h fun c30 h => ?_
    refine gv 102 (.bin .add false 100 101) 99 false rfl (fun hg => (r_add rfl rfl (gor c30 hg))) (fun hg => (.cons hg (.cons hg .nil))) ?_
    refine gk (vb (decide ((1000000 : Int) < ((ix y26.2 v29) + (a2.To - a2.From))))) 103 (.bin .gtr false 102 (ki 1000000)) 99 false rfl (fun hg => (.cons hg (.cons rfl .nil))) ?_
    refine po 104 99 103 rfl rfl ?_
    refine jf (.d4 (.d (.k4 (.k4 (.i 104 (vb ((decide ((ix y26.2 v29) < a2.From)) || (decide ((1000000 : Int) < ((ix y26.2 v29) + (a2.To - a2.From)))))) .n))))) ?_
    refine tc h (fun c31 h => ?_) (fun c31 h => ?_)
    ·refine q5 ?_
     exact Vs.intro sy ⟨v30, rfl, h⟩
    refine q2 ?_
    refine sko (.k4 (.k4 (.i 19 (.ptr 4 0 0) .n))) [some (.row 7 [.agg [vi a2.Kind, vi a2.From, vi a2.To, vt a2.Grand, vt a2.Place, vt a2.Who, vi a2.Deposit]]), some (.mp (mpE vi (eM eArr2_Str vi) v30)), some (.row 7 [.agg [eS 1 vt a0.Places, eS 1 vt a0.Technicians, eS 4 eRoad a0.Roads, eS 3 eGrand a0.Grands, vi a0.Change, vi a0.Lasts, .map 1]]), some (.row 1 (List.map vi y26.2)), some (.row 7 [.agg [vi a2.Kind, vi a2.From, vi a2.To, vt a2.Grand, vt a2.Place, vt a2.Who, vi a2.Deposit]])] ?_
    refine sj ?_
    refine rk 3 (.k4 (.k4 (.k (.i 106 (vi (ix y26.2 v29)) (.i 107 (vi (ix y26.2 v29)) (.i 108 (vi (a2.To - a2.From)) .n)))))) ?_
    refine cK h fun c32 h => ?_
    refine jo 109 (.bin .add false 107 108) (r_add rfl rfl c32) ?_
    refine jko 4 (.d (.k4 (.k4 (.k .n)))) [some (.row 7 [.agg [vi a2.Kind, vi a2.From, vi a2.To, vt a2.Grand, vt a2.Place, vt a2.Who, vi a2.Deposit]]), some (.mp (mpE vi (eM eArr2_Str vi) v30)), some (.row 7 [.agg [eS 1 vt a0.Places, eS 1 vt a0.Technicians, eS 4 eRoad a0.Roads, eS 3 eGrand a0.Grands, vi a0.Change, vi a0.Lasts, .map 1]]), some (.row 1 (List.map vi y26.2)), some (.row 7 [.agg [vi a2.Kind, vi (ix y26.2 v29), vi ((ix y26.2 v29) + (a2.To - a2.From)), vt a2.Grand, vt a2.Place, vt a2.Who, vi a2.Deposit]])] ?_
    refine sj ?_
    refine rk 3 (.k4 (.k4 (.i 113 (.ptr 2 0 0) (.i 114 (eS 7 eItem a1) (.i 115 (.agg [vi a2.Kind, vi (ix y26.2 v29), vi ((ix y26.2 v29) + (a2.To - a2.From)), vt a2.Grand, vt a2.Place, vt a2.Who, vi a2.Deposit]) .n))))) ?_
    refine bK h fun y31 hy31 h => ?_
    refine jco (.tup [eS 7 eItem y31.2.2, vi y31.1]) 116 [113, 114, 115] (diary_plan_add_2_ok n a0.Places a0.Technicians a0.Roads a0.Grands a0.Change a0.Lasts v30 a1 (Item.mk a2.Kind (ix y26.2 v29) ((ix y26.2 v29) + (a2.To - a2.From)) a2.Grand a2.Place a2.Who a2.Deposit) y31 hy31) [2, 1] rfl (.cons rfl (.same (mp_ren vi_frz (eM_frz eArr2_Str vi) _ _) .nil)) (.cons rfl (.same (mp_ren vi_frz (eM_frz eArr2_Str vi) _ _) .nil)) rfl ?_
    refine jk 5 (.d (.k4 (.k4 (.i 21 (vi y31.1) .n)))) ?_
    refine sk (.k4 (.k4 (.i 120 (vb (y31.1 == (0 : Int))) .n))) ?_
    refine tc h (fun c33 h => ?_) (fun c33 h => ?_)
    ·refine sk (.i 6 (vi (ix y26.2 v29)) (.i 7 (vi 0) .n)) ?_
     refine q3 ?_
     have h := si h
     subst h
     exact DoneS.ret (S' := ⟨[(6, vi (ix y26.2 v29)), (7, vi 0)], []⟩) (sc [] (by decide) (by kernel_rfl) ObRen.nil rfl rfl) rfl rfl
    refine q2 ?_
    exact Vs.intro (sc [0, 1, 2, 3] (by decide) (by kernel_rfl) (.cons rfl (obRen_mp vi_frz (eM_frz eArr2_Str vi) rfl (.cons rfl (obRen_row vi_frz rfl .nil)))) rfl rfl) ⟨y31.2.1, rfl, h⟩
   refine q5 ?_
   exact Vs.intro (sc [] (by decide) (by kernel_rfl) ObRen.nil rfl rfl) ⟨(), rfl, h⟩
  intro k7 h
  refine sj ?_
  refine rk 1 (.k4 (.k (.i 45 (eS 7 eItem a1) .n))) ?_
  refine jo 46 (.len 0 45) (ok_len_m rfl) ?_
  refine jk 1 (.d (.k4 (.k2 (.i 46 (vi (a1.length : Int)) (.i 47 (vi 0) .n))))) ?_
  refine q4 ?_
  refine TriE.sees (S' := ⟨[(1, eS 7 eItem a1), (3, .ptr 0 0 0), (5, .ptr 1 0 0), (8, .ptr 3 0 0), (11, .own 4 0 ([a2.From] : List Int).length), (45, eS 7 eItem a1), (46, vi (a1.length : Int)), (47, vi 0)], [some (.row 6 [.agg [eS 1 vt a0.Places, eS 1 vt a0.Technicians, eS 4 eRoad a0.Roads, eS 3 eGrand a0.Grands, vi a0.Change, vi a0.Lasts]]), some (.row 7 [.agg [vi a2.Kind, vi a2.From, vi a2.To, vt a2.Grand, vt a2.Place, vt a2.Who, vi a2.Deposit]]), some (.mp (mpE vi (eM eArr2_Str vi) v12)), some (.row 7 [.agg [eS 1 vt a0.Places, eS 1 vt a0.Technicians, eS 4 eRoad a0.Roads, eS 3 eGrand a0.Grands, vi a0.Change, vi a0.Lasts, .map 2]]), some (.row 1 (List.map vi ([a2.From] : List Int)))]⟩) sy ?_
  refine TriE.loopN h (fun (t : Nat × (List Int) × (List (Int × List (Arr2_Str × Int)))) => match t with | (v17, v18, v19) => St.mk [(1, eS 7 eItem a1), (3, .ptr 0 0 0), (5, .ptr 1 0 0), (8, .ptr 3 0 0), (11, .own 4 0 v18.length), (45, eS 7 eItem a1), (46, vi (a1.length : Int)), (47, vi v17)] [some (.row 6 [.agg [eS 1 vt a0.Places, eS 1 vt a0.Technicians, eS 4 eRoad a0.Roads, eS 3 eGrand a0.Grands, vi a0.Change, vi a0.Lasts]]), some (.row 7 [.agg [vi a2.Kind, vi a2.From, vi a2.To, vt a2.Grand, vt a2.Place, vt a2.Who, vi a2.Deposit]]), some (.mp (mpE vi (eM eArr2_Str vi) v19)), some (.row 7 [.agg [eS 1 vt a0.Places, eS 1 vt a0.Technicians, eS 4 eRoad a0.Roads, eS 3 eGrand a0.Grands, vi a0.Change, vi a0.Lasts, .map 2]]), some (.row 1 (List.map vi v18))]) rfl ?_
  clear h
  rintro back ⟨v17, v18, v19⟩ h
  dsimp only [diary_FreeFrom_L3] at h
  refine sj ?_
  refine jo 48 (.bin .lss false 47 46) (n_lss (i := v17) (j := a1.length) rfl rfl) ?_
  refine jf (.d (.k4 (.k4 (.i 48 (vb (decide (v17 < a1.length))) .n)))) ?_
  refine q1 ?_
  refine tc h (fun c18 h => ?_) (fun c18 h => ?_)
  ·refine q2 ?_
   refine TriE.seqK h (fun (t : (List Int) × (List (Int × List (Arr2_Str × Int)))) => match t with | (v21, v22) => St.mk [(1, eS 7 eItem a1), (3, .ptr 0 0 0), (5, .ptr 1 0 0), (8, .ptr 3 0 0), (45, eS 7 eItem a1), (46, vi (a1.length : Int)), (47, vi v17), (11, .own 4 0 v21.length)] [some (.row 6 [.agg [eS 1 vt a0.Places, eS 1 vt a0.Technicians, eS 4 eRoad a0.Roads, eS 3 eGrand a0.Grands, vi a0.Change, vi a0.Lasts]]), some (.row 7 [.agg [vi a2.Kind, vi a2.From, vi a2.To, vt a2.Grand, vt a2.Place, vt a2.Who, vi a2.Deposit]]), some (.mp (mpE vi (eM eArr2_Str vi) v22)), some (.row 7 [.agg [eS 1 vt a0.Places, eS 1 vt a0.Technicians, eS 4 eRoad a0.Roads, eS 3 eGrand a0.Grands, vi a0.Change, vi a0.Lasts, .map 2]]), some (.row 1 (List.map vi v21))]) ?_ ?_
   ·rintro ⟨v21, v22⟩ h
    refine q6 ?_
    refine cK h fun c24 h => ?_
    refine jo 80 (.bin .add false 47 (ki 1)) (r_addn (i := v17) (j := 1) rfl rfl c24) ?_
    refine jk 1 (.d (.k4 (.k2 (.d (.k (.i 47 (vi ((v17 + 1 : Nat) : Int)) .n)))))) ?_
    exact Vs.intro sy ⟨(v17 + 1, v21, v22), rfl, h⟩
   intro k6 h
   refine q4 ?_
   refine sj ?_
   refine jo 49 (.iaddr 7 45 47) (ok_iaddr_m (j := v17) rfl rfl rfl c18) ?_
   refine jo 50 (.load true 7 49) (ok_load_fm (v := .agg [vi ((ix a1 v17).Kind), vi ((ix a1 v17).From), vi ((ix a1 v17).To), vt ((ix a1 v17).Grand), vt ((ix a1 v17).Place), vt ((ix a1 v17).Who), vi ((ix a1 v17).Deposit)]) rfl c18 rfl) ?_
   refine jko 2 (.d2 (.k4 (.k4 (.i 13 (.ptr 5 0 0) .n)))) [some (.row 6 [.agg [eS 1 vt a0.Places, eS 1 vt a0.Technicians, eS 4 eRoad a0.Roads, eS 3 eGrand a0.Grands, vi a0.Change, vi a0.Lasts]]), some (.row 7 [.agg [vi a2.Kind, vi a2.From, vi a2.To, vt a2.Grand, vt a2.Place, vt a2.Who, vi a2.Deposit]]), some (.mp (mpE vi (eM eArr2_Str vi) v19)), some (.row 7 [.agg [eS 1 vt a0.Places, eS 1 vt a0.Technicians, eS 4 eRoad a0.Roads, eS 3 eGrand a0.Grands, vi a0.Change, vi a0.Lasts, .map 2]]), some (.row 1 (List.map vi v18)), some (.row 7 [.agg [vi ((ix a1 v17).Kind), vi ((ix a1 v17).From), vi ((ix a1 v17).To), vt ((ix a1 v17).Grand), vt ((ix a1 v17).Place), vt ((ix a1 v17).Who), vi ((ix a1 v17).Deposit)]])] ?_
   refine sj ?_
   refine rk 9 (.k4 (.d (.k4 (.i 51 (.own 4 0 v18.length) (.i 53 (vi ((ix a1 v17).From)) (.i 55 (vi ((ix a1 v17).To)) (.i 57 (vi ((ix a1 v17).To)) (.i 59 (vi a0.Change) .n)))))))) ?_
   refine cK h fun c19 h => ?_
   refine jo 60 (.bin .add false 57 59) (r_add rfl rfl c19) ?_
   refine rko 1 (.d (.k4 (.k4 (.k (.i 61 (.own 6 0 3) .n))))) [some (.row 6 [.agg [eS 1 vt a0.Places, eS 1 vt a0.Technicians, eS 4 eRoad a0.Roads, eS 3 eGrand a0.Grands, vi a0.Change, vi a0.Lasts]]), some (.row 7 [.agg [vi a2.Kind, vi a2.From, vi a2.To, vt a2.Grand, vt a2.Place, vt a2.Who, vi a2.Deposit]]), some (.mp (mpE vi (eM eArr2_Str vi) v19)), some (.row 7 [.agg [eS 1 vt a0.Places, eS 1 vt a0.Technicians, eS 4 eRoad a0.Roads, eS 3 eGrand a0.Grands, vi a0.Change, vi a0.Lasts, .map 2]]), some (.row 1 (List.map vi v18)), some (.row 7 [.agg [vi ((ix a1 v17).Kind), vi ((ix a1 v17).From), vi ((ix a1 v17).To), vt ((ix a1 v17).Grand), vt ((ix a1 v17).Place), vt ((ix a1 v17).Who), vi ((ix a1 v17).Deposit)]]), some (.row 1 [vi ((ix a1 v17).From), vi ((ix a1 v17).To), vi (((ix a1 v17).To) + a0.Change)])] ?_
   refine cK h fun c20 h => ?_
   refine jx 62 (.app 1 8 51 61) _ (ok_app_own (l := v18) (l2 := ([(ix a1 v17).From, (ix a1 v17).To, ((ix a1 v17).To) + a0.Change] : List Int)) (e := vi) (u := .own 6 0 3) rfl rfl rfl rfl rfl c20) rfl rfl ?_
   refine jk 1 (.d (.k4 (.k4 (.i 11 (.own 7 0 ((v18 ++ ([(ix a1 v17).From, (ix a1 v17).To, ((ix a1 v17).To) + a0.Change] : List Int)).length)) .n)))) ?_
   refine sj ?_
   refine rk 5 (.k4 (.k4 (.k (.i 64 (.ptr 3 0 0) (.i 66 (vt ((ix a1 v17).Place)) (.i 68 (vt a2.Place) .n)))))) ?_
   refine bK h fun y20 hy20 h => ?_
   refine jco (.tup [vi y20.1, vb y20.2.1]) 69 [64, 66, 68, (ki 1)] (diary_plan_distance_ok n a0.Places a0.Technicians a0.Roads a0.Grands a0.Change a0.Lasts v19 ((ix a1 v17).Place) a2.Place 1 y20 hy20) [3, 2] rfl (.cons rfl (.same (mp_ren vi_frz (eM_frz eArr2_Str vi) _ _) .nil)) (.cons rfl (.same (mp_ren vi_frz (eM_frz eArr2_Str vi) _ _) .nil)) rfl ?_
   refine jk 5 (.d (.k4 (.k4 (.k (.i 14 (vi y20.1) (.i 15 (vb y20.2.1) .n)))))) ?_
   refine sk (.k4 (.k4 (.k2 (.i 72 (vb y20.2.1) .n)))) ?_
   refine tc h (fun c21 h => ?_) (fun c21 h => ?_)
   ·refine q6 ?_
    refine rk 4 (.k4 (.k3 (.i 73 (.own 7 0 ((v18 ++ ([(ix a1 v17).From, (ix a1 v17).To, ((ix a1 v17).To) + a0.Change] : List Int)).length)) (.i 75 (vi ((ix a1 v17).To)) (.i 76 (vi y20.1) .n))))) ?_
    refine cK h fun c22 h => ?_
    refine jo 77 (.bin .add false 75 76) (r_add rfl rfl c22) ?_
    refine rko 1 (.d (.k4 (.k4 (.i 78 (.own 8 0 1) .n)))) [some (.row 6 [.agg [eS 1 vt a0.Places, eS 1 vt a0.Technicians, eS 4 eRoad a0.Roads, eS 3 eGrand a0.Grands, vi a0.Change, vi a0.Lasts]]), some (.row 7 [.agg [vi a2.Kind, vi a2.From, vi a2.To, vt a2.Grand, vt a2.Place, vt a2.Who, vi a2.Deposit]]), some (.mp (mpE vi (eM eArr2_Str vi) y20.2.2)), some (.row 7 [.agg [eS 1 vt a0.Places, eS 1 vt a0.Technicians, eS 4 eRoad a0.Roads, eS 3 eGrand a0.Grands, vi a0.Change, vi a0.Lasts, .map 2]]), none, some (.row 7 [.agg [vi ((ix a1 v17).Kind), vi ((ix a1 v17).From), vi ((ix a1 v17).To), vt ((ix a1 v17).Grand), vt ((ix a1 v17).Place), vt ((ix a1 v17).Who), vi ((ix a1 v17).Deposit)]]), some (.row 1 [vi ((ix a1 v17).From), vi ((ix a1 v17).To), vi (((ix a1 v17).To) + a0.Change)]), some (.row 1 (List.map vi (v18 ++ ([(ix a1 v17).From, (ix a1 v17).To, ((ix a1 v17).To) + a0.Change] : List Int)))), some (.row 1 [vi (((ix a1 v17).To) + y20.1)])] ?_
    refine cK h fun c23 h => ?_
    refine jx 79 (.app 1 8 73 78) _ (ok_app_own (l := (v18 ++ ([(ix a1 v17).From, (ix a1 v17).To, ((ix a1 v17).To) + a0.Change] : List Int))) (l2 := ([((ix a1 v17).To) + y20.1] : List Int)) (e := vi) (u := .own 8 0 1) rfl rfl rfl rfl rfl c23) rfl rfl ?_
    refine jk 1 (.d (.k4 (.k3 (.i 11 (.own 9 0 (((v18 ++ ([(ix a1 v17).From, (ix a1 v17).To, ((ix a1 v17).To) + a0.Change] : List Int)) ++ ([((ix a1 v17).To) + y20.1] : List Int)).length)) .n)))) ?_
    exact Vs.intro (sc [0, 1, 2, 3, 9] (by decide) (by kernel_rfl) (.cons rfl (.cons rfl (obRen_mp vi_frz (eM_frz eArr2_Str vi) rfl (.cons rfl (obRen_row vi_frz rfl .nil))))) rfl rfl) ⟨(((v18 ++ ([(ix a1 v17).From, (ix a1 v17).To, ((ix a1 v17).To) + a0.Change] : List Int)) ++ ([((ix a1 v17).To) + y20.1] : List Int)), y20.2.2), rfl, h⟩
   refine q2 ?_
   exact Vs.intro (sc [0, 1, 2, 3, 7] (by decide) (by kernel_rfl) (.cons rfl (.cons rfl (obRen_mp vi_frz (eM_frz eArr2_Str vi) rfl (.cons rfl (obRen_row vi_frz rfl .nil))))) rfl rfl) ⟨((v18 ++ ([(ix a1 v17).From, (ix a1 v17).To, ((ix a1 v17).To) + a0.Change] : List Int)), y20.2.2), rfl, h⟩
  refine q5 ?_
  exact Vs.intro (sc [1, 2, 3, 4] (by decide) (by kernel_rfl) (.cons rfl (obRen_mp vi_frz (eM_frz eArr2_Str vi) rfl (.cons rfl (obRen_row vi_frz rfl .nil)))) rfl rfl) ⟨(v18, v19), rfl, h⟩
 intro k1 k5 h
 refine q6 ?_
 refine rk 2 (.k3 (.i 23 (.agg [eS 1 vt a0.Places, eS 1 vt a0.Technicians, eS 4 eRoad a0.Roads, eS 3 eGrand a0.Grands, vi a0.Change, vi a0.Lasts]) (.i 24 (eS 7 eItem a1) .n))) ?_
 refine bK h fun y1 hy1 h => ?_
 rcases y1 with y1 | y1
 ·dsimp only at h
  refine jc 25 [23, 24] (diary_read_ok n a0 a1 (Sum.inl y1) hy1) ?_
  refine jk 5 (.d (.k3 (.i 8 (.p (.pointer none)) (.i 9 (vi y1) .n)))) ?_
  exact Vs.intro Sees.refl (.inl ⟨y1, rfl, h⟩)
 dsimp only at h
 refine jco (.tup [.ptr 3 0 0, vi y1.1]) 25 [23, 24] (diary_read_ok n a0 a1 (Sum.inr y1) hy1) [] rfl ObsRen.nil (.same (mp_ren vi_frz (eM_frz eArr2_Str vi) _ _) (.cons rfl .nil)) rfl ?_
 refine jk 5 (.d (.k3 (.i 8 (.ptr 3 0 0) (.i 9 (vi y1.1) .n)))) ?_
 exact Vs.intro Sees.refl (.inr ⟨(y1.1, y1.2), rfl, h⟩)
theorem diary_CheckWindows_ok (n : Nat) (a0 : List Window) (r : Int) (h : diary_CheckWindows n a0 = some r) : FnL Tryz.prog 105 [eS 2 eWindow a0] [] (vi r) [] := by
 dsimp only [diary_CheckWindows] at h
 refine fo [2] Tryz.call105 Tryz.func105 rfl ?_
 refine sk .a ?_
 refine q1 ?_
 refine sj ?_
 refine rk 1 (.k (.i 5 (eS 2 eWindow a0) .n)) ?_
 refine jo 6 (.len 0 5) (ok_len_m rfl) ?_
 refine jo 7 (.bin .gtr false 6 (ki 60)) (n_gtr (i := a0.length) (j := 60) rfl rfl) ?_
 refine jf (.d2 (.k (.i 7 (vb (decide (60 < a0.length))) .n))) ?_
 refine tc h (fun c1 h => ?_) (fun c1 h => ?_)
 ·refine sk (.i 2 (vi 8) .n) ?_
  refine q3 ?_
  have h := si h
  subst h
  exact DoneS.ret Sees.refl rfl rfl
 refine q2 ?_
 refine TriE.seqK h (fun (_ : Unit) => St.mk [] []) ?_ ?_
 ·rintro ⟨⟩ h
  refine sk (.i 2 (vi 0) .n) ?_
  refine q3 ?_
  have h := si h
  subst h
  exact DoneS.ret Sees.refl rfl rfl
 intro k1 h
 refine sj ?_
 refine rk 1 (.i 8 (eS 2 eWindow a0) .n) ?_
 refine jo 9 (.len 0 8) (ok_len_m rfl) ?_
 refine jk 1 (.d (.k (.i 9 (vi (a0.length : Int)) (.i 10 (vi 0) .n)))) ?_
 refine q4 ?_
 refine ts (.k2 (.i 10 (vi 0) .n)) ?_
 refine TriE.loopN h (fun (v3 : Nat) => St.mk [(8, eS 2 eWindow a0), (9, vi (a0.length : Int)), (10, vi v3)] []) rfl ?_
 clear h
 rintro back v3 h
 dsimp only [diary_CheckWindows_L1] at h
 refine sj ?_
 refine jo 11 (.bin .lss false 10 9) (n_lss (i := v3) (j := a0.length) rfl rfl) ?_
 refine jf (.d (.k3 (.i 11 (vb (decide (v3 < a0.length))) .n))) ?_
 refine q1 ?_
 refine tc h (fun c2 h => ?_) (fun c2 h => ?_)
 ·refine q2 ?_
  refine q7 ?_
  refine sj ?_
  refine jo 12 (.iaddr 2 8 10) (ok_iaddr_m (j := v3) rfl rfl rfl c2) ?_
  refine jo 13 (.load true 2 12) (ok_load_fm (v := .agg [vi ((ix a0 v3).From), vi ((ix a0 v3).To)]) rfl c2 rfl) ?_
  refine jko 2 (.d2 (.k3 (.i 4 (.ptr 0 0 0) .n))) [some (.row 2 [.agg [vi ((ix a0 v3).From), vi ((ix a0 v3).To)]])] ?_
  refine q4 ?_
  refine sj ?_
  refine rk 2 (.k4 (.i 16 (vi ((ix a0 v3).From)) .n)) ?_
  refine bK h fun y4 hy4 h => ?_
  refine jc 17 [16, (ki 0), (ki 1000)] (diary_within_ok n ((ix a0 v3).From) 0 1000 y4 hy4) ?_
  refine rk 2 (.d (.k4 (.i 19 (vb (!((decide (0 ≤ ((ix a0 v3).From))) && (decide (((ix a0 v3).From) ≤ 1000))))) .n))) ?_
  refine gj (.ptr 0 0 1) 20 (.faddr 1 4) 19 false rfl ?_
  refine gk (vi ((ix a0 v3).To)) 21 (.load false 1 20) 19 false rfl (fun hg => (.cons hg .nil)) ?_
  refine bK h fun y5 hy5 h => ?_
  refine gc 22 [21, (ki 0), (ki 1000)] 19 false rfl (fun hg => diary_within_ok n ((ix a0 v3).To) 0 1000 y5 (gcall_some hy5 hg)) (fun hg => (.cons rfl (.cons hg (.cons rfl (.cons rfl .nil))))) (fun hg => by kernel_rfl) ?_
  refine gk (vb (!((decide (0 ≤ ((ix a0 v3).To))) && (decide (((ix a0 v3).To) ≤ 1000))))) 23 (.un .not 22) 19 false rfl (fun hg => (.cons hg .nil)) ?_
  refine po 24 19 23 rfl rfl ?_
  refine jk 1 (.d4 (.d (.k4 (.i 14 (vb ((!((decide (0 ≤ ((ix a0 v3).From))) && (decide (((ix a0 v3).From) ≤ 1000)))) || (!((decide (0 ≤ ((ix a0 v3).To))) && (decide (((ix a0 v3).To) ≤ 1000)))))) .n)))) ?_
  refine tc h (fun c3 h => ?_) (fun c3 h => ?_)
  ·refine sk (.i 2 (vi 2) .n) ?_
   refine q3 ?_
   have h := si h
   subst h
   exact DoneS.ret (S' := ⟨[(2, vi 2)], []⟩) (sc [] (by decide) (by kernel_rfl) ObRen.nil rfl rfl) rfl rfl
  refine sk (.k3 (.i 25 (vb (decide (((ix a0 v3).To) ≤ ((ix a0 v3).From)))) .n)) ?_
  refine tc h (fun c4 h => ?_) (fun c4 h => ?_)
  ·refine sk (.i 2 (vi 9) .n) ?_
   refine q3 ?_
   have h := si h
   subst h
   exact DoneS.ret (S' := ⟨[(2, vi 9)], []⟩) (sc [] (by decide) (by kernel_rfl) ObRen.nil rfl rfl) rfl rfl
  refine q2 ?_
  refine q6 ?_
  refine cK h fun c5 h => ?_
  refine jo 31 (.bin .add false 10 (ki 1)) (r_addn (i := v3) (j := 1) rfl rfl c5) ?_
  refine jk 1 (.d (.k2 (.i 10 (vi ((v3 + 1 : Nat) : Int)) .n))) ?_
  exact Vs.intro (sc [] (by decide) (by kernel_rfl) ObRen.nil rfl rfl) ⟨(v3 + 1), rfl, h⟩
 refine q5 ?_
 exact Vs.intro sy ⟨(), rfl, h⟩
theorem math_bits_Mul64_ok (n : Nat) (a0 : Int) (a1 : Int) (r : Unit) (h : math_bits_Mul64 n a0 a1 = some r) : FnL Tryz.prog 252 [vk .u64 a0, vk .u64 a1] [] (.tup [vk .u64 (IntKind.u64.wrap ((IntKind.u64.wrap ((IntKind.u64.wrap ((Int.fdiv a0 (2 ^ (min 32 64))) * (Int.fdiv a1 (2 ^ (min 32 64))))) + (Int.fdiv (IntKind.u64.wrap ((IntKind.u64.wrap ((Int.fdiv a0 (2 ^ (min 32 64))) * (iAnd .u64 a1 4294967295))) + (Int.fdiv (IntKind.u64.wrap ((iAnd .u64 a0 4294967295) * (iAnd .u64 a1 4294967295))) (2 ^ (min 32 64))))) (2 ^ (min 32 64))))) + (Int.fdiv (IntKind.u64.wrap ((iAnd .u64 (IntKind.u64.wrap ((IntKind.u64.wrap ((Int.fdiv a0 (2 ^ (min 32 64))) * (iAnd .u64 a1 4294967295))) + (Int.fdiv (IntKind.u64.wrap ((iAnd .u64 a0 4294967295) * (iAnd .u64 a1 4294967295))) (2 ^ (min 32 64))))) 4294967295) + (IntKind.u64.wrap ((iAnd .u64 a0 4294967295) * (Int.fdiv a1 (2 ^ (min 32 64))))))) (2 ^ (min 32 64))))), vk .u64 (IntKind.u64.wrap (a0 * a1))]) [] := by
 dsimp only [math_bits_Mul64] at h
 refine fo [4, 5] Tryz.call252 Tryz.func252 rfl ?_
 refine sk .a ?_
 refine sk (.k2 (.i 6 (vk .u64 (iAnd .u64 a0 4294967295)) .n)) ?_
 refine sk (.k3 (.i 7 (vk .u64 (Int.fdiv a0 (2 ^ (min 32 64)))) .n)) ?_
 refine sk (.k4 (.i 8 (vk .u64 (iAnd .u64 a1 4294967295)) .n)) ?_
 refine sk (.k4 (.k (.i 9 (vk .u64 (Int.fdiv a1 (2 ^ (min 32 64)))) .n))) ?_
 refine sk (.k4 (.k2 (.i 10 (vk .u64 (IntKind.u64.wrap ((iAnd .u64 a0 4294967295) * (iAnd .u64 a1 4294967295)))) .n))) ?_
 refine sk (.k4 (.d (.k (.i 11 (vk .u64 (IntKind.u64.wrap ((IntKind.u64.wrap ((Int.fdiv a0 (2 ^ (min 32 64))) * (iAnd .u64 a1 4294967295))) + (Int.fdiv (IntKind.u64.wrap ((iAnd .u64 a0 4294967295) * (iAnd .u64 a1 4294967295))) (2 ^ (min 32 64)))))) .n)))) ?_
 refine sk (.k4 (.k2 (.i 12 (vk .u64 (iAnd .u64 (IntKind.u64.wrap ((IntKind.u64.wrap ((Int.fdiv a0 (2 ^ (min 32 64))) * (iAnd .u64 a1 4294967295))) + (Int.fdiv (IntKind.u64.wrap ((iAnd .u64 a0 4294967295) * (iAnd .u64 a1 4294967295))) (2 ^ (min 32 64))))) 4294967295)) .n))) ?_
 refine sk (.k4 (.k (.d (.k (.i 13 (vk .u64 (Int.fdiv (IntKind.u64.wrap ((IntKind.u64.wrap ((Int.fdiv a0 (2 ^ (min 32 64))) * (iAnd .u64 a1 4294967295))) + (Int.fdiv (IntKind.u64.wrap ((iAnd .u64 a0 4294967295) * (iAnd .u64 a1 4294967295))) (2 ^ (min 32 64))))) (2 ^ (min 32 64)))) .n))))) ?_
 refine sk (.k2 (.d (.k2 (.d (.k (.i 12 (vk .u64 (IntKind.u64.wrap ((iAnd .u64 (IntKind.u64.wrap ((IntKind.u64.wrap ((Int.fdiv a0 (2 ^ (min 32 64))) * (iAnd .u64 a1 4294967295))) + (Int.fdiv (IntKind.u64.wrap ((iAnd .u64 a0 4294967295) * (iAnd .u64 a1 4294967295))) (2 ^ (min 32 64))))) 4294967295) + (IntKind.u64.wrap ((iAnd .u64 a0 4294967295) * (Int.fdiv a1 (2 ^ (min 32 64)))))))) .n)))))) ?_
 refine sk (.k2 (.i 4 (vk .u64 (IntKind.u64.wrap ((IntKind.u64.wrap ((IntKind.u64.wrap ((Int.fdiv a0 (2 ^ (min 32 64))) * (Int.fdiv a1 (2 ^ (min 32 64))))) + (Int.fdiv (IntKind.u64.wrap ((IntKind.u64.wrap ((Int.fdiv a0 (2 ^ (min 32 64))) * (iAnd .u64 a1 4294967295))) + (Int.fdiv (IntKind.u64.wrap ((iAnd .u64 a0 4294967295) * (iAnd .u64 a1 4294967295))) (2 ^ (min 32 64))))) (2 ^ (min 32 64))))) + (Int.fdiv (IntKind.u64.wrap ((iAnd .u64 (IntKind.u64.wrap ((IntKind.u64.wrap ((Int.fdiv a0 (2 ^ (min 32 64))) * (iAnd .u64 a1 4294967295))) + (Int.fdiv (IntKind.u64.wrap ((iAnd .u64 a0 4294967295) * (iAnd .u64 a1 4294967295))) (2 ^ (min 32 64))))) 4294967295) + (IntKind.u64.wrap ((iAnd .u64 a0 4294967295) * (Int.fdiv a1 (2 ^ (min 32 64))))))) (2 ^ (min 32 64)))))) .n)) ?_
 refine sk (.d2 (.k (.i 5 (vk .u64 (IntKind.u64.wrap (a0 * a1))) .n))) ?_
 refine q3 ?_
 have h := si h
 subst h
 exact DoneS.ret Sees.refl rfl rfl
theorem math_bits_Mul_ok (n : Nat) (a0 : Int) (a1 : Int) (r : Unit) (h : math_bits_Mul n a0 a1 = some r) : FnL Tryz.prog 215 [vk .u64 a0, vk .u64 a1] [] (.tup [vk .u64 (IntKind.u64.wrap ((IntKind.u64.wrap ((IntKind.u64.wrap ((Int.fdiv a0 (2 ^ (min 32 64))) * (Int.fdiv a1 (2 ^ (min 32 64))))) + (Int.fdiv (IntKind.u64.wrap ((IntKind.u64.wrap ((Int.fdiv a0 (2 ^ (min 32 64))) * (iAnd .u64 a1 4294967295))) + (Int.fdiv (IntKind.u64.wrap ((iAnd .u64 a0 4294967295) * (iAnd .u64 a1 4294967295))) (2 ^ (min 32 64))))) (2 ^ (min 32 64))))) + (Int.fdiv (IntKind.u64.wrap ((iAnd .u64 (IntKind.u64.wrap ((IntKind.u64.wrap ((Int.fdiv a0 (2 ^ (min 32 64))) * (iAnd .u64 a1 4294967295))) + (Int.fdiv (IntKind.u64.wrap ((iAnd .u64 a0 4294967295) * (iAnd .u64 a1 4294967295))) (2 ^ (min 32 64))))) 4294967295) + (IntKind.u64.wrap ((iAnd .u64 a0 4294967295) * (Int.fdiv a1 (2 ^ (min 32 64))))))) (2 ^ (min 32 64))))), vk .u64 (IntKind.u64.wrap (a0 * a1))]) [] := by
 dsimp only [math_bits_Mul] at h
 refine fo [4, 5] Tryz.call215 Tryz.func215 rfl ?_
 refine sk .a ?_
 refine q1 ?_
 refine TriE.cond (b := false) rfl (fun c1 => ?_) (fun c1 => ?_)
 ·cases c1
 refine q2 ?_
 refine sj ?_
 refine rk 2 (.i 23 (vk .u64 a0) (.i 24 (vk .u64 a1) .n)) ?_
 refine bK h fun y1 hy1 h => ?_
 refine jc 25 [23, 24] (math_bits_Mul64_ok n a0 a1 y1 hy1) ?_
 refine jk 5 (.i 8 (vk .u64 (IntKind.u64.wrap ((IntKind.u64.wrap ((IntKind.u64.wrap ((Int.fdiv a0 (2 ^ (min 32 64))) * (Int.fdiv a1 (2 ^ (min 32 64))))) + (Int.fdiv (IntKind.u64.wrap ((IntKind.u64.wrap ((Int.fdiv a0 (2 ^ (min 32 64))) * (iAnd .u64 a1 4294967295))) + (Int.fdiv (IntKind.u64.wrap ((iAnd .u64 a0 4294967295) * (iAnd .u64 a1 4294967295))) (2 ^ (min 32 64))))) (2 ^ (min 32 64))))) + (Int.fdiv (IntKind.u64.wrap ((iAnd .u64 (IntKind.u64.wrap ((IntKind.u64.wrap ((Int.fdiv a0 (2 ^ (min 32 64))) * (iAnd .u64 a1 4294967295))) + (Int.fdiv (IntKind.u64.wrap ((iAnd .u64 a0 4294967295) * (iAnd .u64 a1 4294967295))) (2 ^ (min 32 64))))) 4294967295) + (IntKind.u64.wrap ((iAnd .u64 a0 4294967295) * (Int.fdiv a1 (2 ^ (min 32 64))))))) (2 ^ (min 32 64)))))) (.i 9 (vk .u64 (IntKind.u64.wrap (a0 * a1))) .n)) ?_
 refine sk (.i 4 (vk .u64 (IntKind.u64.wrap ((IntKind.u64.wrap ((IntKind.u64.wrap ((Int.fdiv a0 (2 ^ (min 32 64))) * (Int.fdiv a1 (2 ^ (min 32 64))))) + (Int.fdiv (IntKind.u64.wrap ((IntKind.u64.wrap ((Int.fdiv a0 (2 ^ (min 32 64))) * (iAnd .u64 a1 4294967295))) + (Int.fdiv (IntKind.u64.wrap ((iAnd .u64 a0 4294967295) * (iAnd .u64 a1 4294967295))) (2 ^ (min 32 64))))) (2 ^ (min 32 64))))) + (Int.fdiv (IntKind.u64.wrap ((iAnd .u64 (IntKind.u64.wrap ((IntKind.u64.wrap ((Int.fdiv a0 (2 ^ (min 32 64))) * (iAnd .u64 a1 4294967295))) + (Int.fdiv (IntKind.u64.wrap ((iAnd .u64 a0 4294967295) * (iAnd .u64 a1 4294967295))) (2 ^ (min 32 64))))) 4294967295) + (IntKind.u64.wrap ((iAnd .u64 a0 4294967295) * (Int.fdiv a1 (2 ^ (min 32 64))))))) (2 ^ (min 32 64)))))) (.i 5 (vk .u64 (IntKind.u64.wrap (a0 * a1))) .n)) ?_
 refine q3 ?_
 have h := si h
 subst h
 exact DoneS.ret Sees.refl rfl rfl
set_option maxHeartbeats 1000000 in
theorem slices_Repeat_int_ok (n : Nat) (a0 : List Int) (a1 : Int) (r : (List Int)) (h : slices_Repeat_int n a0 a1 = some r) : FnL Tryz.prog 155 [.own 0 0 a0.length, vi a1] [some (.row 1 (List.map vi a0))] (.own 1 0 ((List.replicate ((IntKind.u64.wrap ((IntKind.u64.wrap (a0.length : Int)) * (IntKind.u64.wrap a1))).toNat) (0 : Int)).length)) [some (.row 1 (List.map vi a0)), some (.row 1 (List.map vi r))] := by
 dsimp only [slices_Repeat_int] at h
 refine fob [4] Tryz.call155 Tryz.func155 rfl (.cons rfl .nil) ?_
 refine sk .a ?_
 refine q1 ?_
 refine sk (.k2 (.i 10 (vb (decide (a1 < (0 : Int)))) .n)) ?_
 refine tc h (fun c1 h => ?_) (fun c1 h => ?_)
 ·refine q6 ?_
  cases h
 refine q2 ?_
 refine sj ?_
 refine rk 5 (.k (.i 15 (vk .u64 (IntKind.u64.wrap (a0.length : Int))) (.i 17 (vk .u64 (IntKind.u64.wrap a1)) .n))) ?_
 refine bK h fun y1 hy1 h => ?_
 refine jc 18 [15, 17] (math_bits_Mul_ok n (IntKind.u64.wrap (a0.length : Int)) (IntKind.u64.wrap a1) y1 hy1) ?_
 refine jk 5 (.d (.k (.i 5 (vk .u64 (IntKind.u64.wrap ((IntKind.u64.wrap ((IntKind.u64.wrap ((Int.fdiv (IntKind.u64.wrap (a0.length : Int)) (2 ^ (min 32 64))) * (Int.fdiv (IntKind.u64.wrap a1) (2 ^ (min 32 64))))) + (Int.fdiv (IntKind.u64.wrap ((IntKind.u64.wrap ((Int.fdiv (IntKind.u64.wrap (a0.length : Int)) (2 ^ (min 32 64))) * (iAnd .u64 (IntKind.u64.wrap a1) 4294967295))) + (Int.fdiv (IntKind.u64.wrap ((iAnd .u64 (IntKind.u64.wrap (a0.length : Int)) 4294967295) * (iAnd .u64 (IntKind.u64.wrap a1) 4294967295))) (2 ^ (min 32 64))))) (2 ^ (min 32 64))))) + (Int.fdiv (IntKind.u64.wrap ((iAnd .u64 (IntKind.u64.wrap ((IntKind.u64.wrap ((Int.fdiv (IntKind.u64.wrap (a0.length : Int)) (2 ^ (min 32 64))) * (iAnd .u64 (IntKind.u64.wrap a1) 4294967295))) + (Int.fdiv (IntKind.u64.wrap ((iAnd .u64 (IntKind.u64.wrap (a0.length : Int)) 4294967295) * (iAnd .u64 (IntKind.u64.wrap a1) 4294967295))) (2 ^ (min 32 64))))) 4294967295) + (IntKind.u64.wrap ((iAnd .u64 (IntKind.u64.wrap (a0.length : Int)) 4294967295) * (Int.fdiv (IntKind.u64.wrap a1) (2 ^ (min 32 64))))))) (2 ^ (min 32 64)))))) (.i 6 (vk .u64 (IntKind.u64.wrap ((IntKind.u64.wrap (a0.length : Int)) * (IntKind.u64.wrap a1)))) .n)))) ?_
 refine q1 ?_
 refine sj ?_
 refine rk 3 (.k (.d (.k (.i 23 (vb (decide ((0 : Int) < (IntKind.u64.wrap ((IntKind.u64.wrap ((IntKind.u64.wrap ((Int.fdiv (IntKind.u64.wrap (a0.length : Int)) (2 ^ (min 32 64))) * (Int.fdiv (IntKind.u64.wrap a1) (2 ^ (min 32 64))))) + (Int.fdiv (IntKind.u64.wrap ((IntKind.u64.wrap ((Int.fdiv (IntKind.u64.wrap (a0.length : Int)) (2 ^ (min 32 64))) * (iAnd .u64 (IntKind.u64.wrap a1) 4294967295))) + (Int.fdiv (IntKind.u64.wrap ((iAnd .u64 (IntKind.u64.wrap (a0.length : Int)) 4294967295) * (iAnd .u64 (IntKind.u64.wrap a1) 4294967295))) (2 ^ (min 32 64))))) (2 ^ (min 32 64))))) + (Int.fdiv (IntKind.u64.wrap ((iAnd .u64 (IntKind.u64.wrap ((IntKind.u64.wrap ((Int.fdiv (IntKind.u64.wrap (a0.length : Int)) (2 ^ (min 32 64))) * (iAnd .u64 (IntKind.u64.wrap a1) 4294967295))) + (Int.fdiv (IntKind.u64.wrap ((iAnd .u64 (IntKind.u64.wrap (a0.length : Int)) 4294967295) * (iAnd .u64 (IntKind.u64.wrap a1) 4294967295))) (2 ^ (min 32 64))))) 4294967295) + (IntKind.u64.wrap ((iAnd .u64 (IntKind.u64.wrap (a0.length : Int)) 4294967295) * (Int.fdiv (IntKind.u64.wrap a1) (2 ^ (min 32 64))))))) (2 ^ (min 32 64)))))))) .n)))) ?_
 refine gj (vk .u64 (IntKind.u64.wrap ((IntKind.u64.wrap (a0.length : Int)) * (IntKind.u64.wrap a1)))) 24 (.mov 6) 23 false rfl ?_
 refine gk (vb (decide ((9223372036854775807 : Int) < (IntKind.u64.wrap ((IntKind.u64.wrap (a0.length : Int)) * (IntKind.u64.wrap a1)))))) 25 (.bin .gtr false 24 (.c (.p (.int .u64 9223372036854775807)))) 23 false rfl (fun hg => (.cons hg (.cons rfl .nil))) ?_
 refine po 26 23 25 rfl rfl ?_
 refine jf (.d3 (.k2 (.i 26 (vb ((decide ((0 : Int) < (IntKind.u64.wrap ((IntKind.u64.wrap ((IntKind.u64.wrap ((Int.fdiv (IntKind.u64.wrap (a0.length : Int)) (2 ^ (min 32 64))) * (Int.fdiv (IntKind.u64.wrap a1) (2 ^ (min 32 64))))) + (Int.fdiv (IntKind.u64.wrap ((IntKind.u64.wrap ((Int.fdiv (IntKind.u64.wrap (a0.length : Int)) (2 ^ (min 32 64))) * (iAnd .u64 (IntKind.u64.wrap a1) 4294967295))) + (Int.fdiv (IntKind.u64.wrap ((iAnd .u64 (IntKind.u64.wrap (a0.length : Int)) 4294967295) * (iAnd .u64 (IntKind.u64.wrap a1) 4294967295))) (2 ^ (min 32 64))))) (2 ^ (min 32 64))))) + (Int.fdiv (IntKind.u64.wrap ((iAnd .u64 (IntKind.u64.wrap ((IntKind.u64.wrap ((Int.fdiv (IntKind.u64.wrap (a0.length : Int)) (2 ^ (min 32 64))) * (iAnd .u64 (IntKind.u64.wrap a1) 4294967295))) + (Int.fdiv (IntKind.u64.wrap ((iAnd .u64 (IntKind.u64.wrap (a0.length : Int)) 4294967295) * (iAnd .u64 (IntKind.u64.wrap a1) 4294967295))) (2 ^ (min 32 64))))) 4294967295) + (IntKind.u64.wrap ((iAnd .u64 (IntKind.u64.wrap (a0.length : Int)) 4294967295) * (Int.fdiv (IntKind.u64.wrap a1) (2 ^ (min 32 64))))))) (2 ^ (min 32 64))))))) || (decide ((9223372036854775807 : Int) < (IntKind.u64.wrap ((IntKind.u64.wrap (a0.length : Int)) * (IntKind.u64.wrap a1))))))) .n))) ?_
 refine tc h (fun c2 h => ?_) (fun c2 h => ?_)
 ·refine q6 ?_
  cases h
 refine q2 ?_
 refine sj ?_
 refine rk 1 (.k (.i 28 (vk .u64 (IntKind.u64.wrap ((IntKind.u64.wrap (a0.length : Int)) * (IntKind.u64.wrap a1)))) .n)) ?_
 refine cK h fun c3 h => ?_
 refine jo 29 (.conv .i64 28) (ok_conv64 rfl c3) ?_
 refine cK h fun c4 h => ?_
 refine cK h fun c5 h => ?_
 refine jx 30 (.mkslice 1 8 (.p (.int .i64 0)) 29 29) _ (ok_mkslice_n (e := vi) (v0 := (0 : Int)) (j := (IntKind.u64.wrap ((IntKind.u64.wrap (a0.length : Int)) * (IntKind.u64.wrap a1))).toNat) rfl rfl (nn_to c4) (nn_to c4) rfl rfl c5) rfl rfl ?_
 refine jk 1 (.d2 (.k (.i 7 (.own 1 0 ((List.replicate ((IntKind.u64.wrap ((IntKind.u64.wrap (a0.length : Int)) * (IntKind.u64.wrap a1))).toNat) (0 : Int)).length)) .n))) ?_
 refine sj ?_
 refine rk 2 (.d (.k (.i 31 (.own 1 0 ((List.replicate ((IntKind.u64.wrap ((IntKind.u64.wrap (a0.length : Int)) * (IntKind.u64.wrap a1))).toNat) (0 : Int)).length)) (.i 32 (.own 0 0 a0.length) .n)))) ?_
 refine cK h fun c6 h => ?_
 refine cK h fun c7 h => ?_
 refine RegJ.cpyM (d := some 33) (k := 1) (e := vi) (l := (List.replicate ((IntKind.u64.wrap ((IntKind.u64.wrap (a0.length : Int)) * (IntKind.u64.wrap a1))).toNat) (0 : Int))) (l2 := (List.take a0.length (List.drop 0 a0))) (nn := 1) (off := 0) (len := (List.replicate ((IntKind.u64.wrap ((IntKind.u64.wrap (a0.length : Int)) * (IntKind.u64.wrap a1))).toNat) (0 : Int)).length) (rd := [0]) (x := .t 31) (y := .t 32) (by kernel_rfl) rfl rfl rfl rfl (els_ow2 (e := vi) (l := a0) rfl rfl c7) (fun _ h => nomatch h) c6 ?_
 refine jq 1 [(7, .own 1 0 ((List.replicate ((IntKind.u64.wrap ((IntKind.u64.wrap (a0.length : Int)) * (IntKind.u64.wrap a1))).toNat) (0 : Int)).length)), (8, vi ((Nat.min (List.take a0.length (List.drop 0 a0)).length ((List.replicate ((IntKind.u64.wrap ((IntKind.u64.wrap (a0.length : Int)) * (IntKind.u64.wrap a1))).toNat) (0 : Int)).length) : Nat) : Int))] [some (.row 1 (List.map vi a0)), some (.row 1 (List.map vi (cpyP (List.replicate ((IntKind.u64.wrap ((IntKind.u64.wrap (a0.length : Int)) * (IntKind.u64.wrap a1))).toNat) (0 : Int)) 0 (List.take (Nat.min (List.take a0.length (List.drop 0 a0)).length ((List.replicate ((IntKind.u64.wrap ((IntKind.u64.wrap (a0.length : Int)) * (IntKind.u64.wrap a1))).toNat) (0 : Int)).length)) (List.take a0.length (List.drop 0 a0))))))] ?_
 refine TriE.seqK h (fun (v4 : (List Int)) => St.mk [(7, .own 1 0 ((List.replicate ((IntKind.u64.wrap ((IntKind.u64.wrap (a0.length : Int)) * (IntKind.u64.wrap a1))).toNat) (0 : Int)).length))] [some (.row 1 (List.map vi a0)), some (.row 1 (List.map vi v4))]) ?_ ?_
 ·rintro v4 h
  refine sk (.i 4 (.own 1 0 ((List.replicate ((IntKind.u64.wrap ((IntKind.u64.wrap (a0.length : Int)) * (IntKind.u64.wrap a1))).toNat) (0 : Int)).length)) .n) ?_
  refine q3 ?_
  have h := si h
  subst h
  exact DoneS.ret Sees.refl rfl rfl
 intro k1 h
 refine q4 ?_
 refine ts (.k (.i 8 (vi (((Nat.min (List.take a0.length (List.drop 0 a0)).length ((List.replicate ((IntKind.u64.wrap ((IntKind.u64.wrap (a0.length : Int)) * (IntKind.u64.wrap a1))).toNat) (0 : Int)).length)) : Nat) : Int)) .n)) ?_
 refine TriE.loopN h (fun (t : Nat × (List Int)) => match t with | (v2, v3) => St.mk [(7, .own 1 0 ((List.replicate ((IntKind.u64.wrap ((IntKind.u64.wrap (a0.length : Int)) * (IntKind.u64.wrap a1))).toNat) (0 : Int)).length)), (8, vi v2)] [some (.row 1 (List.map vi a0)), some (.row 1 (List.map vi v3))]) rfl ?_
 clear h
 rintro back ⟨v2, v3⟩ h
 dsimp only [slices_Repeat_int_L1] at h
 refine q1 ?_
 refine sj ?_
 refine rk 3 (.k2 (.i 34 (vi v2) (.i 36 (vi (((List.replicate ((IntKind.u64.wrap ((IntKind.u64.wrap (a0.length : Int)) * (IntKind.u64.wrap a1))).toNat) (0 : Int)).length : Nat) : Int)) .n))) ?_
 refine jo 37 (.bin .lss false 34 36) (n_lss (i := v2) (j := (List.replicate ((IntKind.u64.wrap ((IntKind.u64.wrap (a0.length : Int)) * (IntKind.u64.wrap a1))).toNat) (0 : Int)).length) rfl rfl) ?_
 refine jf (.d (.k2 (.i 37 (vb (decide (v2 < ((List.replicate ((IntKind.u64.wrap ((IntKind.u64.wrap (a0.length : Int)) * (IntKind.u64.wrap a1))).toNat) (0 : Int)).length)))) .n))) ?_
 refine tc h (fun c8 h => ?_) (fun c8 h => ?_)
 ·refine q2 ?_
  refine q4 ?_
  refine ts (.k2 .n) ?_
  refine TriE.draw (by kernel_rfl) ?_
  refine dk 3 (.i 40 (vi v2) (.i 39 (.own 1 0 ((List.replicate ((IntKind.u64.wrap ((IntKind.u64.wrap (a0.length : Int)) * (IntKind.u64.wrap a1))).toNat) (0 : Int)).length)) (.i 38 (vi v2) .a))) ?_
  refine dp 41 (.slc 1 39 (some 40) none none) (ok_slco_lo0 (i := v2) rfl rfl rfl rfl c8) ?_
  refine dk 2 (.i 43 (vi v2) (.i 42 (.own 1 0 ((List.replicate ((IntKind.u64.wrap ((IntKind.u64.wrap (a0.length : Int)) * (IntKind.u64.wrap a1))).toNat) (0 : Int)).length)) .a)) ?_
  refine cK h fun c9 h => ?_
  refine dp 44 (.slc 1 42 none (some 43) none) (ok_slco_hi (j := v2) rfl rfl rfl rfl c9) ?_
  refine cK h fun c10 h => ?_
  refine cK h fun c11 h => ?_
  refine RegD.op (OpD.cpyM (k := 1) (e := vi) (l := v3) (l2 := (List.take v2 (List.drop 0 v3))) (nn := 1) (off := v2) (len := ((List.replicate ((IntKind.u64.wrap ((IntKind.u64.wrap (a0.length : Int)) * (IntKind.u64.wrap a1))).toNat) (0 : Int)).length) - v2) (rd := [1]) (x := .t 41) (y := .t 44) (by kernel_rfl) (cy (I0 45 (.copy 1 41 44))) rfl rfl rfl rfl rfl (els_ow2 (e := vi) (l := v3) rfl rfl c11) (fun _ h => nomatch h) c10) ?_
  refine cK h fun c12 h => ?_
  refine dp 46 (.bin .add false 38 45) (r_addn (i := v2) (j := Nat.min (List.take v2 (List.drop 0 v3)).length (((List.replicate ((IntKind.u64.wrap ((IntKind.u64.wrap (a0.length : Int)) * (IntKind.u64.wrap a1))).toNat) (0 : Int)).length) - v2)) rfl rfl c12) ?_
  refine RegD.run 1 [(8, vi ((v2 + (Nat.min (List.take v2 (List.drop 0 v3)).length (((List.replicate ((IntKind.u64.wrap ((IntKind.u64.wrap (a0.length : Int)) * (IntKind.u64.wrap a1))).toNat) (0 : Int)).length) - v2)) : Nat) : Int)), (46, vi ((v2 + (Nat.min (List.take v2 (List.drop 0 v3)).length (((List.replicate ((IntKind.u64.wrap ((IntKind.u64.wrap (a0.length : Int)) * (IntKind.u64.wrap a1))).toNat) (0 : Int)).length) - v2)) : Nat) : Int)), (45, vi ((Nat.min (List.take v2 (List.drop 0 v3)).length (((List.replicate ((IntKind.u64.wrap ((IntKind.u64.wrap (a0.length : Int)) * (IntKind.u64.wrap a1))).toNat) (0 : Int)).length) - v2) : Nat) : Int)), (44, .own 1 0 v2), (43, vi v2), (42, .own 1 0 ((List.replicate ((IntKind.u64.wrap ((IntKind.u64.wrap (a0.length : Int)) * (IntKind.u64.wrap a1))).toNat) (0 : Int)).length)), (41, .own 1 v2 (((List.replicate ((IntKind.u64.wrap ((IntKind.u64.wrap (a0.length : Int)) * (IntKind.u64.wrap a1))).toNat) (0 : Int)).length) - v2)), (40, vi v2), (39, .own 1 0 ((List.replicate ((IntKind.u64.wrap ((IntKind.u64.wrap (a0.length : Int)) * (IntKind.u64.wrap a1))).toNat) (0 : Int)).length)), (38, vi v2), (7, .own 1 0 ((List.replicate ((IntKind.u64.wrap ((IntKind.u64.wrap (a0.length : Int)) * (IntKind.u64.wrap a1))).toNat) (0 : Int)).length)), (8, vi v2)] [some (.row 1 (List.map vi a0)), some (.row 1 (List.map vi (cpyP v3 v2 (List.take (Nat.min (List.take v2 (List.drop 0 v3)).length (((List.replicate ((IntKind.u64.wrap ((IntKind.u64.wrap (a0.length : Int)) * (IntKind.u64.wrap a1))).toNat) (0 : Int)).length) - v2)) (List.take v2 (List.drop 0 v3)))))), none, none, none, none, none, none, none, none, none, none] (by kernel_rfl) ?_
  refine dfi (.d4 (.d4 (.d2 (.k (.i 8 (vi ((v2 + (Nat.min (List.take v2 (List.drop 0 v3)).length (((List.replicate ((IntKind.u64.wrap ((IntKind.u64.wrap (a0.length : Int)) * (IntKind.u64.wrap a1))).toNat) (0 : Int)).length) - v2)) : Nat) : Int)) .n))))) [0, 1] (obRen_row vi_frz rfl (obRen_row vi_frz rfl .nil)) ?_
  exact Vs.intro sy ⟨(v2 + (Nat.min (List.take v2 (List.drop 0 v3)).length (((List.replicate ((IntKind.u64.wrap ((IntKind.u64.wrap (a0.length : Int)) * (IntKind.u64.wrap a1))).toNat) (0 : Int)).length) - v2)), (cpyP v3 v2 (List.take (Nat.min (List.take v2 (List.drop 0 v3)).length (((List.replicate ((IntKind.u64.wrap ((IntKind.u64.wrap (a0.length : Int)) * (IntKind.u64.wrap a1))).toNat) (0 : Int)).length) - v2)) (List.take v2 (List.drop 0 v3))))), rfl, h⟩
 refine q5 ?_
 exact Vs.intro sy ⟨v3, rfl, h⟩
set_option maxHeartbeats 1000000 in
theorem diary_schedule_ok (n : Nat) (a0 : List Window) (r : (List Int)) (h : diary_schedule n a0 = some r) : FnL Tryz.prog 106 [eS 2 eWindow a0] [] (.own 0 0 ((List.replicate ((IntKind.u64.wrap ((IntKind.u64.wrap ((([(-1)] : List Int).length : Nat) : Int)) * (IntKind.u64.wrap ((a0.length : Nat) : Int)))).toNat) (0 : Int)).length)) [some (.row 1 (List.map vi r))] := by
  dsimp only [diary_schedule] at h
  refine FnL.ofS (ts := [2]) Tryz.call106 Tryz.func106 rfl rfl (Nat.le_of_ble_eq_true rfl) (Nat.le_of_ble_eq_true rfl) (fun j h => absurd h (Nat.not_lt_zero j)) ?_
  show TriE _ _ _ _ _ (St.mk [(0, eS 2 eWindow a0)] []) _
  refine TriE.seq ?_
  refine TriE.run [(0, eS 2 eWindow a0)] [] (by kernel_rfl) ?_
  refine TriE.seq ?_
  refine TriE.regJ ?_
  refine RegJ.run 2 [(0, eS 2 eWindow a0), (8, .own 0 0 1), (9, eS 2 eWindow a0)] [some (.row 1 [vi (-1)])] (by kernel_rfl) ?_
  refine jv (vi ((a0.length : Nat) : Int)) (cz (I0 10 (.len 0 (.t 9))) (by kernel_rfl)) (ok_len_m rfl) rfl ?_
  refine bK h fun y1 hy1 h => ?_
  refine RegJ.op (Op1.call (y' := .own 1 0 ((List.replicate ((IntKind.u64.wrap ((IntKind.u64.wrap ((([(-1)] : List Int).length : Nat) : Int)) * (IntKind.u64.wrap ((a0.length : Nat) : Int)))).toNat) (0 : Int)).length)) (obx := [some (.row 1 [vi (-1)])]) (oby := [some (.row 1 (List.map vi ([(-1)] : List Int))), some (.row 1 (List.map vi y1))]) (ob2 := [some (.row 1 (List.map vi ([(-1)] : List Int))), some (.row 1 (List.map vi y1))]) _ _ (cz (I0 11 (.call 155 [(.t 8), (.t 10)])) (by kernel_rfl)) rfl (slices_Repeat_int_ok n ([(-1)] : List Int) ((a0.length : Nat) : Int) y1 hy1) [0] (by kernel_rfl) (.cons rfl (.cons rfl (.cons rfl .nil))) (by kernel_rfl) (by kernel_rfl) (.same (row_ren vi_frz _ _ _) .nil) (by kernel_rfl) (.same (row_ren vi_frz _ _ _) (.same (row_ren vi_frz _ _ _) .nil)) (by kernel_rfl)) ?_
  refine jrd 1 [(0, eS 2 eWindow a0), (3, .own 1 0 ((List.replicate ((IntKind.u64.wrap ((IntKind.u64.wrap ((([(-1)] : List Int).length : Nat) : Int)) * (IntKind.u64.wrap ((a0.length : Nat) : Int)))).toNat) (0 : Int)).length))] [some (.row 1 (List.map vi ([(-1)] : List Int))), some (.row 1 (List.map vi y1))] (by kernel_rfl) rfl ?_
  refine TriE.seqK h (fun (v16 : (List Int)) => St.mk [(3, .own 0 0 ((List.replicate ((IntKind.u64.wrap ((IntKind.u64.wrap ((([(-1)] : List Int).length : Nat) : Int)) * (IntKind.u64.wrap ((a0.length : Nat) : Int)))).toNat) (0 : Int)).length))] [some (.row 1 (List.map vi v16))]) ?_ ?_
  · rintro v16 h
    show TriE _ _ _ _ _ (St.mk [(3, .own 0 0 ((List.replicate ((IntKind.u64.wrap ((IntKind.u64.wrap ((([(-1)] : List Int).length : Nat) : Int)) * (IntKind.u64.wrap ((a0.length : Nat) : Int)))).toNat) (0 : Int)).length))] [some (.row 1 (List.map vi v16))]) _
    refine TriE.seq ?_
    refine TriE.run [(2, .own 0 0 ((List.replicate ((IntKind.u64.wrap ((IntKind.u64.wrap ((([(-1)] : List Int).length : Nat) : Int)) * (IntKind.u64.wrap ((a0.length : Nat) : Int)))).toNat) (0 : Int)).length))] [some (.row 1 (List.map vi v16))] (by kernel_rfl) ?_
    refine TriE.ret ?_
    have h := Option.some.inj h
    subst h
    exact DoneS.ret (S' := ⟨[(2, .own 0 0 ((List.replicate ((IntKind.u64.wrap ((IntKind.u64.wrap ((([(-1)] : List Int).length : Nat) : Int)) * (IntKind.u64.wrap ((a0.length : Nat) : Int)))).toNat) (0 : Int)).length))], [some (.row 1 (List.map vi v16))]⟩) Sees.refl rfl rfl
  intro k4 h
  refine TriE.seq ?_
  refine TriE.run [(0, eS 2 eWindow a0), (3, .own 1 0 ((List.replicate ((IntKind.u64.wrap ((IntKind.u64.wrap ((([(-1)] : List Int).length : Nat) : Int)) * (IntKind.u64.wrap ((a0.length : Nat) : Int)))).toNat) (0 : Int)).length)), (12, vi 0)] [some (.row 1 (List.map vi ([(-1)] : List Int))), some (.row 1 (List.map vi y1))] (by kernel_rfl) ?_
  refine TriE.block ?_
  refine TriE.sees (S' := ⟨[(0, eS 2 eWindow a0), (3, .own 0 0 ((List.replicate ((IntKind.u64.wrap ((IntKind.u64.wrap ((([(-1)] : List Int).length : Nat) : Int)) * (IntKind.u64.wrap ((a0.length : Nat) : Int)))).toNat) (0 : Int)).length)), (12, vi ((0 : Nat) : Int))], [some (.row 1 (List.map vi y1))]⟩) (sc [1] (by decide) (by kernel_rfl) (obRen_row vi_frz rfl .nil) rfl rfl) ?_
  refine TriE.loopN h (fun (t : Nat × (List Int)) => match t with | (v8, v9) => St.mk [(0, eS 2 eWindow a0), (3, .own 0 0 ((List.replicate ((IntKind.u64.wrap ((IntKind.u64.wrap ((([(-1)] : List Int).length : Nat) : Int)) * (IntKind.u64.wrap ((a0.length : Nat) : Int)))).toNat) (0 : Int)).length)), (12, vi ((v8 : Nat) : Int))] [some (.row 1 (List.map vi v9))]) rfl ?_
  clear h
  rintro back ⟨v8, v9⟩ h
  dsimp only [diary_schedule_L2] at h
  show TriE _ _ _ _ _ (St.mk [(0, eS 2 eWindow a0), (3, .own 0 0 ((List.replicate ((IntKind.u64.wrap ((IntKind.u64.wrap ((([(-1)] : List Int).length : Nat) : Int)) * (IntKind.u64.wrap ((a0.length : Nat) : Int)))).toNat) (0 : Int)).length)), (12, vi ((v8 : Nat) : Int))] [some (.row 1 (List.map vi v9))]) _
  refine TriE.seq ?_
  refine TriE.regJ ?_
  refine jv (vb (decide (v8 < 1000))) (cz (I0 13 (.bin .lss false (.t 12) (.c (.p (.int .i64 1000))))) (by kernel_rfl)) (n_lss (i := v8) (j := 1000) rfl rfl) rfl ?_
  refine jd [(0, eS 2 eWindow a0), (3, .own 0 0 ((List.replicate ((IntKind.u64.wrap ((IntKind.u64.wrap ((([(-1)] : List Int).length : Nat) : Int)) * (IntKind.u64.wrap ((a0.length : Nat) : Int)))).toNat) (0 : Int)).length)), (12, vi ((v8 : Nat) : Int)), (13, vb (decide (v8 < 1000)))] (by kernel_rfl) rfl ?_
  refine TriE.seq ?_
  refine TriE.cond (b := decide (v8 < 1000)) rfl (fun c1 => ?_) (fun c1 => ?_)
  · have h := cond_t h c1
    refine TriE.skip ?_
    refine TriE.seqK h (fun (v15 : (List Int)) => St.mk [(0, eS 2 eWindow a0), (3, .own 0 0 ((List.replicate ((IntKind.u64.wrap ((IntKind.u64.wrap ((([(-1)] : List Int).length : Nat) : Int)) * (IntKind.u64.wrap ((a0.length : Nat) : Int)))).toNat) (0 : Int)).length)), (12, vi ((v8 : Nat) : Int))] [some (.row 1 (List.map vi v15))]) ?_ ?_
    · rintro v15 h
      show TriE _ _ _ _ _ (St.mk [(0, eS 2 eWindow a0), (3, .own 0 0 ((List.replicate ((IntKind.u64.wrap ((IntKind.u64.wrap ((([(-1)] : List Int).length : Nat) : Int)) * (IntKind.u64.wrap ((a0.length : Nat) : Int)))).toNat) (0 : Int)).length)), (12, vi ((v8 : Nat) : Int))] [some (.row 1 (List.map vi v15))]) _
      refine TriE.regJ ?_
      refine cK h fun c12 h => ?_
      refine jv (vi ((v8 + 1 : Nat) : Int)) (cz (I0 61 (.bin .add false (.t 12) (.c (.p (.int .i64 1))))) (by kernel_rfl)) (r_addn (i := v8) (j := 1) rfl rfl c12) rfl ?_
      refine jrd 1 [(0, eS 2 eWindow a0), (3, .own 0 0 ((List.replicate ((IntKind.u64.wrap ((IntKind.u64.wrap ((([(-1)] : List Int).length : Nat) : Int)) * (IntKind.u64.wrap ((a0.length : Nat) : Int)))).toNat) (0 : Int)).length)), (12, vi ((v8 + 1 : Nat) : Int))] [some (.row 1 (List.map vi v15))] (by kernel_rfl) rfl ?_
      exact Vs.intro (sl (by kernel_rfl)) ⟨(v8 + 1, v15), rfl, h⟩
    intro k3 h
    refine TriE.block ?_
    refine TriE.seq ?_
    refine TriE.run [(0, eS 2 eWindow a0), (3, .own 0 0 ((List.replicate ((IntKind.u64.wrap ((IntKind.u64.wrap ((([(-1)] : List Int).length : Nat) : Int)) * (IntKind.u64.wrap ((a0.length : Nat) : Int)))).toNat) (0 : Int)).length)), (12, vi ((v8 : Nat) : Int)), (4, vi ((v8 : Nat) : Int))] [some (.row 1 (List.map vi v9))] (by kernel_rfl) ?_
    refine TriE.seq ?_
    refine TriE.run [(0, eS 2 eWindow a0), (3, .own 0 0 ((List.replicate ((IntKind.u64.wrap ((IntKind.u64.wrap ((([(-1)] : List Int).length : Nat) : Int)) * (IntKind.u64.wrap ((a0.length : Nat) : Int)))).toNat) (0 : Int)).length)), (12, vi ((v8 : Nat) : Int)), (4, vi ((v8 : Nat) : Int)), (5, vi (-1))] [some (.row 1 (List.map vi v9))] (by kernel_rfl) ?_
    refine TriE.seqK h (fun (v14 : Int) => St.mk [(0, eS 2 eWindow a0), (3, .own 0 0 ((List.replicate ((IntKind.u64.wrap ((IntKind.u64.wrap ((([(-1)] : List Int).length : Nat) : Int)) * (IntKind.u64.wrap ((a0.length : Nat) : Int)))).toNat) (0 : Int)).length)), (12, vi ((v8 : Nat) : Int)), (4, vi ((v8 : Nat) : Int)), (5, vi v14)] [some (.row 1 (List.map vi v9))]) ?_ ?_
    · rintro v14 h
      show TriE _ _ _ _ _ (St.mk [(0, eS 2 eWindow a0), (3, .own 0 0 ((List.replicate ((IntKind.u64.wrap ((IntKind.u64.wrap ((([(-1)] : List Int).length : Nat) : Int)) * (IntKind.u64.wrap ((a0.length : Nat) : Int)))).toNat) (0 : Int)).length)), (12, vi ((v8 : Nat) : Int)), (4, vi ((v8 : Nat) : Int)), (5, vi v14)] [some (.row 1 (List.map vi v9))]) _
      refine TriE.seq ?_
      refine TriE.run [(0, eS 2 eWindow a0), (3, .own 0 0 ((List.replicate ((IntKind.u64.wrap ((IntKind.u64.wrap ((([(-1)] : List Int).length : Nat) : Int)) * (IntKind.u64.wrap ((a0.length : Nat) : Int)))).toNat) (0 : Int)).length)), (12, vi ((v8 : Nat) : Int)), (4, vi ((v8 : Nat) : Int)), (5, vi v14), (56, vb (decide ((0 : Int) ≤ v14)))] [some (.row 1 (List.map vi v9))] (by kernel_rfl) ?_
      refine TriE.cond (b := decide ((0 : Int) ≤ v14)) rfl (fun c9 => ?_) (fun c9 => ?_)
      · have h := cond_t h c9
        refine TriE.regJ ?_
        refine RegJ.run 3 [(0, eS 2 eWindow a0), (3, .own 0 0 ((List.replicate ((IntKind.u64.wrap ((IntKind.u64.wrap ((([(-1)] : List Int).length : Nat) : Int)) * (IntKind.u64.wrap ((a0.length : Nat) : Int)))).toNat) (0 : Int)).length)), (12, vi ((v8 : Nat) : Int)), (57, .own 0 0 ((List.replicate ((IntKind.u64.wrap ((IntKind.u64.wrap ((([(-1)] : List Int).length : Nat) : Int)) * (IntKind.u64.wrap ((a0.length : Nat) : Int)))).toNat) (0 : Int)).length)), (58, vi v14), (59, vi ((v8 : Nat) : Int))] [some (.row 1 (List.map vi v9))] (by kernel_rfl) ?_
        refine cK h fun c10 h => ?_
        refine jv (.ptr 0 v14.toNat 0) (cz (I0 60 (.iaddr 1 (.t 57) (.t 58))) (by kernel_rfl)) (ok_iaddr_o0 (j := v14.toNat) rfl rfl rfl (inB_to c10) (inB_lt c10)) rfl ?_
        refine cK h fun c11 h => ?_
        refine je (.undef) [some (.row 1 (List.map vi (List.set v9 v14.toNat ((v8 : Nat) : Int))))] (cz (IN (.store 1 (.t 60) (.t 59))) (by kernel_rfl)) (ok_store_m (l := v9) (e := vi) (x' := ((v8 : Nat) : Int)) (u := vi ((v8 : Nat) : Int)) rfl rfl rfl c11 rfl rfl) rfl rfl rfl ?_
        refine jd [(0, eS 2 eWindow a0), (3, .own 0 0 ((List.replicate ((IntKind.u64.wrap ((IntKind.u64.wrap ((([(-1)] : List Int).length : Nat) : Int)) * (IntKind.u64.wrap ((a0.length : Nat) : Int)))).toNat) (0 : Int)).length)), (12, vi ((v8 : Nat) : Int))] (by kernel_rfl) rfl ?_
        exact Vs.intro Sees.refl ⟨(List.set v9 v14.toNat ((v8 : Nat) : Int)), rfl, h⟩
      have h := cond_f h c9
      refine TriE.skip ?_
      exact Vs.intro (sl (by kernel_rfl)) ⟨v9, rfl, h⟩
    intro k2 h
    refine TriE.seq ?_
    refine TriE.regJ ?_
    refine RegJ.run 1 [(0, eS 2 eWindow a0), (3, .own 0 0 ((List.replicate ((IntKind.u64.wrap ((IntKind.u64.wrap ((([(-1)] : List Int).length : Nat) : Int)) * (IntKind.u64.wrap ((a0.length : Nat) : Int)))).toNat) (0 : Int)).length)), (12, vi ((v8 : Nat) : Int)), (4, vi ((v8 : Nat) : Int)), (5, vi (-1)), (15, eS 2 eWindow a0)] [some (.row 1 (List.map vi v9))] (by kernel_rfl) ?_
    refine jv (vi ((a0.length : Nat) : Int)) (cz (I0 16 (.len 0 (.t 15))) (by kernel_rfl)) (ok_len_m rfl) rfl ?_
    refine jrd 1 [(0, eS 2 eWindow a0), (3, .own 0 0 ((List.replicate ((IntKind.u64.wrap ((IntKind.u64.wrap ((([(-1)] : List Int).length : Nat) : Int)) * (IntKind.u64.wrap ((a0.length : Nat) : Int)))).toNat) (0 : Int)).length)), (12, vi ((v8 : Nat) : Int)), (4, vi ((v8 : Nat) : Int)), (5, vi (-1)), (15, eS 2 eWindow a0), (16, vi ((a0.length : Nat) : Int)), (17, vi 0)] [some (.row 1 (List.map vi v9))] (by kernel_rfl) rfl ?_
    refine TriE.block ?_
    refine TriE.sees (S' := ⟨[(0, eS 2 eWindow a0), (3, .own 0 0 ((List.replicate ((IntKind.u64.wrap ((IntKind.u64.wrap ((([(-1)] : List Int).length : Nat) : Int)) * (IntKind.u64.wrap ((a0.length : Nat) : Int)))).toNat) (0 : Int)).length)), (12, vi ((v8 : Nat) : Int)), (4, vi ((v8 : Nat) : Int)), (5, vi (-1)), (15, eS 2 eWindow a0), (16, vi ((a0.length : Nat) : Int)), (17, vi ((0 : Nat) : Int))], [some (.row 1 (List.map vi v9))]⟩) (sl (by kernel_rfl)) ?_
    refine TriE.loopN h (fun (t : Int × Nat) => match t with | (v11, v12) => St.mk [(0, eS 2 eWindow a0), (3, .own 0 0 ((List.replicate ((IntKind.u64.wrap ((IntKind.u64.wrap ((([(-1)] : List Int).length : Nat) : Int)) * (IntKind.u64.wrap ((a0.length : Nat) : Int)))).toNat) (0 : Int)).length)), (12, vi ((v8 : Nat) : Int)), (4, vi ((v8 : Nat) : Int)), (5, vi v11), (15, eS 2 eWindow a0), (16, vi ((a0.length : Nat) : Int)), (17, vi ((v12 : Nat) : Int))] [some (.row 1 (List.map vi v9))]) rfl ?_
    clear h
    rintro back ⟨v11, v12⟩ h
    dsimp only [diary_schedule_L1] at h
    show TriE _ _ _ _ _ (St.mk [(0, eS 2 eWindow a0), (3, .own 0 0 ((List.replicate ((IntKind.u64.wrap ((IntKind.u64.wrap ((([(-1)] : List Int).length : Nat) : Int)) * (IntKind.u64.wrap ((a0.length : Nat) : Int)))).toNat) (0 : Int)).length)), (12, vi ((v8 : Nat) : Int)), (4, vi ((v8 : Nat) : Int)), (5, vi v11), (15, eS 2 eWindow a0), (16, vi ((a0.length : Nat) : Int)), (17, vi ((v12 : Nat) : Int))] [some (.row 1 (List.map vi v9))]) _
    refine TriE.seq ?_
    refine TriE.regJ ?_
    refine jv (vb (decide (v12 < a0.length))) (cz (I0 18 (.bin .lss false (.t 17) (.t 16))) (by kernel_rfl)) (n_lss (i := v12) (j := a0.length) rfl rfl) rfl ?_
    refine jd [(0, eS 2 eWindow a0), (3, .own 0 0 ((List.replicate ((IntKind.u64.wrap ((IntKind.u64.wrap ((([(-1)] : List Int).length : Nat) : Int)) * (IntKind.u64.wrap ((a0.length : Nat) : Int)))).toNat) (0 : Int)).length)), (12, vi ((v8 : Nat) : Int)), (4, vi ((v8 : Nat) : Int)), (5, vi v11), (15, eS 2 eWindow a0), (16, vi ((a0.length : Nat) : Int)), (17, vi ((v12 : Nat) : Int)), (18, vb (decide (v12 < a0.length)))] (by kernel_rfl) rfl ?_
    refine TriE.seq ?_
    refine TriE.cond (b := decide (v12 < a0.length)) rfl (fun c2 => ?_) (fun c2 => ?_)
    · have h := cond_t h c2
      refine TriE.skip ?_
      refine TriE.seqK h (fun (v13 : Int) => St.mk [(0, eS 2 eWindow a0), (3, .own 0 0 ((List.replicate ((IntKind.u64.wrap ((IntKind.u64.wrap ((([(-1)] : List Int).length : Nat) : Int)) * (IntKind.u64.wrap ((a0.length : Nat) : Int)))).toNat) (0 : Int)).length)), (12, vi ((v8 : Nat) : Int)), (4, vi ((v8 : Nat) : Int)), (15, eS 2 eWindow a0), (16, vi ((a0.length : Nat) : Int)), (17, vi ((v12 : Nat) : Int)), (5, vi v13)] [some (.row 1 (List.map vi v9))]) ?_ ?_
      · rintro v13 h
        show TriE _ _ _ _ _ (St.mk [(0, eS 2 eWindow a0), (3, .own 0 0 ((List.replicate ((IntKind.u64.wrap ((IntKind.u64.wrap ((([(-1)] : List Int).length : Nat) : Int)) * (IntKind.u64.wrap ((a0.length : Nat) : Int)))).toNat) (0 : Int)).length)), (12, vi ((v8 : Nat) : Int)), (4, vi ((v8 : Nat) : Int)), (15, eS 2 eWindow a0), (16, vi ((a0.length : Nat) : Int)), (17, vi ((v12 : Nat) : Int)), (5, vi v13)] [some (.row 1 (List.map vi v9))]) _
        refine TriE.regJ ?_
        refine cK h fun c8 h => ?_
        refine jv (vi ((v12 + 1 : Nat) : Int)) (cz (I0 54 (.bin .add false (.t 17) (.c (.p (.int .i64 1))))) (by kernel_rfl)) (r_addn (i := v12) (j := 1) rfl rfl c8) rfl ?_
        refine jrd 1 [(0, eS 2 eWindow a0), (3, .own 0 0 ((List.replicate ((IntKind.u64.wrap ((IntKind.u64.wrap ((([(-1)] : List Int).length : Nat) : Int)) * (IntKind.u64.wrap ((a0.length : Nat) : Int)))).toNat) (0 : Int)).length)), (12, vi ((v8 : Nat) : Int)), (4, vi ((v8 : Nat) : Int)), (15, eS 2 eWindow a0), (16, vi ((a0.length : Nat) : Int)), (5, vi v13), (17, vi ((v12 + 1 : Nat) : Int))] [some (.row 1 (List.map vi v9))] (by kernel_rfl) rfl ?_
        exact Vs.intro (sl (by kernel_rfl)) ⟨(v13, v12 + 1), rfl, h⟩
      intro k1 h
      refine TriE.block ?_
      refine TriE.seq ?_
      refine TriE.regJ ?_
      refine RegJ.run 1 [(0, eS 2 eWindow a0), (3, .own 0 0 ((List.replicate ((IntKind.u64.wrap ((IntKind.u64.wrap ((([(-1)] : List Int).length : Nat) : Int)) * (IntKind.u64.wrap ((a0.length : Nat) : Int)))).toNat) (0 : Int)).length)), (12, vi ((v8 : Nat) : Int)), (4, vi ((v8 : Nat) : Int)), (5, vi v11), (15, eS 2 eWindow a0), (16, vi ((a0.length : Nat) : Int)), (17, vi ((v12 : Nat) : Int)), (19, vi ((v12 : Nat) : Int))] [some (.row 1 (List.map vi v9))] (by kernel_rfl) ?_
      refine jv (.fptr 2 (List.map eWindow a0) v12 0) (cz (I0 20 (.iaddr 2 (.t 15) (.t 17))) (by kernel_rfl)) (ok_iaddr_m (j := v12) rfl rfl rfl c2) rfl ?_
      refine jv (.agg [vi ((ix a0 v12).From), vi ((ix a0 v12).To)]) (cz (I0 21 (.load true 2 (.t 20))) (by kernel_rfl)) (ok_load_fm (v := .agg [vi ((ix a0 v12).From), vi ((ix a0 v12).To)]) rfl c2 rfl) rfl ?_
      refine jrd 3 [(0, eS 2 eWindow a0), (3, .own 0 0 ((List.replicate ((IntKind.u64.wrap ((IntKind.u64.wrap ((([(-1)] : List Int).length : Nat) : Int)) * (IntKind.u64.wrap ((a0.length : Nat) : Int)))).toNat) (0 : Int)).length)), (12, vi ((v8 : Nat) : Int)), (4, vi ((v8 : Nat) : Int)), (5, vi v11), (15, eS 2 eWindow a0), (16, vi ((a0.length : Nat) : Int)), (17, vi ((v12 : Nat) : Int)), (7, .ptr 1 0 0), (6, vi ((v12 : Nat) : Int))] [some (.row 1 (List.map vi v9)), some (.row 2 [.agg [vi ((ix a0 v12).From), vi ((ix a0 v12).To)]])] (by kernel_rfl) rfl ?_
      refine TriE.seq ?_
      refine TriE.sees (Sees.less (fr' := [(0, eS 2 eWindow a0), (3, .own 0 0 ((List.replicate ((IntKind.u64.wrap ((IntKind.u64.wrap ((([(-1)] : List Int).length : Nat) : Int)) * (IntKind.u64.wrap ((a0.length : Nat) : Int)))).toNat) (0 : Int)).length)), (12, vi ((v8 : Nat) : Int)), (4, vi ((v8 : Nat) : Int)), (5, vi v11), (15, eS 2 eWindow a0), (16, vi ((a0.length : Nat) : Int)), (17, vi ((v12 : Nat) : Int)), (7, .ptr 1 0 0), (6, vi ((v12 : Nat) : Int))]) (.cons rfl (.cons rfl (.cons rfl (.cons rfl (.cons rfl (.cons rfl (.cons rfl (.cons rfl (.cons rfl (.cons rfl .nil))))))))))) ?_
      refine TriE.draw (by kernel_rfl) ?_
      refine RegD.run 2 [(23, vi ((v12 : Nat) : Int)), (22, .own 0 0 ((List.replicate ((IntKind.u64.wrap ((IntKind.u64.wrap ((([(-1)] : List Int).length : Nat) : Int)) * (IntKind.u64.wrap ((a0.length : Nat) : Int)))).toNat) (0 : Int)).length)), (0, eS 2 eWindow a0), (3, .own 0 0 ((List.replicate ((IntKind.u64.wrap ((IntKind.u64.wrap ((([(-1)] : List Int).length : Nat) : Int)) * (IntKind.u64.wrap ((a0.length : Nat) : Int)))).toNat) (0 : Int)).length)), (12, vi ((v8 : Nat) : Int)), (4, vi ((v8 : Nat) : Int)), (5, vi v11), (15, eS 2 eWindow a0), (16, vi ((a0.length : Nat) : Int)), (17, vi ((v12 : Nat) : Int)), (7, .ptr 1 0 0), (6, vi ((v12 : Nat) : Int))] [some (.row 1 (List.map vi v9)), some (.row 2 [.agg [vi ((ix a0 v12).From), vi ((ix a0 v12).To)]]), none, none] (by kernel_rfl) ?_
      refine cK h fun c3 h => ?_
      refine dv (.ptr 0 v12 0) (cz (I0 24 (.iaddr 1 (.t 22) (.t 23))) (by kernel_rfl)) (ok_iaddr_o0 (j := v12) rfl rfl rfl rfl c3) rfl ?_
      refine cK h fun c4 h => ?_
      refine dv (vi (ix v9 v12)) (cz (I0 25 (.load false 1 (.t 24))) (by kernel_rfl)) (ok_load_pm (l := v9) (e := vi) (v := vi (ix v9 v12)) rfl rfl c4 rfl) rfl ?_
      refine RegD.run 2 [(27, vb (decide ((ix v9 v12) < (0 : Int)))), (26, vb (decide ((ix v9 v12) < (0 : Int)))), (25, vi (ix v9 v12)), (24, .ptr 0 v12 0), (23, vi ((v12 : Nat) : Int)), (22, .own 0 0 ((List.replicate ((IntKind.u64.wrap ((IntKind.u64.wrap ((([(-1)] : List Int).length : Nat) : Int)) * (IntKind.u64.wrap ((a0.length : Nat) : Int)))).toNat) (0 : Int)).length)), (0, eS 2 eWindow a0), (3, .own 0 0 ((List.replicate ((IntKind.u64.wrap ((IntKind.u64.wrap ((([(-1)] : List Int).length : Nat) : Int)) * (IntKind.u64.wrap ((a0.length : Nat) : Int)))).toNat) (0 : Int)).length)), (12, vi ((v8 : Nat) : Int)), (4, vi ((v8 : Nat) : Int)), (5, vi v11), (15, eS 2 eWindow a0), (16, vi ((a0.length : Nat) : Int)), (17, vi ((v12 : Nat) : Int)), (7, .ptr 1 0 0), (6, vi ((v12 : Nat) : Int))] [some (.row 1 (List.map vi v9)), some (.row 2 [.agg [vi ((ix a0 v12).From), vi ((ix a0 v12).To)]]), none, none, none, none, none, none] (by kernel_rfl) ?_
      refine RegD.op (OpD.valk (g := decide ((ix v9 v12) < (0 : Int))) (v := .ptr 1 0 0) _ _ (cz (IG 28 (.faddr 0 (.t 7)) 27 true) (by kernel_rfl)) rfl (by kernel_rfl) (fun hg => (.cons rfl .nil))) ?_
      refine RegD.op (OpD.valk (g := decide ((ix v9 v12) < (0 : Int))) (v := vi ((ix a0 v12).From)) _ _ (cz (IG 29 (.load false 1 (.t 28)) 27 true) (by kernel_rfl)) rfl (by kernel_rfl) (fun hg => (.cons hg .nil))) ?_
      refine RegD.op (OpD.valk (g := decide ((ix v9 v12) < (0 : Int))) (v := vi ((v8 : Nat) : Int)) _ _ (cz (IG 30 (.mov (.t 4)) 27 true) (by kernel_rfl)) rfl (by kernel_rfl) (fun hg => (.cons rfl .nil))) ?_
      refine RegD.op (OpD.valk (g := decide ((ix v9 v12) < (0 : Int))) (v := vb (decide (((ix a0 v12).From) ≤ ((v8 : Nat) : Int)))) _ _ (cz (IG 31 (.bin .leq false (.t 29) (.t 30)) 27 true) (by kernel_rfl)) rfl (by kernel_rfl) (fun hg => (.cons hg (.cons hg .nil)))) ?_
      refine RegD.op (OpD.and (cz (I0 32 (.pick (.t 27) (.t 31) (.c (.p (.bool false))))) (by kernel_rfl)) rfl rfl (by first | exact hokA1 | exact hokA0 | simp)) ?_
      refine RegD.run 1 [(33, vb ((decide ((ix v9 v12) < (0 : Int))) && (decide (((ix a0 v12).From) ≤ ((v8 : Nat) : Int))))), (32, vb ((decide ((ix v9 v12) < (0 : Int))) && (decide (((ix a0 v12).From) ≤ ((v8 : Nat) : Int))))), (31, .cond (decide ((ix v9 v12) < (0 : Int))) (vb (decide (((ix a0 v12).From) ≤ ((v8 : Nat) : Int))))), (30, .cond (decide ((ix v9 v12) < (0 : Int))) (vi ((v8 : Nat) : Int))), (29, .cond (decide ((ix v9 v12) < (0 : Int))) (vi ((ix a0 v12).From))), (28, .cond (decide ((ix v9 v12) < (0 : Int))) (.ptr 1 0 0)), (27, vb (decide ((ix v9 v12) < (0 : Int)))), (26, vb (decide ((ix v9 v12) < (0 : Int)))), (25, vi (ix v9 v12)), (24, .ptr 0 v12 0), (23, vi ((v12 : Nat) : Int)), (22, .own 0 0 ((List.replicate ((IntKind.u64.wrap ((IntKind.u64.wrap ((([(-1)] : List Int).length : Nat) : Int)) * (IntKind.u64.wrap ((a0.length : Nat) : Int)))).toNat) (0 : Int)).length)), (0, eS 2 eWindow a0), (3, .own 0 0 ((List.replicate ((IntKind.u64.wrap ((IntKind.u64.wrap ((([(-1)] : List Int).length : Nat) : Int)) * (IntKind.u64.wrap ((a0.length : Nat) : Int)))).toNat) (0 : Int)).length)), (12, vi ((v8 : Nat) : Int)), (4, vi ((v8 : Nat) : Int)), (5, vi v11), (15, eS 2 eWindow a0), (16, vi ((a0.length : Nat) : Int)), (17, vi ((v12 : Nat) : Int)), (7, .ptr 1 0 0), (6, vi ((v12 : Nat) : Int))] [some (.row 1 (List.map vi v9)), some (.row 2 [.agg [vi ((ix a0 v12).From), vi ((ix a0 v12).To)]]), none, none, none, none, none, none, none, none, none, none, none, none] (by kernel_rfl) ?_
      refine RegD.op (OpD.valk (g := (decide ((ix v9 v12) < (0 : Int))) && (decide (((ix a0 v12).From) ≤ ((v8 : Nat) : Int)))) (v := vi ((v8 : Nat) : Int)) _ _ (cz (IG 34 (.mov (.t 4)) 33 true) (by kernel_rfl)) rfl (by kernel_rfl) (fun hg => (.cons rfl .nil))) ?_
      refine RegD.op (OpD.valk (g := (decide ((ix v9 v12) < (0 : Int))) && (decide (((ix a0 v12).From) ≤ ((v8 : Nat) : Int)))) (v := .ptr 1 0 1) _ _ (cz (IG 35 (.faddr 1 (.t 7)) 33 true) (by kernel_rfl)) rfl (by kernel_rfl) (fun hg => (.cons rfl .nil))) ?_
      refine RegD.op (OpD.valk (g := (decide ((ix v9 v12) < (0 : Int))) && (decide (((ix a0 v12).From) ≤ ((v8 : Nat) : Int)))) (v := vi ((ix a0 v12).To)) _ _ (cz (IG 36 (.load false 1 (.t 35)) 33 true) (by kernel_rfl)) rfl (by kernel_rfl) (fun hg => (.cons hg .nil))) ?_
      refine RegD.op (OpD.valk (g := (decide ((ix v9 v12) < (0 : Int))) && (decide (((ix a0 v12).From) ≤ ((v8 : Nat) : Int)))) (v := vb (decide (((v8 : Nat) : Int) < ((ix a0 v12).To)))) _ _ (cz (IG 37 (.bin .lss false (.t 34) (.t 36)) 33 true) (by kernel_rfl)) rfl (by kernel_rfl) (fun hg => (.cons hg (.cons hg .nil)))) ?_
      refine RegD.op (OpD.and (cz (I0 38 (.pick (.t 33) (.t 37) (.c (.p (.bool false))))) (by kernel_rfl)) rfl rfl (by first | exact hokA1 | exact hokA0 | simp)) ?_
      refine RegD.run 1 [(39, vb (((decide ((ix v9 v12) < (0 : Int))) && (decide (((ix a0 v12).From) ≤ ((v8 : Nat) : Int)))) && (decide (((v8 : Nat) : Int) < ((ix a0 v12).To))))), (38, vb (((decide ((ix v9 v12) < (0 : Int))) && (decide (((ix a0 v12).From) ≤ ((v8 : Nat) : Int)))) && (decide (((v8 : Nat) : Int) < ((ix a0 v12).To))))), (37, .cond ((decide ((ix v9 v12) < (0 : Int))) && (decide (((ix a0 v12).From) ≤ ((v8 : Nat) : Int)))) (vb (decide (((v8 : Nat) : Int) < ((ix a0 v12).To))))), (36, .cond ((decide ((ix v9 v12) < (0 : Int))) && (decide (((ix a0 v12).From) ≤ ((v8 : Nat) : Int)))) (vi ((ix a0 v12).To))), (35, .cond ((decide ((ix v9 v12) < (0 : Int))) && (decide (((ix a0 v12).From) ≤ ((v8 : Nat) : Int)))) (.ptr 1 0 1)), (34, .cond ((decide ((ix v9 v12) < (0 : Int))) && (decide (((ix a0 v12).From) ≤ ((v8 : Nat) : Int)))) (vi ((v8 : Nat) : Int))), (33, vb ((decide ((ix v9 v12) < (0 : Int))) && (decide (((ix a0 v12).From) ≤ ((v8 : Nat) : Int))))), (32, vb ((decide ((ix v9 v12) < (0 : Int))) && (decide (((ix a0 v12).From) ≤ ((v8 : Nat) : Int))))), (31, .cond (decide ((ix v9 v12) < (0 : Int))) (vb (decide (((ix a0 v12).From) ≤ ((v8 : Nat) : Int))))), (30, .cond (decide ((ix v9 v12) < (0 : Int))) (vi ((v8 : Nat) : Int))), (29, .cond (decide ((ix v9 v12) < (0 : Int))) (vi ((ix a0 v12).From))), (28, .cond (decide ((ix v9 v12) < (0 : Int))) (.ptr 1 0 0)), (27, vb (decide ((ix v9 v12) < (0 : Int)))), (26, vb (decide ((ix v9 v12) < (0 : Int)))), (25, vi (ix v9 v12)), (24, .ptr 0 v12 0), (23, vi ((v12 : Nat) : Int)), (22, .own 0 0 ((List.replicate ((IntKind.u64.wrap ((IntKind.u64.wrap ((([(-1)] : List Int).length : Nat) : Int)) * (IntKind.u64.wrap ((a0.length : Nat) : Int)))).toNat) (0 : Int)).length)), (0, eS 2 eWindow a0), (3, .own 0 0 ((List.replicate ((IntKind.u64.wrap ((IntKind.u64.wrap ((([(-1)] : List Int).length : Nat) : Int)) * (IntKind.u64.wrap ((a0.length : Nat) : Int)))).toNat) (0 : Int)).length)), (12, vi ((v8 : Nat) : Int)), (4, vi ((v8 : Nat) : Int)), (5, vi v11), (15, eS 2 eWindow a0), (16, vi ((a0.length : Nat) : Int)), (17, vi ((v12 : Nat) : Int)), (7, .ptr 1 0 0), (6, vi ((v12 : Nat) : Int))] [some (.row 1 (List.map vi v9)), some (.row 2 [.agg [vi ((ix a0 v12).From), vi ((ix a0 v12).To)]]), none, none, none, none, none, none, none, none, none, none, none, none, none, none, none, none, none, none] (by kernel_rfl) ?_
      refine RegD.op (OpD.valk (g := ((decide ((ix v9 v12) < (0 : Int))) && (decide (((ix a0 v12).From) ≤ ((v8 : Nat) : Int)))) && (decide (((v8 : Nat) : Int) < ((ix a0 v12).To)))) (v := vi v11) _ _ (cz (IG 40 (.mov (.t 5)) 39 true) (by kernel_rfl)) rfl (by kernel_rfl) (fun hg => (.cons rfl .nil))) ?_
      refine RegD.op (OpD.valk (g := ((decide ((ix v9 v12) < (0 : Int))) && (decide (((ix a0 v12).From) ≤ ((v8 : Nat) : Int)))) && (decide (((v8 : Nat) : Int) < ((ix a0 v12).To)))) (v := vb (decide (v11 < (0 : Int)))) _ _ (cz (IG 41 (.bin .lss false (.t 40) (.c (.p (.int .i64 0)))) 39 true) (by kernel_rfl)) rfl (by kernel_rfl) (fun hg => (.cons hg (.cons rfl .nil)))) ?_
      refine RegD.op (OpD.valk (g := ((decide ((ix v9 v12) < (0 : Int))) && (decide (((ix a0 v12).From) ≤ ((v8 : Nat) : Int)))) && (decide (((v8 : Nat) : Int) < ((ix a0 v12).To)))) (v := vb (decide (v11 < (0 : Int)))) _ _ (cz (IG 42 (.mov (.t 41)) 39 true) (by kernel_rfl)) rfl (by kernel_rfl) (fun hg => (.cons hg .nil))) ?_
      refine RegD.op (OpD.valk (g := (((decide ((ix v9 v12) < (0 : Int))) && (decide (((ix a0 v12).From) ≤ ((v8 : Nat) : Int)))) && (decide (((v8 : Nat) : Int) < ((ix a0 v12).To)))) && !(decide (v11 < (0 : Int)))) (v := .ptr 1 0 1) _ _ (cz (IG 43 (.faddr 1 (.t 7)) 42 false) (by kernel_rfl)) rfl (by kernel_rfl) (fun hg => (.cons rfl .nil))) ?_
      refine RegD.op (OpD.valk (g := (((decide ((ix v9 v12) < (0 : Int))) && (decide (((ix a0 v12).From) ≤ ((v8 : Nat) : Int)))) && (decide (((v8 : Nat) : Int) < ((ix a0 v12).To)))) && !(decide (v11 < (0 : Int)))) (v := vi ((ix a0 v12).To)) _ _ (cz (IG 44 (.load false 1 (.t 43)) 42 false) (by kernel_rfl)) rfl (by kernel_rfl) (fun hg => (.cons hg .nil))) ?_
      refine RegD.op (OpD.valk (g := (((decide ((ix v9 v12) < (0 : Int))) && (decide (((ix a0 v12).From) ≤ ((v8 : Nat) : Int)))) && (decide (((v8 : Nat) : Int) < ((ix a0 v12).To)))) && !(decide (v11 < (0 : Int)))) (v := eS 2 eWindow a0) _ _ (cz (IG 45 (.mov (.t 0)) 42 false) (by kernel_rfl)) rfl (by kernel_rfl) (fun hg => (.cons rfl .nil))) ?_
      refine RegD.op (OpD.valk (g := (((decide ((ix v9 v12) < (0 : Int))) && (decide (((ix a0 v12).From) ≤ ((v8 : Nat) : Int)))) && (decide (((v8 : Nat) : Int) < ((ix a0 v12).To)))) && !(decide (v11 < (0 : Int)))) (v := vi v11) _ _ (cz (IG 46 (.mov (.t 5)) 42 false) (by kernel_rfl)) rfl (by kernel_rfl) (fun hg => (.cons rfl .nil))) ?_
      refine cK h fun c5 h => ?_
      refine RegD.op (OpD.valg (g := (((decide ((ix v9 v12) < (0 : Int))) && (decide (((ix a0 v12).From) ≤ ((v8 : Nat) : Int)))) && (decide (((v8 : Nat) : Int) < ((ix a0 v12).To)))) && !(decide (v11 < (0 : Int)))) (v := .fptr 2 (List.map eWindow a0) v11.toNat 0) _ _ (cz (IG 47 (.iaddr 2 (.t 45) (.t 46)) 42 false) (by kernel_rfl)) rfl (fun hg => (ok_iaddr_m (j := v11.toNat) rfl rfl (inB_to (gor c5 hg)) (inB_lt (gor c5 hg)))) (fun hg => (.cons hg (.cons hg .nil)))) ?_
      refine RegD.op (OpD.valk (g := (((decide ((ix v9 v12) < (0 : Int))) && (decide (((ix a0 v12).From) ≤ ((v8 : Nat) : Int)))) && (decide (((v8 : Nat) : Int) < ((ix a0 v12).To)))) && !(decide (v11 < (0 : Int)))) (v := .fptr 2 (List.map eWindow a0) v11.toNat 1) _ _ (cz (IG 48 (.faddr 1 (.t 47)) 42 false) (by kernel_rfl)) rfl (by kernel_rfl) (fun hg => (.cons hg .nil))) ?_
      refine cK h fun c6 h => ?_
      refine RegD.op (OpD.valg (g := (((decide ((ix v9 v12) < (0 : Int))) && (decide (((ix a0 v12).From) ≤ ((v8 : Nat) : Int)))) && (decide (((v8 : Nat) : Int) < ((ix a0 v12).To)))) && !(decide (v11 < (0 : Int)))) (v := vi ((ix a0 v11.toNat).To)) _ _ (cz (IG 49 (.load false 1 (.t 48)) 42 false) (by kernel_rfl)) rfl (fun hg => (ok_load_fm (v := vi ((ix a0 v11.toNat).To)) rfl (gor c6 hg) rfl)) (fun hg => (.cons hg .nil))) ?_
      refine RegD.op (OpD.valk (g := (((decide ((ix v9 v12) < (0 : Int))) && (decide (((ix a0 v12).From) ≤ ((v8 : Nat) : Int)))) && (decide (((v8 : Nat) : Int) < ((ix a0 v12).To)))) && !(decide (v11 < (0 : Int)))) (v := vb (decide (((ix a0 v12).To) < ((ix a0 v11.toNat).To)))) _ _ (cz (IG 50 (.bin .lss false (.t 44) (.t 49)) 42 false) (by kernel_rfl)) rfl (by kernel_rfl) (fun hg => (.cons hg (.cons hg .nil)))) ?_
      refine RegD.op (OpD.org (g := ((decide ((ix v9 v12) < (0 : Int))) && (decide (((ix a0 v12).From) ≤ ((v8 : Nat) : Int)))) && (decide (((v8 : Nat) : Int) < ((ix a0 v12).To)))) (cz (IG 51 (.pick (.t 42) (.c (.p (.bool true))) (.t 50)) 39 true) (by kernel_rfl)) rfl rfl rfl (fun hg => by first | exact hokO2 hg | exact hokO3 hg | exact hokO1 | exact hokO0 | (rw [hg]; simp) | simp_all)) ?_
      refine RegD.op (OpD.and (cz (I0 52 (.pick (.t 39) (.t 51) (.c (.p (.bool false))))) (by kernel_rfl)) rfl rfl (by first | exact hokA1 | exact hokA0 | simp)) ?_
      refine RegD.done rfl (by kernel_rfl) (S' := ⟨[(0, eS 2 eWindow a0), (3, .own 0 0 ((List.replicate ((IntKind.u64.wrap ((IntKind.u64.wrap ((([(-1)] : List Int).length : Nat) : Int)) * (IntKind.u64.wrap ((a0.length : Nat) : Int)))).toNat) (0 : Int)).length)), (12, vi ((v8 : Nat) : Int)), (4, vi ((v8 : Nat) : Int)), (5, vi v11), (15, eS 2 eWindow a0), (16, vi ((a0.length : Nat) : Int)), (17, vi ((v12 : Nat) : Int)), (6, vi ((v12 : Nat) : Int)), (52, vb ((((decide ((ix v9 v12) < (0 : Int))) && (decide (((ix a0 v12).From) ≤ ((v8 : Nat) : Int)))) && (decide (((v8 : Nat) : Int) < ((ix a0 v12).To)))) && ((decide (v11 < (0 : Int))) || (decide (((ix a0 v12).To) < ((ix a0 v11.toNat).To))))))], [some (.row 1 (List.map vi v9))]⟩) (sc [0] (by decide) (by kernel_rfl) (obRen_row vi_frz (by kernel_rfl) .nil) rfl rfl) ?_
      refine TriE.cond (b := (((decide ((ix v9 v12) < (0 : Int))) && (decide (((ix a0 v12).From) ≤ ((v8 : Nat) : Int)))) && (decide (((v8 : Nat) : Int) < ((ix a0 v12).To)))) && ((decide (v11 < (0 : Int))) || (decide (((ix a0 v12).To) < ((ix a0 v11.toNat).To))))) rfl (fun c7 => ?_) (fun c7 => ?_)
      · have h := cond_t h c7
        refine TriE.run [(0, eS 2 eWindow a0), (3, .own 0 0 ((List.replicate ((IntKind.u64.wrap ((IntKind.u64.wrap ((([(-1)] : List Int).length : Nat) : Int)) * (IntKind.u64.wrap ((a0.length : Nat) : Int)))).toNat) (0 : Int)).length)), (12, vi ((v8 : Nat) : Int)), (4, vi ((v8 : Nat) : Int)), (15, eS 2 eWindow a0), (16, vi ((a0.length : Nat) : Int)), (17, vi ((v12 : Nat) : Int)), (5, vi ((v12 : Nat) : Int))] [some (.row 1 (List.map vi v9))] (by kernel_rfl) ?_
        exact Vs.intro Sees.refl ⟨((v12 : Nat) : Int), rfl, h⟩
      have h := cond_f h c7
      refine TriE.skip ?_
      exact Vs.intro (sl (by kernel_rfl)) ⟨v11, rfl, h⟩
    have h := cond_f h c2
    refine TriE.exit ?_
    exact Vs.intro (sl (by kernel_rfl)) ⟨v11, rfl, h⟩
  have h := cond_f h c1
  refine TriE.exit ?_
  exact Vs.intro (sl (by kernel_rfl)) ⟨v9, rfl, h⟩
theorem diary_Most_ok (n : Nat) (a0 : List Window) (r : Int ⊕ (List Int)) (h : diary_Most n a0 = some r) : FnL Tryz.prog 51 [eS 2 eWindow a0] [] (match r with | .inl r => .tup [.emp, vi r] | .inr r => .tup [.own 0 0 ((List.replicate ((IntKind.u64.wrap ((IntKind.u64.wrap ((([(-1)] : List Int).length : Nat) : Int)) * (IntKind.u64.wrap (a0.length : Int)))).toNat) (0 : Int)).length), vi 0]) (match r with | .inl r => [] | .inr r => [some (.row 1 (List.map vi r))]) := by
 dsimp only [diary_Most] at h
 refine FnL.ofS (ts := [2, 3]) Tryz.call51 Tryz.func51 rfl rfl (Nat.le_of_ble_eq_true rfl) (by rcases r with r | r <;> exact Nat.le_of_ble_eq_true rfl) (fun j h => absurd h (Nat.not_lt_zero j)) ?_
 refine sk .a ?_
 refine q1 ?_
 refine sj ?_
 refine rk 1 (.k (.i 5 (eS 2 eWindow a0) .n)) ?_
 refine bK h fun y1 hy1 h => ?_
 refine jc 6 [5] (diary_CheckWindows_ok n a0 y1 hy1) ?_
 refine jk 1 (.d (.k (.i 4 (vi y1) .n))) ?_
 refine sk (.k2 (.i 8 (vb (y1 != (0 : Int))) .n)) ?_
 refine tc h (fun c1 h => ?_) (fun c1 h => ?_)
 ·refine sk (.i 2 .emp (.i 3 (vi y1) .n)) ?_
  refine q3 ?_
  have h := si h
  subst h
  exact DoneS.ret Sees.refl rfl rfl
 refine q2 ?_
 refine sj ?_
 refine rk 1 (.i 10 (eS 2 eWindow a0) .n) ?_
 refine bK h fun y2 hy2 h => ?_
 refine jco (.own 0 0 ((List.replicate ((IntKind.u64.wrap ((IntKind.u64.wrap ((([(-1)] : List Int).length : Nat) : Int)) * (IntKind.u64.wrap (a0.length : Int)))).toNat) (0 : Int)).length)) 11 [10] (diary_schedule_ok n a0 y2 hy2) [] rfl ObsRen.nil (.same (row_ren vi_frz _ _ _) .nil) rfl ?_
 refine jk 2 (.i 2 (.own 0 0 ((List.replicate ((IntKind.u64.wrap ((IntKind.u64.wrap ((([(-1)] : List Int).length : Nat) : Int)) * (IntKind.u64.wrap (a0.length : Int)))).toNat) (0 : Int)).length)) (.i 3 (vi 0) .n)) ?_
 refine q3 ?_
 have h := si h
 subst h
 exact DoneS.ret Sees.refl rfl rfl
theorem agraffebase_Ints_ok (n : Nat) (a0 : List Int) (a1 : List Int) (r : Bool) (h : agraffebase_Ints n a0 a1 = some r) : FnL Tryz.prog 36 [eS 1 vi a0, eS 1 vi a1] [] (vb r) [] := by
 dsimp only [agraffebase_Ints] at h
 refine fo [4] Tryz.call36 Tryz.func36 rfl ?_
 refine sk .a ?_
 refine q1 ?_
 refine sj ?_
 refine rk 1 (.k2 (.i 6 (eS 1 vi a0) .n)) ?_
 refine jo 7 (.len 0 6) (ok_len_m rfl) ?_
 refine rk 1 (.d (.k2 (.i 7 (vi (a0.length : Int)) (.i 8 (eS 1 vi a1) .n)))) ?_
 refine jo 9 (.len 0 8) (ok_len_m rfl) ?_
 refine jo 10 (.bin .neq false 7 9) (n_neq (i := a0.length) (j := a1.length) rfl rfl) ?_
 refine jf (.d2 (.k2 (.i 10 (vb (!decide (a0.length = a1.length))) .n))) ?_
 refine tc h (fun c1 h => ?_) (fun c1 h => ?_)
 ·refine sk (.i 4 (vb false) .n) ?_
  refine q3 ?_
  have h := si h
  subst h
  exact DoneS.ret Sees.refl rfl rfl
 refine q2 ?_
 refine TriE.seqK h (fun (_ : Unit) => St.mk [] []) ?_ ?_
 ·rintro ⟨⟩ h
  refine sk (.i 4 (vb true) .n) ?_
  refine q3 ?_
  have h := si h
  subst h
  exact DoneS.ret Sees.refl rfl rfl
 intro k1 h
 refine sk (.k2 (.i 5 (vi 0) .n)) ?_
 refine q4 ?_
 refine ts (.k2 (.i 5 (vi 0) .n)) ?_
 refine TriE.loopN h (fun (v1 : Nat) => St.mk [(0, eS 1 vi a0), (1, eS 1 vi a1), (5, vi v1)] []) rfl ?_
 clear h
 rintro back v1 h
 dsimp only [agraffebase_Ints_L1] at h
 refine q1 ?_
 refine sj ?_
 refine rk 2 (.k3 (.i 11 (vi v1) (.i 12 (eS 1 vi a0) .n))) ?_
 refine jo 13 (.len 0 12) (ok_len_m rfl) ?_
 refine jo 14 (.bin .lss false 11 13) (n_lss (i := v1) (j := a0.length) rfl rfl) ?_
 refine jf (.d2 (.k3 (.i 14 (vb (decide (v1 < a0.length))) .n))) ?_
 refine tc h (fun c2 h => ?_) (fun c2 h => ?_)
 ·refine q2 ?_
  refine q7 ?_
  refine q1 ?_
  refine ts (.k3 .n) ?_
  refine TriE.draw (by kernel_rfl) ?_
  refine dk 2 (.i 18 (vi v1) (.i 17 (eS 1 vi a0) .a)) ?_
  refine dp 19 (.iaddr 1 17 18) (ok_iaddr_m (j := v1) rfl rfl rfl c2) ?_
  refine dp 20 (.load false 1 19) (ok_load_fm (v := vi (ix a0 v1)) rfl c2 rfl) ?_
  refine dk 2 (.i 22 (vi v1) (.i 21 (eS 1 vi a1) .a)) ?_
  refine cK h fun c3 h => ?_
  refine dp 23 (.iaddr 1 21 22) (ok_iaddr_m (j := v1) rfl rfl rfl c3) ?_
  refine dp 24 (.load false 1 23) (ok_load_fm (v := vi (ix a1 v1)) rfl c3 rfl) ?_
  refine dk 1 (.i 25 (vb ((ix a0 v1) != (ix a1 v1))) .a) ?_
  refine dfi (.d4 (.d4 (.d (.k3 (.i 25 (vb ((ix a0 v1) != (ix a1 v1))) .n))))) [] ObRen.nil ?_
  refine tc h (fun c4 h => ?_) (fun c4 h => ?_)
  ·refine sk (.i 4 (vb false) .n) ?_
   refine q3 ?_
   have h := si h
   subst h
   exact DoneS.ret Sees.refl rfl rfl
  refine q2 ?_
  refine q6 ?_
  refine rk 1 (.k2 (.i 15 (vi v1) .n)) ?_
  refine cK h fun c5 h => ?_
  refine jo 16 (.bin .add false 15 (ki 1)) (r_addn (i := v1) (j := 1) rfl rfl c5) ?_
  refine jk 1 (.d (.k2 (.i 5 (vi ((v1 + 1 : Nat) : Int)) .n))) ?_
  exact Vs.intro sy ⟨(v1 + 1), rfl, h⟩
 refine q5 ?_
 exact Vs.intro sy ⟨(), rfl, h⟩
theorem agraffebase_Ints_2_ok (n : Nat) (a0 : List Int) (a1 : Nat) (a2 : Nat) (a3 : List Int) (r : Bool) (h : agraffebase_Ints_2 n a0 a1 a2 a3 = some r) : FnL Tryz.prog 36 [.own 0 a1 a2, eS 1 vi a3] [some (.row 1 (List.map vi a0))] (vb r) [some (.row 1 (List.map vi a0))] := by
 dsimp only [agraffebase_Ints_2] at h
 refine fob [4] Tryz.call36 Tryz.func36 rfl (.cons rfl .nil) ?_
 refine sk .a ?_
 refine q1 ?_
 refine sj ?_
 refine rk 3 (.k2 (.i 7 (vi a2) (.i 8 (eS 1 vi a3) .n))) ?_
 refine jo 9 (.len 0 8) (ok_len_m rfl) ?_
 refine jo 10 (.bin .neq false 7 9) (n_neq (i := a2) (j := a3.length) rfl rfl) ?_
 refine jf (.d2 (.k2 (.i 10 (vb (!decide (a2 = a3.length))) .n))) ?_
 refine tc h (fun c1 h => ?_) (fun c1 h => ?_)
 ·refine sk (.i 4 (vb false) .n) ?_
  refine q3 ?_
  have h := si h
  subst h
  exact DoneS.ret Sees.refl rfl rfl
 refine q2 ?_
 refine TriE.seqK h (fun (_ : Unit) => St.mk [] [some (.row 1 (List.map vi a0))]) ?_ ?_
 ·rintro ⟨⟩ h
  refine sk (.i 4 (vb true) .n) ?_
  refine q3 ?_
  have h := si h
  subst h
  exact DoneS.ret Sees.refl rfl rfl
 intro k1 h
 refine sk (.k2 (.i 5 (vi 0) .n)) ?_
 refine q4 ?_
 refine ts (.k2 (.i 5 (vi 0) .n)) ?_
 refine TriE.loopN h (fun (v1 : Nat) => St.mk [(0, .own 0 a1 a2), (1, eS 1 vi a3), (5, vi v1)] [some (.row 1 (List.map vi a0))]) rfl ?_
 clear h
 rintro back v1 h
 dsimp only [agraffebase_Ints_2_L1] at h
 refine q1 ?_
 refine sj ?_
 refine rk 3 (.k3 (.i 11 (vi v1) (.i 13 (vi a2) .n))) ?_
 refine jo 14 (.bin .lss false 11 13) (n_lss (i := v1) (j := a2) rfl rfl) ?_
 refine jf (.d (.k3 (.i 14 (vb (decide (v1 < a2))) .n))) ?_
 refine tc h (fun c2 h => ?_) (fun c2 h => ?_)
 ·refine q2 ?_
  refine q7 ?_
  refine q1 ?_
  refine ts (.k3 .n) ?_
  refine TriE.draw (by kernel_rfl) ?_
  refine dk 2 (.i 18 (vi v1) (.i 17 (.own 0 a1 a2) .a)) ?_
  refine dp 19 (.iaddr 1 17 18) (ok_iaddr_o (j := v1) rfl rfl rfl rfl c2) ?_
  refine cK h fun c3 h => ?_
  refine dp 20 (.load false 1 19) (ok_load_pm (l := a0) (e := vi) (v := vi (ix a0 (a1 + v1))) rfl rfl c3 rfl) ?_
  refine dk 2 (.i 22 (vi v1) (.i 21 (eS 1 vi a3) .a)) ?_
  refine cK h fun c4 h => ?_
  refine dp 23 (.iaddr 1 21 22) (ok_iaddr_m (j := v1) rfl rfl rfl c4) ?_
  refine dp 24 (.load false 1 23) (ok_load_fm (v := vi (ix a3 v1)) rfl c4 rfl) ?_
  refine dk 1 (.i 25 (vb ((ix a0 (a1 + v1)) != (ix a3 v1))) .a) ?_
  refine dfi (.d4 (.d4 (.d (.k3 (.i 25 (vb ((ix a0 (a1 + v1)) != (ix a3 v1))) .n))))) [0] (obRen_row vi_frz rfl .nil) ?_
  refine tc h (fun c5 h => ?_) (fun c5 h => ?_)
  ·refine sk (.i 4 (vb false) .n) ?_
   refine q3 ?_
   have h := si h
   subst h
   exact DoneS.ret Sees.refl rfl rfl
  refine q2 ?_
  refine q6 ?_
  refine rk 1 (.k2 (.i 15 (vi v1) .n)) ?_
  refine cK h fun c6 h => ?_
  refine jo 16 (.bin .add false 15 (ki 1)) (r_addn (i := v1) (j := 1) rfl rfl c6) ?_
  refine jk 1 (.d (.k2 (.i 5 (vi ((v1 + 1 : Nat) : Int)) .n))) ?_
  exact Vs.intro sy ⟨(v1 + 1), rfl, h⟩
 refine q5 ?_
 exact Vs.intro sy ⟨(), rfl, h⟩
set_option maxHeartbeats 1000000 in
theorem agraffelaw09_awake_ok (n : Nat)  (r : Bool) (h : agraffelaw09_awake n  = some r) : FnL Tryz.prog 14 [] [] (vb r) [] := by
 dsimp only [agraffelaw09_awake] at h
 refine fo [0] Tryz.call14 Tryz.func14 rfl ?_
 refine sk .n ?_
 refine sj ?_
 refine bK h fun y1 hy1 h => ?_
 refine jc 10 [] (agraffelaw09_Town_ok n y1 hy1) ?_
 refine bK h fun y2 hy2 h => ?_
 refine jc 11 [10, (.c (.p (.string ⟨#[115, 104, 111, 112]⟩))), (ki 100)] (diary_Distances_ok n (Diary.mk ([([115, 104, 111, 112] : Str), ([104, 97, 108, 108] : Str), ([104, 111, 109, 101] : Str)] : List Str) ([([97, 110, 110] : Str), ([98, 111, 98] : Str)] : List Str) ([(Road.mk ([115, 104, 111, 112] : Str) ([104, 97, 108, 108] : Str) 30 200), (Road.mk ([104, 97, 108, 108] : Str) ([104, 111, 109, 101] : Str) 20 100), (Road.mk ([115, 104, 111, 112] : Str) ([104, 111, 109, 101] : Str) 60 150)] : List Road) ([(Grand.mk ([103] : Str) ([115, 104, 111, 112] : Str) 150), (Grand.mk ([117] : Str) ([104, 111, 109, 101] : Str) 100)] : List Grand) 10 300) ([115, 104, 111, 112] : Str) 100 y2 hy2) ?_
 refine jk 5 (.i 1 (eS 1 vi y2.2) (.i 2 (vi y2.1) .n)) ?_
 refine sj ?_
 refine bK h fun y3 hy3 h => ?_
 refine jc 15 [] (agraffelaw09_Town_ok n y3 hy3) ?_
 refine bK h fun y4 hy4 h => ?_
 refine jc 16 [] (agraffelaw09_Evening_ok n y4 hy4) ?_
 refine bK h fun y5 hy5 h => ?_
 refine jc 17 [15, 16] (diary_Accept_ok n (Diary.mk ([([115, 104, 111, 112] : Str), ([104, 97, 108, 108] : Str), ([104, 111, 109, 101] : Str)] : List Str) ([([97, 110, 110] : Str), ([98, 111, 98] : Str)] : List Str) ([(Road.mk ([115, 104, 111, 112] : Str) ([104, 97, 108, 108] : Str) 30 200), (Road.mk ([104, 97, 108, 108] : Str) ([104, 111, 109, 101] : Str) 20 100), (Road.mk ([115, 104, 111, 112] : Str) ([104, 111, 109, 101] : Str) 60 150)] : List Road) ([(Grand.mk ([103] : Str) ([115, 104, 111, 112] : Str) 150), (Grand.mk ([117] : Str) ([104, 111, 109, 101] : Str) 100)] : List Grand) 10 300) ([(Item.mk 1 0 40 ([103] : Str) ([104, 97, 108, 108] : Str) ([] : Str) 0), (Item.mk 0 50 110 ([103] : Str) ([104, 97, 108, 108] : Str) ([97, 110, 110] : Str) 0), (Item.mk 2 200 300 ([103] : Str) ([104, 97, 108, 108] : Str) ([] : Str) 0)] : List Item) y5 hy5) ?_
 refine jk 5 (.d3 (.k2 (.i 3 (vi y5.2) (.i 4 (vi y5.1) .n)))) ?_
 refine sj ?_
 refine bK h fun y6 hy6 h => ?_
 refine jc 21 [] (agraffelaw09_Town_ok n y6 hy6) ?_
 refine bK h fun y7 hy7 h => ?_
 refine jc 22 [] (agraffelaw09_Evening_ok n y7 hy7) ?_
 refine rk 1 (.d2 (.k4 (.i 21 (.agg [eS 1 vt ([([115, 104, 111, 112] : Str), ([104, 97, 108, 108] : Str), ([104, 111, 109, 101] : Str)] : List Str), eS 1 vt ([([97, 110, 110] : Str), ([98, 111, 98] : Str)] : List Str), eS 4 eRoad ([(Road.mk ([115, 104, 111, 112] : Str) ([104, 97, 108, 108] : Str) 30 200), (Road.mk ([104, 97, 108, 108] : Str) ([104, 111, 109, 101] : Str) 20 100), (Road.mk ([115, 104, 111, 112] : Str) ([104, 111, 109, 101] : Str) 60 150)] : List Road), eS 3 eGrand ([(Grand.mk ([103] : Str) ([115, 104, 111, 112] : Str) 150), (Grand.mk ([117] : Str) ([104, 111, 109, 101] : Str) 100)] : List Grand), vi 10, vi 300]) (.i 22 (eS 7 eItem ([(Item.mk 1 0 40 ([103] : Str) ([104, 97, 108, 108] : Str) ([] : Str) 0), (Item.mk 0 50 110 ([103] : Str) ([104, 97, 108, 108] : Str) ([97, 110, 110] : Str) 0), (Item.mk 2 200 300 ([103] : Str) ([104, 97, 108, 108] : Str) ([] : Str) 0)] : List Item)) (.i 23 (.agg [vi 0, vi 120, vi 180, vt ([117] : Str), vt ([104, 111, 109, 101] : Str), vt ([97, 110, 110] : Str), vi 0]) .n))))) ?_
 refine bK h fun y8 hy8 h => ?_
 refine jc 24 [21, 22, 23] (diary_FreeFrom_ok n (Diary.mk ([([115, 104, 111, 112] : Str), ([104, 97, 108, 108] : Str), ([104, 111, 109, 101] : Str)] : List Str) ([([97, 110, 110] : Str), ([98, 111, 98] : Str)] : List Str) ([(Road.mk ([115, 104, 111, 112] : Str) ([104, 97, 108, 108] : Str) 30 200), (Road.mk ([104, 97, 108, 108] : Str) ([104, 111, 109, 101] : Str) 20 100), (Road.mk ([115, 104, 111, 112] : Str) ([104, 111, 109, 101] : Str) 60 150)] : List Road) ([(Grand.mk ([103] : Str) ([115, 104, 111, 112] : Str) 150), (Grand.mk ([117] : Str) ([104, 111, 109, 101] : Str) 100)] : List Grand) 10 300) ([(Item.mk 1 0 40 ([103] : Str) ([104, 97, 108, 108] : Str) ([] : Str) 0), (Item.mk 0 50 110 ([103] : Str) ([104, 97, 108, 108] : Str) ([97, 110, 110] : Str) 0), (Item.mk 2 200 300 ([103] : Str) ([104, 97, 108, 108] : Str) ([] : Str) 0)] : List Item) (Item.mk 0 120 180 ([117] : Str) ([104, 111, 109, 101] : Str) ([97, 110, 110] : Str) 0) y8 hy8) ?_
 refine jk 5 (.d (.k4 (.i 5 (vi y8.2) (.i 6 (vi y8.1) .n)))) ?_
 refine TriE.seqK2 h (fun (v12 : Int) => St.mk [(1, eS 1 vi y2.2), (2, vi y2.1), (3, vi y5.2), (4, vi y5.1), (5, vi y8.2), (6, vi y8.1), (7, .emp), (8, vi v12)] []) (fun (v17 : (List Int)) => St.mk [(1, eS 1 vi y2.2), (2, vi y2.1), (3, vi y5.2), (4, vi y5.1), (5, vi y8.2), (6, vi y8.1), (7, .own 0 0 ((List.replicate ((IntKind.u64.wrap ((IntKind.u64.wrap ((([(-1)] : List Int).length : Nat) : Int)) * (IntKind.u64.wrap ((([(Window.mk 0 2), (Window.mk 0 2), (Window.mk 1 3), (Window.mk 2 3)] : List Window).length : Nat) : Int)))).toNat) (0 : Int)).length)), (8, vi 0)] [some (.row 1 (List.map vi v17))]) ?_ ?_ ?_
 ·rintro v12 h
  refine TriE.seqK h (fun (v16 : Bool) => St.mk [(0, vb v16)] []) ?_ ?_
  ·rintro v16 h
   refine q3 ?_
   have h := si h
   subst h
   exact DoneS.ret Sees.refl rfl rfl
  intro k2 h
  refine q6 ?_
  refine rk 3 (.k (.d (.k4 (.k2 (.i 38 (vb (y2.1 == (0 : Int))) .n))))) ?_
  refine gj (eS 1 vi y2.2) 39 (.mov 1) 38 true rfl ?_
  rcases Bool.eq_false_or_eq_true ((y2.1 == (0 : Int))) with c1 | c1
  ·have h := cond_t h c1
   refine RegJ.op (Op1.effk (v := .own 0 0 3) (ob' := [some (.row 1 [vi 0, vi 30, vi 50])]) _ _ (cy (IG 40 (.bslice 1 (.p (.int .i64 0)) 3 [(0, (ki 0)), (1, (ki 30)), (2, (ki 50))]) 38 true)) (congrArg some c1) (by kernel_rfl) (.cons rfl (.cons rfl (.cons rfl .nil)))) ?_
   refine RegJ.sees (Sees.freeze 0 (fr' := [(1, eS 1 vi y2.2), (3, vi y5.2), (4, vi y5.1), (5, vi y8.2), (6, vi y8.1), (7, .emp), (8, vi v12), (38, vb (y2.1 == (0 : Int))), (39, .cond (y2.1 == (0 : Int)) (eS 1 vi y2.2)), (40, eS 1 vi ([0, 30, 50] : List Int))]) (ob' := [none]) rfl (frzs_cons rfl (frzs_cons rfl (frzs_cons rfl frzs_nil))) (.cons (.refl _) (.cons (.refl _) (.cons (.refl _) (.cons (.refl _) (.cons (.refl _) (.cons (.refl _) (.cons (.refl _) (.cons (.refl _) (.cons (.refl _) (.cons (.own rfl (Nat.le_of_ble_eq_true rfl)) .nil)))))))))) rfl) ?_
   refine bK h fun y13 hy13 h => ?_
   refine RegJ.op (Op1.call (y' := vb y13) (obx := []) (oby := []) (ob2 := [none]) _ _ (cy (IG 41 (.call 36 [39, 40]) 38 true)) (congrArg some c1) (agraffebase_Ints_ok n y2.2 ([0, 30, 50] : List Int) y13 hy13) [] (by kernel_rfl) (.cons rfl (.cons c1 (.cons rfl .nil))) (by kernel_rfl) (by kernel_rfl) ObsRen.nil (by kernel_rfl) ObsRen.nil (by kernel_rfl)) ?_
   refine pa 42 38 41 rfl rfl ?_
   refine rk 1 (.d3 (.k4 (.k2 (.i 43 (vb ((y2.1 == (0 : Int)) && y13)) .n)))) ?_
   refine gj (vi y5.1) 44 (.mov 4) 43 true rfl ?_
   refine gk (vb (y5.1 == (0 : Int))) 45 (.bin .eql false 44 (ki 0)) 43 true rfl (fun hg => (.cons hg (.cons rfl .nil))) ?_
   refine pa 46 43 45 rfl rfl ?_
   refine rk 1 (.d3 (.k (.d (.k4 (.i 47 (vb (((y2.1 == (0 : Int)) && y13) && (y5.1 == (0 : Int)))) .n))))) ?_
   refine gj (vi y5.2) 48 (.mov 3) 47 true rfl ?_
   refine gk (vb (y5.2 == ((-1) : Int))) 49 (.bin .eql false 48 (ki (-1))) 47 true rfl (fun hg => (.cons hg (.cons rfl .nil))) ?_
   refine pa 50 47 49 rfl rfl ?_
   refine rk 1 (.d4 (.k4 (.i 51 (vb ((((y2.1 == (0 : Int)) && y13) && (y5.1 == (0 : Int))) && (y5.2 == ((-1) : Int)))) .n))) ?_
   refine gj (vi y8.1) 52 (.mov 6) 51 true rfl ?_
   refine gk (vb (y8.1 == (0 : Int))) 53 (.bin .eql false 52 (ki 0)) 51 true rfl (fun hg => (.cons hg (.cons rfl .nil))) ?_
   refine pa 54 51 53 rfl rfl ?_
   refine rk 1 (.d3 (.k (.d (.k2 (.i 55 (vb (((((y2.1 == (0 : Int)) && y13) && (y5.1 == (0 : Int))) && (y5.2 == ((-1) : Int))) && (y8.1 == (0 : Int)))) .n))))) ?_
   refine gj (vi y8.2) 56 (.mov 5) 55 true rfl ?_
   refine gk (vb (y8.2 == (130 : Int))) 57 (.bin .eql false 56 (ki 130)) 55 true rfl (fun hg => (.cons hg (.cons rfl .nil))) ?_
   refine pa 58 55 57 rfl rfl ?_
   refine rk 1 (.d4 (.k2 (.i 59 (vb ((((((y2.1 == (0 : Int)) && y13) && (y5.1 == (0 : Int))) && (y5.2 == ((-1) : Int))) && (y8.1 == (0 : Int))) && (y8.2 == (130 : Int)))) .n))) ?_
   refine gj (vi v12) 60 (.mov 8) 59 true rfl ?_
   refine gk (vb (v12 == (0 : Int))) 61 (.bin .eql false 60 (ki 0)) 59 true rfl (fun hg => (.cons hg (.cons rfl .nil))) ?_
   refine pa 62 59 61 rfl rfl ?_
   refine rk 1 (.d3 (.k (.i 63 (vb (((((((y2.1 == (0 : Int)) && y13) && (y5.1 == (0 : Int))) && (y5.2 == ((-1) : Int))) && (y8.1 == (0 : Int))) && (y8.2 == (130 : Int))) && (v12 == (0 : Int)))) .n))) ?_
   refine gj .emp 64 (.mov 7) 63 true rfl ?_
   rcases Bool.eq_false_or_eq_true (((((((y2.1 == (0 : Int)) && y13) && (y5.1 == (0 : Int))) && (y5.2 == ((-1) : Int))) && (y8.1 == (0 : Int))) && (y8.2 == (130 : Int))) && (v12 == (0 : Int))) with c2 | c2
   ·have h := cond_t h c2
    refine RegJ.op (Op1.effk (v := .own 1 0 4) (ob' := [none, some (.row 1 [vi 0, vi 1, vi 2, vi (-1)])]) _ _ (cz (IG 65 (.bslice 1 (.p (.int .i64 0)) 4 [(0, (ki 0)), (1, (ki 1)), (2, (ki 2)), (3, (ki (-1)))]) 63 true) (by kernel_rfl)) (congrArg some c2) (by kernel_rfl) (.cons rfl (.cons rfl (.cons rfl (.cons rfl .nil))))) ?_
    refine RegJ.sees (Sees.freeze 1 (fr' := [(7, .emp), (63, vb (((((((y2.1 == (0 : Int)) && y13) && (y5.1 == (0 : Int))) && (y5.2 == ((-1) : Int))) && (y8.1 == (0 : Int))) && (y8.2 == (130 : Int))) && (v12 == (0 : Int)))), (64, .cond (((((((y2.1 == (0 : Int)) && y13) && (y5.1 == (0 : Int))) && (y5.2 == ((-1) : Int))) && (y8.1 == (0 : Int))) && (y8.2 == (130 : Int))) && (v12 == (0 : Int))) (.emp)), (65, eS 1 vi ([0, 1, 2, (-1)] : List Int))]) (ob' := [none, none]) rfl (frzs_cons rfl (frzs_cons rfl (frzs_cons rfl (frzs_cons rfl frzs_nil)))) (.cons (.refl _) (.cons (.refl _) (.cons (.refl _) (.cons (.own rfl (Nat.le_of_ble_eq_true rfl)) .nil)))) rfl) ?_
    refine bK h fun y14 hy14 h => ?_
    refine RegJ.op (Op1.call (y' := vb y14) (obx := []) (oby := []) (ob2 := [none, none]) _ _ (cy (IG 66 (.call 36 [64, 65]) 63 true)) (congrArg some c2) (FnL.co (.cons .sl (.cons .same .nil)) (agraffebase_Ints_ok n ([] : List Int) ([0, 1, 2, (-1)] : List Int) y14 hy14)) [] (by kernel_rfl) (.cons rfl (.cons c2 (.cons rfl .nil))) (by kernel_rfl) (by kernel_rfl) ObsRen.nil (by kernel_rfl) ObsRen.nil (by kernel_rfl)) ?_
    refine pa 67 63 66 rfl rfl ?_
    refine jk 1 (.i 0 (vb ((((((((y2.1 == (0 : Int)) && y13) && (y5.1 == (0 : Int))) && (y5.2 == ((-1) : Int))) && (y8.1 == (0 : Int))) && (y8.2 == (130 : Int))) && (v12 == (0 : Int))) && y14)) .n) ?_
    exact Vs.intro (sc [] (by decide) (by kernel_rfl) ObRen.nil rfl rfl) ⟨((((((((y2.1 == (0 : Int)) && y13) && (y5.1 == (0 : Int))) && (y5.2 == ((-1) : Int))) && (y8.1 == (0 : Int))) && (y8.2 == (130 : Int))) && (v12 == (0 : Int))) && y14), rfl, h⟩
   have h := cond_f h c2
   refine RegJ.op (Op1.skipc (g := ((((((y2.1 == (0 : Int)) && y13) && (y5.1 == (0 : Int))) && (y5.2 == ((-1) : Int))) && (y8.1 == (0 : Int))) && (y8.2 == (130 : Int))) && (v12 == (0 : Int))) (v := vb false) (by kernel_rfl : compAt _ _ _ _ = some ⟨(some 65), .bslice 1 (.p (.int .i64 0)) 4 [(0, (ki 0)), (1, (ki 1)), (2, (ki 2)), (3, (ki (-1)))], (some (63, true)), [(ki 0), (ki 1), (ki 2), (ki (-1))], 0⟩) rfl c2) ?_
   refine RegJ.op (Op1.skipc (g := ((((((y2.1 == (0 : Int)) && y13) && (y5.1 == (0 : Int))) && (y5.2 == ((-1) : Int))) && (y8.1 == (0 : Int))) && (y8.2 == (130 : Int))) && (v12 == (0 : Int))) (v := vb false) (by kernel_rfl : compAt _ _ _ _ = some ⟨(some 66), .call 36 [64, 65], (some (63, true)), [(.c (.fn (.func 36) [] [])), 64, 65], 2⟩) rfl c2) ?_
   refine pa 67 63 66 rfl rfl ?_
   refine jq 1 [(0, vb ((((((((y2.1 == (0 : Int)) && y13) && (y5.1 == (0 : Int))) && (y5.2 == ((-1) : Int))) && (y8.1 == (0 : Int))) && (y8.2 == (130 : Int))) && (v12 == (0 : Int))) && false))] [none] ?_
   exact Vs.intro (sc [] (by decide) (by kernel_rfl) ObRen.nil rfl rfl) ⟨((((((((y2.1 == (0 : Int)) && y13) && (y5.1 == (0 : Int))) && (y5.2 == ((-1) : Int))) && (y8.1 == (0 : Int))) && (y8.2 == (130 : Int))) && (v12 == (0 : Int))) && false), rfl, h⟩
  have h := cond_f h c1
  refine RegJ.op (Op1.skipc (g := (y2.1 == (0 : Int))) (v := vb false) (by kernel_rfl : compAt _ _ _ _ = some ⟨(some 40), .bslice 1 (.p (.int .i64 0)) 3 [(0, (ki 0)), (1, (ki 30)), (2, (ki 50))], (some (38, true)), [(ki 0), (ki 30), (ki 50)], 0⟩) rfl c1) ?_
  refine RegJ.op (Op1.skipc (g := (y2.1 == (0 : Int))) (v := vb false) (by kernel_rfl : compAt _ _ _ _ = some ⟨(some 41), .call 36 [39, 40], (some (38, true)), [(.c (.fn (.func 36) [] [])), 39, 40], 2⟩) rfl c1) ?_
  refine pa 42 38 41 rfl rfl ?_
  refine rn 1 [(3, vi y5.2), (4, vi y5.1), (5, vi y8.2), (6, vi y8.1), (7, .emp), (8, vi v12), (43, vb ((y2.1 == (0 : Int)) && false))] [] ?_
  refine gj (vi y5.1) 44 (.mov 4) 43 true rfl ?_
  refine gk (vb (y5.1 == (0 : Int))) 45 (.bin .eql false 44 (ki 0)) 43 true rfl (fun hg => (.cons hg (.cons rfl .nil))) ?_
  refine pa 46 43 45 rfl rfl ?_
  refine rk 1 (.d3 (.k (.d (.k4 (.i 47 (vb (((y2.1 == (0 : Int)) && false) && (y5.1 == (0 : Int)))) .n))))) ?_
  refine gj (vi y5.2) 48 (.mov 3) 47 true rfl ?_
  refine gk (vb (y5.2 == ((-1) : Int))) 49 (.bin .eql false 48 (ki (-1))) 47 true rfl (fun hg => (.cons hg (.cons rfl .nil))) ?_
  refine pa 50 47 49 rfl rfl ?_
  refine rk 1 (.d4 (.k4 (.i 51 (vb ((((y2.1 == (0 : Int)) && false) && (y5.1 == (0 : Int))) && (y5.2 == ((-1) : Int)))) .n))) ?_
  refine gj (vi y8.1) 52 (.mov 6) 51 true rfl ?_
  refine gk (vb (y8.1 == (0 : Int))) 53 (.bin .eql false 52 (ki 0)) 51 true rfl (fun hg => (.cons hg (.cons rfl .nil))) ?_
  refine pa 54 51 53 rfl rfl ?_
  refine rk 1 (.d3 (.k (.d (.k2 (.i 55 (vb (((((y2.1 == (0 : Int)) && false) && (y5.1 == (0 : Int))) && (y5.2 == ((-1) : Int))) && (y8.1 == (0 : Int)))) .n))))) ?_
  refine gj (vi y8.2) 56 (.mov 5) 55 true rfl ?_
  refine gk (vb (y8.2 == (130 : Int))) 57 (.bin .eql false 56 (ki 130)) 55 true rfl (fun hg => (.cons hg (.cons rfl .nil))) ?_
  refine pa 58 55 57 rfl rfl ?_
  refine rk 1 (.d4 (.k2 (.i 59 (vb ((((((y2.1 == (0 : Int)) && false) && (y5.1 == (0 : Int))) && (y5.2 == ((-1) : Int))) && (y8.1 == (0 : Int))) && (y8.2 == (130 : Int)))) .n))) ?_
  refine gj (vi v12) 60 (.mov 8) 59 true rfl ?_
  refine gk (vb (v12 == (0 : Int))) 61 (.bin .eql false 60 (ki 0)) 59 true rfl (fun hg => (.cons hg (.cons rfl .nil))) ?_
  refine pa 62 59 61 rfl rfl ?_
  refine rk 1 (.d3 (.k (.i 63 (vb (((((((y2.1 == (0 : Int)) && false) && (y5.1 == (0 : Int))) && (y5.2 == ((-1) : Int))) && (y8.1 == (0 : Int))) && (y8.2 == (130 : Int))) && (v12 == (0 : Int)))) .n))) ?_
  refine gj .emp 64 (.mov 7) 63 true rfl ?_
  rcases Bool.eq_false_or_eq_true (((((((y2.1 == (0 : Int)) && false) && (y5.1 == (0 : Int))) && (y5.2 == ((-1) : Int))) && (y8.1 == (0 : Int))) && (y8.2 == (130 : Int))) && (v12 == (0 : Int))) with c3 | c3
  ·have h := cond_t h c3
   refine RegJ.op (Op1.effk (v := .own 0 0 4) (ob' := [some (.row 1 [vi 0, vi 1, vi 2, vi (-1)])]) _ _ (cz (IG 65 (.bslice 1 (.p (.int .i64 0)) 4 [(0, (ki 0)), (1, (ki 1)), (2, (ki 2)), (3, (ki (-1)))]) 63 true) (by kernel_rfl)) (congrArg some c3) (by kernel_rfl) (.cons rfl (.cons rfl (.cons rfl (.cons rfl .nil))))) ?_
   refine RegJ.sees (Sees.freeze 0 (fr' := [(7, .emp), (63, vb (((((((y2.1 == (0 : Int)) && false) && (y5.1 == (0 : Int))) && (y5.2 == ((-1) : Int))) && (y8.1 == (0 : Int))) && (y8.2 == (130 : Int))) && (v12 == (0 : Int)))), (64, .cond (((((((y2.1 == (0 : Int)) && false) && (y5.1 == (0 : Int))) && (y5.2 == ((-1) : Int))) && (y8.1 == (0 : Int))) && (y8.2 == (130 : Int))) && (v12 == (0 : Int))) (.emp)), (65, eS 1 vi ([0, 1, 2, (-1)] : List Int))]) (ob' := [none]) rfl (frzs_cons rfl (frzs_cons rfl (frzs_cons rfl (frzs_cons rfl frzs_nil)))) (.cons (.refl _) (.cons (.refl _) (.cons (.refl _) (.cons (.own rfl (Nat.le_of_ble_eq_true rfl)) .nil)))) rfl) ?_
   refine bK h fun y15 hy15 h => ?_
   refine RegJ.op (Op1.call (y' := vb y15) (obx := []) (oby := []) (ob2 := [none]) _ _ (cy (IG 66 (.call 36 [64, 65]) 63 true)) (congrArg some c3) (FnL.co (.cons .sl (.cons .same .nil)) (agraffebase_Ints_ok n ([] : List Int) ([0, 1, 2, (-1)] : List Int) y15 hy15)) [] (by kernel_rfl) (.cons rfl (.cons c3 (.cons rfl .nil))) (by kernel_rfl) (by kernel_rfl) ObsRen.nil (by kernel_rfl) ObsRen.nil (by kernel_rfl)) ?_
   refine pa 67 63 66 rfl rfl ?_
   refine jk 1 (.i 0 (vb ((((((((y2.1 == (0 : Int)) && false) && (y5.1 == (0 : Int))) && (y5.2 == ((-1) : Int))) && (y8.1 == (0 : Int))) && (y8.2 == (130 : Int))) && (v12 == (0 : Int))) && y15)) .n) ?_
   exact Vs.intro (sc [] (by decide) (by kernel_rfl) ObRen.nil rfl rfl) ⟨((((((((y2.1 == (0 : Int)) && false) && (y5.1 == (0 : Int))) && (y5.2 == ((-1) : Int))) && (y8.1 == (0 : Int))) && (y8.2 == (130 : Int))) && (v12 == (0 : Int))) && y15), rfl, h⟩
  have h := cond_f h c3
  refine RegJ.op (Op1.skipc (g := ((((((y2.1 == (0 : Int)) && false) && (y5.1 == (0 : Int))) && (y5.2 == ((-1) : Int))) && (y8.1 == (0 : Int))) && (y8.2 == (130 : Int))) && (v12 == (0 : Int))) (v := vb false) (by kernel_rfl : compAt _ _ _ _ = some ⟨(some 65), .bslice 1 (.p (.int .i64 0)) 4 [(0, (ki 0)), (1, (ki 1)), (2, (ki 2)), (3, (ki (-1)))], (some (63, true)), [(ki 0), (ki 1), (ki 2), (ki (-1))], 0⟩) rfl c3) ?_
  refine RegJ.op (Op1.skipc (g := ((((((y2.1 == (0 : Int)) && false) && (y5.1 == (0 : Int))) && (y5.2 == ((-1) : Int))) && (y8.1 == (0 : Int))) && (y8.2 == (130 : Int))) && (v12 == (0 : Int))) (v := vb false) (by kernel_rfl : compAt _ _ _ _ = some ⟨(some 66), .call 36 [64, 65], (some (63, true)), [(.c (.fn (.func 36) [] [])), 64, 65], 2⟩) rfl c3) ?_
  refine pa 67 63 66 rfl rfl ?_
  refine jq 1 [(0, vb ((((((((y2.1 == (0 : Int)) && false) && (y5.1 == (0 : Int))) && (y5.2 == ((-1) : Int))) && (y8.1 == (0 : Int))) && (y8.2 == (130 : Int))) && (v12 == (0 : Int))) && false))] [] ?_
  exact Vs.intro Sees.refl ⟨((((((((y2.1 == (0 : Int)) && false) && (y5.1 == (0 : Int))) && (y5.2 == ((-1) : Int))) && (y8.1 == (0 : Int))) && (y8.2 == (130 : Int))) && (v12 == (0 : Int))) && false), rfl, h⟩
 ·rintro v17 h
  refine TriE.seqK h (fun (v21 : Bool) => St.mk [(0, vb v21)] []) ?_ ?_
  ·rintro v21 h
   refine q3 ?_
   have h := si h
   subst h
   exact DoneS.ret Sees.refl rfl rfl
  intro k4 h
  refine q6 ?_
  refine rk 3 (.k (.d (.k4 (.k2 (.i 38 (vb (y2.1 == (0 : Int))) .n))))) ?_
  refine gj (eS 1 vi y2.2) 39 (.mov 1) 38 true rfl ?_
  rcases Bool.eq_false_or_eq_true ((y2.1 == (0 : Int))) with c4 | c4
  ·have h := cond_t h c4
   refine RegJ.op (Op1.effk (v := .own 1 0 3) (ob' := [some (.row 1 (List.map vi v17)), some (.row 1 [vi 0, vi 30, vi 50])]) _ _ (cy (IG 40 (.bslice 1 (.p (.int .i64 0)) 3 [(0, (ki 0)), (1, (ki 30)), (2, (ki 50))]) 38 true)) (congrArg some c4) (by kernel_rfl) (.cons rfl (.cons rfl (.cons rfl .nil)))) ?_
   refine RegJ.sees (Sees.freeze 1 (fr' := [(1, eS 1 vi y2.2), (3, vi y5.2), (4, vi y5.1), (5, vi y8.2), (6, vi y8.1), (7, .own 0 0 ((List.replicate ((IntKind.u64.wrap ((IntKind.u64.wrap ((([(-1)] : List Int).length : Nat) : Int)) * (IntKind.u64.wrap ((([(Window.mk 0 2), (Window.mk 0 2), (Window.mk 1 3), (Window.mk 2 3)] : List Window).length : Nat) : Int)))).toNat) (0 : Int)).length)), (8, vi 0), (38, vb (y2.1 == (0 : Int))), (39, .cond (y2.1 == (0 : Int)) (eS 1 vi y2.2)), (40, eS 1 vi ([0, 30, 50] : List Int))]) (ob' := [some (.row 1 (List.map vi v17)), none]) rfl (frzs_cons rfl (frzs_cons rfl (frzs_cons rfl frzs_nil))) (.cons (.refl _) (.cons (.refl _) (.cons (.refl _) (.cons (.refl _) (.cons (.refl _) (.cons (.refl _) (.cons (.refl _) (.cons (.refl _) (.cons (.refl _) (.cons (.own rfl (Nat.le_of_ble_eq_true rfl)) .nil)))))))))) rfl) ?_
   refine bK h fun y18 hy18 h => ?_
   refine RegJ.op (Op1.call (y' := vb y18) (obx := []) (oby := []) (ob2 := [some (.row 1 (List.map vi v17)), none]) _ _ (cy (IG 41 (.call 36 [39, 40]) 38 true)) (congrArg some c4) (agraffebase_Ints_ok n y2.2 ([0, 30, 50] : List Int) y18 hy18) [] (by kernel_rfl) (.cons rfl (.cons c4 (.cons rfl .nil))) (by kernel_rfl) (by kernel_rfl) ObsRen.nil (by kernel_rfl) ObsRen.nil (by kernel_rfl)) ?_
   refine pa 42 38 41 rfl rfl ?_
   refine rk 1 (.d3 (.k4 (.k2 (.i 43 (vb ((y2.1 == (0 : Int)) && y18)) .n)))) ?_
   refine gj (vi y5.1) 44 (.mov 4) 43 true rfl ?_
   refine gk (vb (y5.1 == (0 : Int))) 45 (.bin .eql false 44 (ki 0)) 43 true rfl (fun hg => (.cons hg (.cons rfl .nil))) ?_
   refine pa 46 43 45 rfl rfl ?_
   refine rk 1 (.d3 (.k (.d (.k4 (.i 47 (vb (((y2.1 == (0 : Int)) && y18) && (y5.1 == (0 : Int)))) .n))))) ?_
   refine gj (vi y5.2) 48 (.mov 3) 47 true rfl ?_
   refine gk (vb (y5.2 == ((-1) : Int))) 49 (.bin .eql false 48 (ki (-1))) 47 true rfl (fun hg => (.cons hg (.cons rfl .nil))) ?_
   refine pa 50 47 49 rfl rfl ?_
   refine rk 1 (.d4 (.k4 (.i 51 (vb ((((y2.1 == (0 : Int)) && y18) && (y5.1 == (0 : Int))) && (y5.2 == ((-1) : Int)))) .n))) ?_
   refine gj (vi y8.1) 52 (.mov 6) 51 true rfl ?_
   refine gk (vb (y8.1 == (0 : Int))) 53 (.bin .eql false 52 (ki 0)) 51 true rfl (fun hg => (.cons hg (.cons rfl .nil))) ?_
   refine pa 54 51 53 rfl rfl ?_
   refine rk 1 (.d3 (.k (.d (.k2 (.i 55 (vb (((((y2.1 == (0 : Int)) && y18) && (y5.1 == (0 : Int))) && (y5.2 == ((-1) : Int))) && (y8.1 == (0 : Int)))) .n))))) ?_
   refine gj (vi y8.2) 56 (.mov 5) 55 true rfl ?_
   refine gk (vb (y8.2 == (130 : Int))) 57 (.bin .eql false 56 (ki 130)) 55 true rfl (fun hg => (.cons hg (.cons rfl .nil))) ?_
   refine pa 58 55 57 rfl rfl ?_
   refine rk 1 (.d4 (.k2 (.i 59 (vb ((((((y2.1 == (0 : Int)) && y18) && (y5.1 == (0 : Int))) && (y5.2 == ((-1) : Int))) && (y8.1 == (0 : Int))) && (y8.2 == (130 : Int)))) .n))) ?_
   refine gj (vi 0) 60 (.mov 8) 59 true rfl ?_
   refine gk (vb true) 61 (.bin .eql false 60 (ki 0)) 59 true rfl (fun hg => (.cons hg (.cons rfl .nil))) ?_
   refine pa 62 59 61 rfl rfl ?_
   refine rk 1 (.d3 (.k (.i 63 (vb (((((((y2.1 == (0 : Int)) && y18) && (y5.1 == (0 : Int))) && (y5.2 == ((-1) : Int))) && (y8.1 == (0 : Int))) && (y8.2 == (130 : Int))) && true)) .n))) ?_
   refine gj (.own 0 0 ((List.replicate ((IntKind.u64.wrap ((IntKind.u64.wrap ((([(-1)] : List Int).length : Nat) : Int)) * (IntKind.u64.wrap ((([(Window.mk 0 2), (Window.mk 0 2), (Window.mk 1 3), (Window.mk 2 3)] : List Window).length : Nat) : Int)))).toNat) (0 : Int)).length)) 64 (.mov 7) 63 true rfl ?_
   rcases Bool.eq_false_or_eq_true (((((((y2.1 == (0 : Int)) && y18) && (y5.1 == (0 : Int))) && (y5.2 == ((-1) : Int))) && (y8.1 == (0 : Int))) && (y8.2 == (130 : Int))) && true) with c5 | c5
   ·have h := cond_t h c5
    refine RegJ.op (Op1.effk (v := .own 2 0 4) (ob' := [some (.row 1 (List.map vi v17)), none, some (.row 1 [vi 0, vi 1, vi 2, vi (-1)])]) _ _ (cz (IG 65 (.bslice 1 (.p (.int .i64 0)) 4 [(0, (ki 0)), (1, (ki 1)), (2, (ki 2)), (3, (ki (-1)))]) 63 true) (by kernel_rfl)) (congrArg some c5) (by kernel_rfl) (.cons rfl (.cons rfl (.cons rfl (.cons rfl .nil))))) ?_
    refine RegJ.sees (Sees.freeze 2 (fr' := [(7, .own 0 0 ((List.replicate ((IntKind.u64.wrap ((IntKind.u64.wrap ((([(-1)] : List Int).length : Nat) : Int)) * (IntKind.u64.wrap ((([(Window.mk 0 2), (Window.mk 0 2), (Window.mk 1 3), (Window.mk 2 3)] : List Window).length : Nat) : Int)))).toNat) (0 : Int)).length)), (63, vb (((((((y2.1 == (0 : Int)) && y18) && (y5.1 == (0 : Int))) && (y5.2 == ((-1) : Int))) && (y8.1 == (0 : Int))) && (y8.2 == (130 : Int))) && true)), (64, .cond (((((((y2.1 == (0 : Int)) && y18) && (y5.1 == (0 : Int))) && (y5.2 == ((-1) : Int))) && (y8.1 == (0 : Int))) && (y8.2 == (130 : Int))) && true) (.own 0 0 ((List.replicate ((IntKind.u64.wrap ((IntKind.u64.wrap ((([(-1)] : List Int).length : Nat) : Int)) * (IntKind.u64.wrap ((([(Window.mk 0 2), (Window.mk 0 2), (Window.mk 1 3), (Window.mk 2 3)] : List Window).length : Nat) : Int)))).toNat) (0 : Int)).length))), (65, eS 1 vi ([0, 1, 2, (-1)] : List Int))]) (ob' := [some (.row 1 (List.map vi v17)), none, none]) rfl (frzs_cons rfl (frzs_cons rfl (frzs_cons rfl (frzs_cons rfl frzs_nil)))) (.cons (.refl _) (.cons (.refl _) (.cons (.refl _) (.cons (.own rfl (Nat.le_of_ble_eq_true rfl)) .nil)))) rfl) ?_
    refine bK h fun y19 hy19 h => ?_
    refine RegJ.op (Op1.call (y' := vb y19) (obx := [some (.row 1 (List.map vi v17))]) (oby := [some (.row 1 (List.map vi v17))]) (ob2 := [some (.row 1 (List.map vi v17)), none, none]) _ _ (cy (IG 66 (.call 36 [64, 65]) 63 true)) (congrArg some c5) (agraffebase_Ints_2_ok n v17 0 ((List.replicate ((IntKind.u64.wrap ((IntKind.u64.wrap ((([(-1)] : List Int).length : Nat) : Int)) * (IntKind.u64.wrap ((([(Window.mk 0 2), (Window.mk 0 2), (Window.mk 1 3), (Window.mk 2 3)] : List Window).length : Nat) : Int)))).toNat) (0 : Int)).length) ([0, 1, 2, (-1)] : List Int) y19 hy19) [0] (by kernel_rfl) (.cons rfl (.cons c5 (.cons rfl .nil))) (by kernel_rfl) (by kernel_rfl) (.same (row_ren vi_frz _ _ _) .nil) (by kernel_rfl) (.same (row_ren vi_frz _ _ _) .nil) (by kernel_rfl)) ?_
    refine pa 67 63 66 rfl rfl ?_
    refine jk 1 (.i 0 (vb ((((((((y2.1 == (0 : Int)) && y18) && (y5.1 == (0 : Int))) && (y5.2 == ((-1) : Int))) && (y8.1 == (0 : Int))) && (y8.2 == (130 : Int))) && true) && y19)) .n) ?_
    exact Vs.intro (sc [] (by decide) (by kernel_rfl) ObRen.nil rfl rfl) ⟨((((((((y2.1 == (0 : Int)) && y18) && (y5.1 == (0 : Int))) && (y5.2 == ((-1) : Int))) && (y8.1 == (0 : Int))) && (y8.2 == (130 : Int))) && true) && y19), rfl, h⟩
   have h := cond_f h c5
   refine RegJ.op (Op1.skipc (g := ((((((y2.1 == (0 : Int)) && y18) && (y5.1 == (0 : Int))) && (y5.2 == ((-1) : Int))) && (y8.1 == (0 : Int))) && (y8.2 == (130 : Int))) && true) (v := vb false) (by kernel_rfl : compAt _ _ _ _ = some ⟨(some 65), .bslice 1 (.p (.int .i64 0)) 4 [(0, (ki 0)), (1, (ki 1)), (2, (ki 2)), (3, (ki (-1)))], (some (63, true)), [(ki 0), (ki 1), (ki 2), (ki (-1))], 0⟩) rfl c5) ?_
   refine RegJ.op (Op1.skipc (g := ((((((y2.1 == (0 : Int)) && y18) && (y5.1 == (0 : Int))) && (y5.2 == ((-1) : Int))) && (y8.1 == (0 : Int))) && (y8.2 == (130 : Int))) && true) (v := vb false) (by kernel_rfl : compAt _ _ _ _ = some ⟨(some 66), .call 36 [64, 65], (some (63, true)), [(.c (.fn (.func 36) [] [])), 64, 65], 2⟩) rfl c5) ?_
   refine pa 67 63 66 rfl rfl ?_
   refine jq 1 [(0, vb ((((((((y2.1 == (0 : Int)) && y18) && (y5.1 == (0 : Int))) && (y5.2 == ((-1) : Int))) && (y8.1 == (0 : Int))) && (y8.2 == (130 : Int))) && true) && false))] [some (.row 1 (List.map vi v17)), none] ?_
   exact Vs.intro (sc [] (by decide) (by kernel_rfl) ObRen.nil rfl rfl) ⟨((((((((y2.1 == (0 : Int)) && y18) && (y5.1 == (0 : Int))) && (y5.2 == ((-1) : Int))) && (y8.1 == (0 : Int))) && (y8.2 == (130 : Int))) && true) && false), rfl, h⟩
  have h := cond_f h c4
  refine RegJ.op (Op1.skipc (g := (y2.1 == (0 : Int))) (v := vb false) (by kernel_rfl : compAt _ _ _ _ = some ⟨(some 40), .bslice 1 (.p (.int .i64 0)) 3 [(0, (ki 0)), (1, (ki 30)), (2, (ki 50))], (some (38, true)), [(ki 0), (ki 30), (ki 50)], 0⟩) rfl c4) ?_
  refine RegJ.op (Op1.skipc (g := (y2.1 == (0 : Int))) (v := vb false) (by kernel_rfl : compAt _ _ _ _ = some ⟨(some 41), .call 36 [39, 40], (some (38, true)), [(.c (.fn (.func 36) [] [])), 39, 40], 2⟩) rfl c4) ?_
  refine pa 42 38 41 rfl rfl ?_
  refine rn 1 [(3, vi y5.2), (4, vi y5.1), (5, vi y8.2), (6, vi y8.1), (7, .own 0 0 ((List.replicate ((IntKind.u64.wrap ((IntKind.u64.wrap ((([(-1)] : List Int).length : Nat) : Int)) * (IntKind.u64.wrap ((([(Window.mk 0 2), (Window.mk 0 2), (Window.mk 1 3), (Window.mk 2 3)] : List Window).length : Nat) : Int)))).toNat) (0 : Int)).length)), (8, vi 0), (43, vb ((y2.1 == (0 : Int)) && false))] [some (.row 1 (List.map vi v17))] ?_
  refine gj (vi y5.1) 44 (.mov 4) 43 true rfl ?_
  refine gk (vb (y5.1 == (0 : Int))) 45 (.bin .eql false 44 (ki 0)) 43 true rfl (fun hg => (.cons hg (.cons rfl .nil))) ?_
  refine pa 46 43 45 rfl rfl ?_
  refine rk 1 (.d3 (.k (.d (.k4 (.i 47 (vb (((y2.1 == (0 : Int)) && false) && (y5.1 == (0 : Int)))) .n))))) ?_
  refine gj (vi y5.2) 48 (.mov 3) 47 true rfl ?_
  refine gk (vb (y5.2 == ((-1) : Int))) 49 (.bin .eql false 48 (ki (-1))) 47 true rfl (fun hg => (.cons hg (.cons rfl .nil))) ?_
  refine pa 50 47 49 rfl rfl ?_
  refine rk 1 (.d4 (.k4 (.i 51 (vb ((((y2.1 == (0 : Int)) && false) && (y5.1 == (0 : Int))) && (y5.2 == ((-1) : Int)))) .n))) ?_
  refine gj (vi y8.1) 52 (.mov 6) 51 true rfl ?_
  refine gk (vb (y8.1 == (0 : Int))) 53 (.bin .eql false 52 (ki 0)) 51 true rfl (fun hg => (.cons hg (.cons rfl .nil))) ?_
  refine pa 54 51 53 rfl rfl ?_
  refine rk 1 (.d3 (.k (.d (.k2 (.i 55 (vb (((((y2.1 == (0 : Int)) && false) && (y5.1 == (0 : Int))) && (y5.2 == ((-1) : Int))) && (y8.1 == (0 : Int)))) .n))))) ?_
  refine gj (vi y8.2) 56 (.mov 5) 55 true rfl ?_
  refine gk (vb (y8.2 == (130 : Int))) 57 (.bin .eql false 56 (ki 130)) 55 true rfl (fun hg => (.cons hg (.cons rfl .nil))) ?_
  refine pa 58 55 57 rfl rfl ?_
  refine rk 1 (.d4 (.k2 (.i 59 (vb ((((((y2.1 == (0 : Int)) && false) && (y5.1 == (0 : Int))) && (y5.2 == ((-1) : Int))) && (y8.1 == (0 : Int))) && (y8.2 == (130 : Int)))) .n))) ?_
  refine gj (vi 0) 60 (.mov 8) 59 true rfl ?_
  refine gk (vb true) 61 (.bin .eql false 60 (ki 0)) 59 true rfl (fun hg => (.cons hg (.cons rfl .nil))) ?_
  refine pa 62 59 61 rfl rfl ?_
  refine rk 1 (.d3 (.k (.i 63 (vb (((((((y2.1 == (0 : Int)) && false) && (y5.1 == (0 : Int))) && (y5.2 == ((-1) : Int))) && (y8.1 == (0 : Int))) && (y8.2 == (130 : Int))) && true)) .n))) ?_
  refine gj (.own 0 0 ((List.replicate ((IntKind.u64.wrap ((IntKind.u64.wrap ((([(-1)] : List Int).length : Nat) : Int)) * (IntKind.u64.wrap ((([(Window.mk 0 2), (Window.mk 0 2), (Window.mk 1 3), (Window.mk 2 3)] : List Window).length : Nat) : Int)))).toNat) (0 : Int)).length)) 64 (.mov 7) 63 true rfl ?_
  rcases Bool.eq_false_or_eq_true (((((((y2.1 == (0 : Int)) && false) && (y5.1 == (0 : Int))) && (y5.2 == ((-1) : Int))) && (y8.1 == (0 : Int))) && (y8.2 == (130 : Int))) && true) with c6 | c6
  ·have h := cond_t h c6
   refine RegJ.op (Op1.effk (v := .own 1 0 4) (ob' := [some (.row 1 (List.map vi v17)), some (.row 1 [vi 0, vi 1, vi 2, vi (-1)])]) _ _ (cz (IG 65 (.bslice 1 (.p (.int .i64 0)) 4 [(0, (ki 0)), (1, (ki 1)), (2, (ki 2)), (3, (ki (-1)))]) 63 true) (by kernel_rfl)) (congrArg some c6) (by kernel_rfl) (.cons rfl (.cons rfl (.cons rfl (.cons rfl .nil))))) ?_
   refine RegJ.sees (Sees.freeze 1 (fr' := [(7, .own 0 0 ((List.replicate ((IntKind.u64.wrap ((IntKind.u64.wrap ((([(-1)] : List Int).length : Nat) : Int)) * (IntKind.u64.wrap ((([(Window.mk 0 2), (Window.mk 0 2), (Window.mk 1 3), (Window.mk 2 3)] : List Window).length : Nat) : Int)))).toNat) (0 : Int)).length)), (63, vb (((((((y2.1 == (0 : Int)) && false) && (y5.1 == (0 : Int))) && (y5.2 == ((-1) : Int))) && (y8.1 == (0 : Int))) && (y8.2 == (130 : Int))) && true)), (64, .cond (((((((y2.1 == (0 : Int)) && false) && (y5.1 == (0 : Int))) && (y5.2 == ((-1) : Int))) && (y8.1 == (0 : Int))) && (y8.2 == (130 : Int))) && true) (.own 0 0 ((List.replicate ((IntKind.u64.wrap ((IntKind.u64.wrap ((([(-1)] : List Int).length : Nat) : Int)) * (IntKind.u64.wrap ((([(Window.mk 0 2), (Window.mk 0 2), (Window.mk 1 3), (Window.mk 2 3)] : List Window).length : Nat) : Int)))).toNat) (0 : Int)).length))), (65, eS 1 vi ([0, 1, 2, (-1)] : List Int))]) (ob' := [some (.row 1 (List.map vi v17)), none]) rfl (frzs_cons rfl (frzs_cons rfl (frzs_cons rfl (frzs_cons rfl frzs_nil)))) (.cons (.refl _) (.cons (.refl _) (.cons (.refl _) (.cons (.own rfl (Nat.le_of_ble_eq_true rfl)) .nil)))) rfl) ?_
   refine bK h fun y20 hy20 h => ?_
   refine RegJ.op (Op1.call (y' := vb y20) (obx := [some (.row 1 (List.map vi v17))]) (oby := [some (.row 1 (List.map vi v17))]) (ob2 := [some (.row 1 (List.map vi v17)), none]) _ _ (cy (IG 66 (.call 36 [64, 65]) 63 true)) (congrArg some c6) (agraffebase_Ints_2_ok n v17 0 ((List.replicate ((IntKind.u64.wrap ((IntKind.u64.wrap ((([(-1)] : List Int).length : Nat) : Int)) * (IntKind.u64.wrap ((([(Window.mk 0 2), (Window.mk 0 2), (Window.mk 1 3), (Window.mk 2 3)] : List Window).length : Nat) : Int)))).toNat) (0 : Int)).length) ([0, 1, 2, (-1)] : List Int) y20 hy20) [0] (by kernel_rfl) (.cons rfl (.cons c6 (.cons rfl .nil))) (by kernel_rfl) (by kernel_rfl) (.same (row_ren vi_frz _ _ _) .nil) (by kernel_rfl) (.same (row_ren vi_frz _ _ _) .nil) (by kernel_rfl)) ?_
   refine pa 67 63 66 rfl rfl ?_
   refine jk 1 (.i 0 (vb ((((((((y2.1 == (0 : Int)) && false) && (y5.1 == (0 : Int))) && (y5.2 == ((-1) : Int))) && (y8.1 == (0 : Int))) && (y8.2 == (130 : Int))) && true) && y20)) .n) ?_
   exact Vs.intro (sc [] (by decide) (by kernel_rfl) ObRen.nil rfl rfl) ⟨((((((((y2.1 == (0 : Int)) && false) && (y5.1 == (0 : Int))) && (y5.2 == ((-1) : Int))) && (y8.1 == (0 : Int))) && (y8.2 == (130 : Int))) && true) && y20), rfl, h⟩
  have h := cond_f h c6
  refine RegJ.op (Op1.skipc (g := ((((((y2.1 == (0 : Int)) && false) && (y5.1 == (0 : Int))) && (y5.2 == ((-1) : Int))) && (y8.1 == (0 : Int))) && (y8.2 == (130 : Int))) && true) (v := vb false) (by kernel_rfl : compAt _ _ _ _ = some ⟨(some 65), .bslice 1 (.p (.int .i64 0)) 4 [(0, (ki 0)), (1, (ki 1)), (2, (ki 2)), (3, (ki (-1)))], (some (63, true)), [(ki 0), (ki 1), (ki 2), (ki (-1))], 0⟩) rfl c6) ?_
  refine RegJ.op (Op1.skipc (g := ((((((y2.1 == (0 : Int)) && false) && (y5.1 == (0 : Int))) && (y5.2 == ((-1) : Int))) && (y8.1 == (0 : Int))) && (y8.2 == (130 : Int))) && true) (v := vb false) (by kernel_rfl : compAt _ _ _ _ = some ⟨(some 66), .call 36 [64, 65], (some (63, true)), [(.c (.fn (.func 36) [] [])), 64, 65], 2⟩) rfl c6) ?_
  refine pa 67 63 66 rfl rfl ?_
  refine jq 1 [(0, vb ((((((((y2.1 == (0 : Int)) && false) && (y5.1 == (0 : Int))) && (y5.2 == ((-1) : Int))) && (y8.1 == (0 : Int))) && (y8.2 == (130 : Int))) && true) && false))] [some (.row 1 (List.map vi v17))] ?_
  exact Vs.intro (sc [] (by decide) (by kernel_rfl) ObRen.nil rfl rfl) ⟨((((((((y2.1 == (0 : Int)) && false) && (y5.1 == (0 : Int))) && (y5.2 == ((-1) : Int))) && (y8.1 == (0 : Int))) && (y8.2 == (130 : Int))) && true) && false), rfl, h⟩
 intro k1 k3 h
 refine q6 ?_
 refine rko 5 (.k4 (.k2 (.i 32 (.own 0 0 4) .n))) [some (.row 2 [.agg [vi 0, vi 2], .agg [vi 0, vi 2], .agg [vi 1, vi 3], .agg [vi 2, vi 3]])] ?_
 refine RegJ.sees (Sees.freeze 0 (fr' := [(1, eS 1 vi y2.2), (2, vi y2.1), (3, vi y5.2), (4, vi y5.1), (5, vi y8.2), (6, vi y8.1), (32, eS 2 eWindow ([(Window.mk 0 2), (Window.mk 0 2), (Window.mk 1 3), (Window.mk 2 3)] : List Window))]) (ob' := [none]) rfl (frzs_cons rfl (frzs_cons rfl (frzs_cons rfl (frzs_cons rfl frzs_nil)))) (.cons (.refl _) (.cons (.refl _) (.cons (.refl _) (.cons (.refl _) (.cons (.refl _) (.cons (.refl _) (.cons (.own rfl (Nat.le_of_ble_eq_true rfl)) .nil))))))) rfl) ?_
 refine bK h fun y9 hy9 h => ?_
 rcases y9 with y9 | y9
 ·dsimp only at h
  refine jc 33 [32] (diary_Most_ok n ([(Window.mk 0 2), (Window.mk 0 2), (Window.mk 1 3), (Window.mk 2 3)] : List Window) (Sum.inl y9) hy9) ?_
  refine jk 5 (.d (.k4 (.k2 (.i 7 .emp (.i 8 (vi y9) .n))))) ?_
  exact Vs.intro (sc [] (by decide) (by kernel_rfl) ObRen.nil rfl rfl) (.inl ⟨y9, rfl, h⟩)
 dsimp only at h
 refine jco (.tup [.own 1 0 ((List.replicate ((IntKind.u64.wrap ((IntKind.u64.wrap ((([(-1)] : List Int).length : Nat) : Int)) * (IntKind.u64.wrap ((([(Window.mk 0 2), (Window.mk 0 2), (Window.mk 1 3), (Window.mk 2 3)] : List Window).length : Nat) : Int)))).toNat) (0 : Int)).length), vi 0]) 33 [32] (diary_Most_ok n ([(Window.mk 0 2), (Window.mk 0 2), (Window.mk 1 3), (Window.mk 2 3)] : List Window) (Sum.inr y9) hy9) [] rfl ObsRen.nil (.same (row_ren vi_frz _ _ _) .nil) rfl ?_
 refine jk 5 (.d (.k4 (.k2 (.i 7 (.own 1 0 ((List.replicate ((IntKind.u64.wrap ((IntKind.u64.wrap ((([(-1)] : List Int).length : Nat) : Int)) * (IntKind.u64.wrap ((([(Window.mk 0 2), (Window.mk 0 2), (Window.mk 1 3), (Window.mk 2 3)] : List Window).length : Nat) : Int)))).toNat) (0 : Int)).length)) (.i 8 (vi 0) .n))))) ?_
 exact Vs.intro (sc [1] (by decide) (by kernel_rfl) (obRen_row vi_frz rfl .nil) rfl rfl) (.inr ⟨y9, rfl, h⟩)
theorem agraffelaw09_slim_ok (n : Nat) (a0 : Item) (r : Unit) (h : agraffelaw09_slim n a0 = some r) : FnL Tryz.prog 15 [.agg [vi a0.Kind, vi a0.From, vi a0.To, vt a0.Grand, vt a0.Place, vt a0.Who, vi a0.Deposit]] [] (vb (((decide (a0.Grand.length ≤ 30)) && (decide (a0.Place.length ≤ 30))) && (decide (a0.Who.length ≤ 30)))) [] := by
 dsimp only [agraffelaw09_slim] at h
 refine fo [2] Tryz.call15 Tryz.func15 rfl ?_
 refine sko (.i 1 (.ptr 0 0 0) .n) [some (.row 7 [.agg [vi a0.Kind, vi a0.From, vi a0.To, vt a0.Grand, vt a0.Place, vt a0.Who, vi a0.Deposit]])] ?_
 refine sj ?_
 refine rk 2 (.k (.i 4 (vt a0.Grand) .n)) ?_
 refine jo 5 (.len 1 4) (ok_len_t rfl) ?_
 refine jo 6 (.bin .leq false 5 (ki 30)) (n_leq (i := a0.Grand.length) (j := 30) rfl rfl) ?_
 refine rk 1 (.d2 (.k (.i 7 (vb (decide (a0.Grand.length ≤ 30))) .n))) ?_
 refine gj (.ptr 0 0 4) 8 (.faddr 4 1) 7 true rfl ?_
 refine gk (vt a0.Place) 9 (.load false 1 8) 7 true rfl (fun hg => (.cons hg .nil)) ?_
 refine gv 10 (.len 1 9) 7 true rfl (fun hg => (ok_len_t rfl)) (fun hg => (.cons hg .nil)) ?_
 refine gv 11 (.bin .leq false 10 (ki 30)) 7 true rfl (fun hg => (n_leq (i := a0.Place.length) (j := 30) rfl rfl)) (fun hg => (.cons hg (.cons rfl .nil))) ?_
 refine pa 12 7 11 rfl rfl ?_
 refine rk 1 (.d4 (.d (.k (.i 13 (vb ((decide (a0.Grand.length ≤ 30)) && (decide (a0.Place.length ≤ 30)))) .n)))) ?_
 refine gj (.ptr 0 0 5) 14 (.faddr 5 1) 13 true rfl ?_
 refine gk (vt a0.Who) 15 (.load false 1 14) 13 true rfl (fun hg => (.cons hg .nil)) ?_
 refine gv 16 (.len 1 15) 13 true rfl (fun hg => (ok_len_t rfl)) (fun hg => (.cons hg .nil)) ?_
 refine gv 17 (.bin .leq false 16 (ki 30)) 13 true rfl (fun hg => (n_leq (i := a0.Who.length) (j := 30) rfl rfl)) (fun hg => (.cons hg (.cons rfl .nil))) ?_
 refine pa 18 13 17 rfl rfl ?_
 refine jk 1 (.i 2 (vb (((decide (a0.Grand.length ≤ 30)) && (decide (a0.Place.length ≤ 30))) && (decide (a0.Who.length ≤ 30)))) .n) ?_
 refine q3 ?_
 have h := si h
 subst h
 exact DoneS.ret (S' := ⟨[(2, vb (((decide (a0.Grand.length ≤ 30)) && (decide (a0.Place.length ≤ 30))) && (decide (a0.Who.length ≤ 30))))], []⟩) (sc [] (by decide) (by kernel_rfl) ObRen.nil rfl rfl) rfl rfl
theorem strconv_Itoa_ok (n : Nat) (a0 : Int) (r : Str) (h : strconv_Itoa n a0 = some r) : FnL Tryz.prog 38 [vi a0] [] (vt r) [] := by
 refine cK h fun c h => ?_
 cases h
 exact itoa_call c
theorem strings_Join_ok (n : Nat) (a0 : List Str) (a1 : Str) (r : Str) (h : strings_Join n a0 a1 = some r) : FnL Tryz.prog 37 [.own 0 0 a0.length, vt a1] [some (.row 1 (List.map vt a0))] (vt r) [some (.row 1 (List.map vt a0))] := by
 refine cK h fun c1 h => ?_
 refine cK h fun c2 h => ?_
 cases h
 exact join_callO c1 c2
set_option maxHeartbeats 1000000 in
theorem diary_FormatItem_ok (n : Nat) (a0 : Item) (r : Str) (h : diary_FormatItem n a0 = some r) : FnL Tryz.prog 16 [.agg [vi a0.Kind, vi a0.From, vi a0.To, vt a0.Grand, vt a0.Place, vt a0.Who, vi a0.Deposit]] [] (vt r) [] := by
 dsimp only [diary_FormatItem] at h
 refine fo [2] Tryz.call16 Tryz.func16 rfl ?_
 refine sko (.i 1 (.ptr 0 0 0) .n) [some (.row 7 [.agg [vi a0.Kind, vi a0.From, vi a0.To, vt a0.Grand, vt a0.Place, vt a0.Who, vi a0.Deposit]])] ?_
 refine sj ?_
 refine rk 2 (.k (.i 7 (vi a0.Kind) .n)) ?_
 refine bK h fun y1 hy1 h => ?_
 refine jc 8 [7] (strconv_Itoa_ok n a0.Kind y1 hy1) ?_
 refine jk 1 (.d (.k (.i 3 (vt y1) .n))) ?_
 refine sj ?_
 refine rk 2 (.k2 (.i 10 (vi a0.Kind) .n)) ?_
 refine bK h fun y2 hy2 h => ?_
 refine jc 11 [10, (ki 0), (ki 3)] (diary_within_ok n a0.Kind 0 3 y2 hy2) ?_
 refine jk 1 (.d (.k2 (.i 4 (vb ((decide (0 ≤ a0.Kind)) && (decide (a0.Kind ≤ 3)))) .n))) ?_
 refine TriE.seqK h (fun (v3 : Str) => St.mk [(1, .ptr 0 0 0), (4, vb ((decide (0 ≤ a0.Kind)) && (decide (a0.Kind ≤ 3)))), (3, vt v3)] [some (.row 7 [.agg [vi a0.Kind, vi a0.From, vi a0.To, vt a0.Grand, vt a0.Place, vt a0.Who, vi a0.Deposit]])]) ?_ ?_
 ·rintro v3 h
  refine q1 ?_
  refine ts .a ?_
  refine TriE.draw (by kernel_rfl) ?_
  refine dk 3 (.i 19 (vi a0.From) (.i 18 (.ptr 0 0 1) (.i 17 (vt v3) .a))) ?_
  refine bK h fun y4 hy4 h => ?_
  refine dc (vt y4) 0 20 [19] (strconv_Itoa_ok n a0.From y4 hy4) [] rfl ObsRen.nil ObsRen.nil rfl (.inr ⟨rfl, rfl⟩) ?_
  refine dk 2 (.i 22 (vi a0.To) (.i 21 (.ptr 0 0 2) .a)) ?_
  refine bK h fun y5 hy5 h => ?_
  refine dc (vt y5) 0 23 [22] (strconv_Itoa_ok n a0.To y5 hy5) [] rfl ObsRen.nil ObsRen.nil rfl (.inr ⟨rfl, rfl⟩) ?_
  refine dko 6 (.i 5 (.own 12 0 5) (.i 28 (.own 12 0 5) (.i 27 (vt a0.Place) (.i 26 (.ptr 0 0 4) (.i 25 (vt a0.Grand) (.i 24 (.ptr 0 0 3) .a)))))) [some (.row 7 [.agg [vi a0.Kind, vi a0.From, vi a0.To, vt a0.Grand, vt a0.Place, vt a0.Who, vi a0.Deposit]]), none, none, none, none, none, none, none, none, none, none, none, some (.row 1 [vt v3, vt y4, vt y5, vt a0.Grand, vt a0.Place]), none] ?_
  refine dfi (ob' := [some (.row 7 [.agg [vi a0.Kind, vi a0.From, vi a0.To, vt a0.Grand, vt a0.Place, vt a0.Who, vi a0.Deposit]]), some (.row 1 [vt v3, vt y4, vt y5, vt a0.Grand, vt a0.Place])]) (.d4 (.d4 (.d4 (.d (.k2 (.i 5 (.own 1 0 5) .n)))))) [0, 12] (.cons rfl (.cons rfl .nil)) ?_
  refine TriE.seqK h (fun (v6 : (List Str)) => St.mk [(1, .ptr 0 0 0), (4, vb ((decide (0 ≤ a0.Kind)) && (decide (a0.Kind ≤ 3)))), (5, .own 1 0 v6.length)] [some (.row 7 [.agg [vi a0.Kind, vi a0.From, vi a0.To, vt a0.Grand, vt a0.Place, vt a0.Who, vi a0.Deposit]]), some (.row 1 (List.map vt v6))]) ?_ ?_
  ·rintro v6 h
   refine TriE.seqK h (fun (v8 : (List Str)) => St.mk [(5, .own 0 0 v8.length)] [some (.row 1 (List.map vt v8))]) ?_ ?_
   ·rintro v8 h
    refine sj ?_
    refine rk 1 (.i 59 (.own 0 0 v8.length) .n) ?_
    refine bK h fun y9 hy9 h => ?_
    refine jco (vt y9) 60 [59, (.c (.p (.string ⟨#[32]⟩)))] (strings_Join_ok n v8 ([32] : Str) y9 hy9) [0] rfl (.same (row_ren vt_frz _ _ _) .nil) (.same (row_ren vt_frz _ _ _) .nil) rfl ?_
    refine jk 1 (.i 2 (vt y9) .n) ?_
    refine q3 ?_
    have h := si h
    subst h
    exact DoneS.ret (S' := ⟨[(2, vt y9)], []⟩) (sc [] (by decide) (by kernel_rfl) ObRen.nil rfl rfl) rfl rfl
   intro k3 h
   refine sj ?_
   refine rk 3 (.k (.d (.k (.i 48 (vb (!((decide (0 ≤ a0.Kind)) && (decide (a0.Kind ≤ 3))))) .n)))) ?_
   refine gj (.ptr 0 0 0) 49 (.faddr 0 1) 48 false rfl ?_
   refine gk (vi a0.Kind) 50 (.load false 1 49) 48 false rfl (fun hg => (.cons hg .nil)) ?_
   refine gk (vb (a0.Kind == (3 : Int))) 51 (.bin .eql false 50 (ki 3)) 48 false rfl (fun hg => (.cons hg (.cons rfl .nil))) ?_
   refine po 52 48 51 rfl rfl ?_
   refine jf (.d4 (.k2 (.i 52 (vb ((!((decide (0 ≤ a0.Kind)) && (decide (a0.Kind ≤ 3)))) || (a0.Kind == (3 : Int)))) .n))) ?_
   refine tc h (fun c6 h => ?_) (fun c6 h => ?_)
   ·refine q6 ?_
    refine rk 3 (.i 53 (.own 1 0 v6.length) (.i 55 (vi a0.Deposit) .n)) ?_
    refine bK h fun y7 hy7 h => ?_
    refine jc 56 [55] (strconv_Itoa_ok n a0.Deposit y7 hy7) ?_
    refine rko 1 (.d (.k (.i 57 (.own 2 0 1) .n))) [some (.row 7 [.agg [vi a0.Kind, vi a0.From, vi a0.To, vt a0.Grand, vt a0.Place, vt a0.Who, vi a0.Deposit]]), some (.row 1 (List.map vt v6)), some (.row 1 [vt y7])] ?_
    refine cK h fun c7 h => ?_
    refine jx 58 (.app 1 16 53 57) _ (ok_app_own (l := v6) (l2 := ([y7] : List Str)) (e := vt) (u := .own 2 0 1) rfl rfl rfl rfl rfl c7) rfl rfl ?_
    refine jk 1 (.i 5 (.own 3 0 ((v6 ++ ([y7] : List Str)).length)) .n) ?_
    exact Vs.intro (sc [3] (by decide) (by kernel_rfl) (obRen_row vt_frz rfl .nil) rfl rfl) ⟨(v6 ++ ([y7] : List Str)), rfl, h⟩
   refine q2 ?_
   exact Vs.intro (sc [1] (by decide) (by kernel_rfl) (obRen_row vt_frz rfl .nil) rfl rfl) ⟨v6, rfl, h⟩
  intro k2 h
  refine sj ?_
  refine rk 3 (.k3 (.i 31 (vb (!((decide (0 ≤ a0.Kind)) && (decide (a0.Kind ≤ 3))))) .n)) ?_
  refine gj (.ptr 0 0 0) 32 (.faddr 0 1) 31 false rfl ?_
  refine gk (vi a0.Kind) 33 (.load false 1 32) 31 false rfl (fun hg => (.cons hg .nil)) ?_
  refine gk (vb (a0.Kind == (0 : Int))) 34 (.bin .eql false 33 (ki 0)) 31 false rfl (fun hg => (.cons hg (.cons rfl .nil))) ?_
  refine po 35 31 34 rfl rfl ?_
  refine rk 1 (.d4 (.k3 (.i 36 (vb ((!((decide (0 ≤ a0.Kind)) && (decide (a0.Kind ≤ 3)))) || (a0.Kind == (0 : Int)))) .n))) ?_
  refine gj (.ptr 0 0 0) 37 (.faddr 0 1) 36 false rfl ?_
  refine gk (vi a0.Kind) 38 (.load false 1 37) 36 false rfl (fun hg => (.cons hg .nil)) ?_
  refine gk (vb (a0.Kind == (3 : Int))) 39 (.bin .eql false 38 (ki 3)) 36 false rfl (fun hg => (.cons hg (.cons rfl .nil))) ?_
  refine po 40 36 39 rfl rfl ?_
  refine jf (.d4 (.k3 (.i 40 (vb (((!((decide (0 ≤ a0.Kind)) && (decide (a0.Kind ≤ 3)))) || (a0.Kind == (0 : Int))) || (a0.Kind == (3 : Int)))) .n))) ?_
  refine tc h (fun c4 h => ?_) (fun c4 h => ?_)
  ·refine q6 ?_
   refine rko 4 (.k2 (.i 41 (.own 1 0 5) (.i 44 (.own 2 0 1) .n))) [some (.row 7 [.agg [vi a0.Kind, vi a0.From, vi a0.To, vt a0.Grand, vt a0.Place, vt a0.Who, vi a0.Deposit]]), some (.row 1 [vt v3, vt y4, vt y5, vt a0.Grand, vt a0.Place]), some (.row 1 [vt a0.Who])] ?_
   refine cK h fun c5 h => ?_
   refine jx 45 (.app 1 16 41 44) _ (ok_app_own (l := ([v3, y4, y5, a0.Grand, a0.Place] : List Str)) (l2 := ([a0.Who] : List Str)) (e := vt) (u := .own 2 0 1) rfl rfl rfl rfl rfl c5) rfl rfl ?_
   refine jk 1 (.d (.k2 (.i 5 (.own 3 0 ((([v3, y4, y5, a0.Grand, a0.Place] : List Str) ++ ([a0.Who] : List Str)).length)) .n))) ?_
   exact Vs.intro (sc [0, 3] (by decide) (by kernel_rfl) (.cons rfl (obRen_row vt_frz rfl .nil)) rfl rfl) ⟨(([v3, y4, y5, a0.Grand, a0.Place] : List Str) ++ ([a0.Who] : List Str)), rfl, h⟩
  refine q2 ?_
  exact Vs.intro sy ⟨([v3, y4, y5, a0.Grand, a0.Place] : List Str), rfl, h⟩
 intro k1 h
 refine sk (.k3 (.i 12 (vb ((decide (0 ≤ a0.Kind)) && (decide (a0.Kind ≤ 3)))) .n)) ?_
 refine tc h (fun c1 h => ?_) (fun c1 h => ?_)
 ·refine q6 ?_
  refine rk 2 (.k (.d (.k (.i 14 (vi a0.Kind) .n)))) ?_
  refine cK h fun c2 h => ?_
  refine jo 15 (.aaddr 4 1 (.c (globV 0)) 14) (ok_kaddr (q := a0.Kind) rfl rfl c2) ?_
  refine cK h fun c3 h => ?_
  refine jo 16 (.load false 1 15) (ok_kload (i := a0.Kind.toNat) rfl c3) ?_
  refine jk 1 (.d2 (.k2 (.i 3 (vt (ix gKinds a0.Kind.toNat)) .n))) ?_
  exact Vs.intro Sees.refl ⟨(ix gKinds a0.Kind.toNat), rfl, h⟩
 refine q2 ?_
 exact Vs.intro sy ⟨y1, rfl, h⟩
theorem strings_Split_ok (n : Nat) (a0 : Str) (a1 : Str) (r : List Str) (h : strings_Split n a0 a1 = some r) : FnL Tryz.prog 39 [vt a0, vt a1] [] (eS 1 vt r) [] := by
 refine cK h fun c h => ?_
 match a1, h with
 | [_], h => cases h; exact split_call c
theorem strconv_Atoi_ok (n : Nat) (a0 : Str) (r : (Int × Bool)) (h : strconv_Atoi n a0 = some r) : FnL Tryz.prog 92 [vt a0] [] (.tup [vi r.1, errV 253 r.2]) [] := by
 refine cK h fun c h => ?_
 cases h
 exact atoi_call c
theorem internal_stringslite_HasPrefix_ok (n : Nat) (a0 : Str) (a1 : Str) (r : Unit) (h : internal_stringslite_HasPrefix n a0 a1 = some r) : FnL Tryz.prog 191 [vt a0, vt a1] [] (vb ((decide (a1.length ≤ a0.length)) && ((List.take a1.length a0) == a1))) [] := by
 dsimp only [internal_stringslite_HasPrefix] at h
 refine fo [4] Tryz.call191 Tryz.func191 rfl ?_
 refine sk .a ?_
 refine sj ?_
 refine rk 1 (.k2 (.i 5 (vt a0) .n)) ?_
 refine jo 6 (.len 1 5) (ok_len_t rfl) ?_
 refine rk 1 (.d (.k2 (.i 6 (vi (a0.length : Int)) (.i 7 (vt a1) .n)))) ?_
 refine jo 8 (.len 1 7) (ok_len_t rfl) ?_
 refine jo 9 (.bin .geq false 6 8) (n_geq (i := a0.length) (j := a1.length) rfl rfl) ?_
 refine rk 1 (.d2 (.k2 (.i 10 (vb (decide (a1.length ≤ a0.length))) .n))) ?_
 refine gj (vt a0) 11 (.mov 0) 10 true rfl ?_
 refine gj (vt a1) 12 (.mov 1) 10 true rfl ?_
 refine gv 13 (.len 1 12) 10 true rfl (fun hg => (ok_len_t rfl)) (fun hg => (.cons hg .nil)) ?_
 refine gv 14 (.sslc 11 none (some 13)) 10 true rfl (fun hg => (ok_sslc_hi (j := a1.length) rfl rfl rfl hg)) (fun hg => (.cons hg (.cons hg .nil))) ?_
 refine gj (vt a1) 15 (.mov 1) 10 true rfl ?_
 refine gk (vb ((List.take a1.length a0) == a1)) 16 (.bin .eql false 14 15) 10 true rfl (fun hg => (.cons hg (.cons hg .nil))) ?_
 refine pa 17 10 16 rfl rfl ?_
 refine jk 1 (.i 4 (vb ((decide (a1.length ≤ a0.length)) && ((List.take a1.length a0) == a1))) .n) ?_
 refine q3 ?_
 have h := si h
 subst h
 exact DoneS.ret Sees.refl rfl rfl
theorem internal_stringslite_TrimPrefix_ok (n : Nat) (a0 : Str) (a1 : Str) (r : Str) (h : internal_stringslite_TrimPrefix n a0 a1 = some r) : FnL Tryz.prog 140 [vt a0, vt a1] [] (vt r) [] := by
 dsimp only [internal_stringslite_TrimPrefix] at h
 refine fo [4] Tryz.call140 Tryz.func140 rfl ?_
 refine sk .a ?_
 refine q1 ?_
 refine sj ?_
 refine rk 2 (.k2 (.i 5 (vt a0) (.i 6 (vt a1) .n))) ?_
 refine bK h fun y1 hy1 h => ?_
 refine jc 7 [5, 6] (internal_stringslite_HasPrefix_ok n a0 a1 y1 hy1) ?_
 refine jf (.d (.k2 (.i 7 (vb ((decide (a1.length ≤ a0.length)) && ((List.take a1.length a0) == a1))) .n))) ?_
 refine tc h (fun c1 h => ?_) (fun c1 h => ?_)
 ·refine sj ?_
  refine rk 2 (.i 8 (vt a0) (.i 9 (vt a1) .n)) ?_
  refine jo 10 (.len 1 9) (ok_len_t rfl) ?_
  refine cK h fun c2 h => ?_
  refine jo 11 (.sslc 8 (some 10) none) (ok_sslc_lo (j := a1.length) rfl rfl rfl c2) ?_
  refine jk 1 (.i 4 (vt (List.drop a1.length a0)) .n) ?_
  refine q3 ?_
  have h := si h
  subst h
  exact DoneS.ret Sees.refl rfl rfl
 refine q2 ?_
 refine sk (.i 4 (vt a0) .n) ?_
 refine q3 ?_
 have h := si h
 subst h
 exact DoneS.ret Sees.refl rfl rfl
theorem strings_TrimPrefix_ok (n : Nat) (a0 : Str) (a1 : Str) (r : Str) (h : strings_TrimPrefix n a0 a1 = some r) : FnL Tryz.prog 93 [vt a0, vt a1] [] (vt r) [] := by
 dsimp only [strings_TrimPrefix] at h
 refine fo [4] Tryz.call93 Tryz.func93 rfl ?_
 refine sk .a ?_
 refine sj ?_
 refine rk 2 (.i 5 (vt a0) (.i 6 (vt a1) .n)) ?_
 refine bK h fun y1 hy1 h => ?_
 refine jc 7 [5, 6] (internal_stringslite_TrimPrefix_ok n a0 a1 y1 hy1) ?_
 refine jk 1 (.i 4 (vt y1) .n) ?_
 refine q3 ?_
 have h := si h
 subst h
 exact DoneS.ret Sees.refl rfl rfl
theorem diary_number_ok (n : Nat) (a0 : Str) (r : Int × Bool) (h : diary_number n a0 = some r) : FnL Tryz.prog 54 [vt a0] [] (.tup [vi r.1, vb r.2]) [] := by
 dsimp only [diary_number] at h
 refine fo [2, 3] Tryz.call54 Tryz.func54 rfl ?_
 refine sk .a ?_
 refine sj ?_
 refine rk 1 (.k (.i 7 (vt a0) .n)) ?_
 refine bK h fun y1 hy1 h => ?_
 refine jc 8 [7] (strconv_Atoi_ok n a0 y1 hy1) ?_ (by generalize y1.2 = b; cases b <;> rfl)
 refine rk 4 (.d (.k (.i 10 (errV 253 y1.2) (.i 4 (vi y1.1) .n)))) ?_
 refine RegJ.op (Op1.val (v := errV 253 y1.2) _ _ (cy (I0 5 (.mov 10))) rfl (ok_mov (tau_err (T := 253) (b := y1.2) (by kernel_rfl))) (.cons (xcond_err (T := 253) (b := y1.2) (by kernel_rfl)) .nil)) ?_
 refine jf (.d (.k (.d (.k (.i 5 (errV 253 y1.2) .n))))) ?_
 refine sj ?_
 refine rk 1 (.k3 (.i 11 (vi y1.1) .n)) ?_
 refine RegJ.op (Op1.val (v := errV 253 y1.2) _ _ (cy (I0 12 (.mov 5))) rfl (ok_mov (tau_err (T := 253) (b := y1.2) (by kernel_rfl))) (.cons (xcond_err (T := 253) (b := y1.2) (by kernel_rfl)) .nil)) ?_
 refine RegJ.op (Op1.err (T := 253) (b := y1.2) false (cy (I0 13 (.bin .eql false 12 (.c (.p .nilIface))))) (by kernel_rfl) rfl (tau_err (by kernel_rfl)) (.cons (xcond_err (T := 253) (b := y1.2) (by kernel_rfl)) (.cons rfl .nil))) ?_
 refine rn 1 [(0, vt a0), (4, vi y1.1), (11, vi y1.1), (14, vb y1.2)] [] ?_
 refine gj (vi y1.1) 15 (.mov 4) 14 true rfl ?_
 refine bK h fun y2 hy2 h => ?_
 refine gc 16 [15] 14 true rfl (fun hg => strconv_Itoa_ok n y1.1 y2 (gcall_some hy2 hg)) (fun hg => (.cons rfl (.cons hg .nil))) (fun hg => by kernel_rfl) ?_
 refine gj (vt a0) 17 (.mov 0) 14 true rfl ?_
 refine gk (vb (y2 == a0)) 18 (.bin .eql false 16 17) 14 true rfl (fun hg => (.cons hg (.cons hg .nil))) ?_
 refine pa 19 14 18 rfl rfl ?_
 refine rk 1 (.d4 (.d (.k (.d (.k (.i 20 (vb (y1.2 && (y2 == a0))) .n)))))) ?_
 refine gj (vt a0) 21 (.mov 0) 20 true rfl ?_
 refine bK h fun y3 hy3 h => ?_
 refine gc 22 [21, (.c (.p (.string ⟨#[45]⟩)))] 20 true rfl (fun hg => strings_TrimPrefix_ok n a0 ([45] : Str) y3 (gcall_some hy3 hg)) (fun hg => (.cons rfl (.cons hg (.cons rfl .nil)))) (fun hg => by kernel_rfl) ?_
 refine gv 23 (.len 1 22) 20 true rfl (fun hg => (ok_len_t rfl)) (fun hg => (.cons hg .nil)) ?_
 refine gv 24 (.bin .leq false 23 (ki 10)) 20 true rfl (fun hg => (n_leq (i := y3.length) (j := 10) rfl rfl)) (fun hg => (.cons hg (.cons rfl .nil))) ?_
 refine pa 25 20 24 rfl rfl ?_
 refine jk 2 (.i 2 (vi y1.1) (.i 3 (vb ((y1.2 && (y2 == a0)) && (decide (y3.length ≤ 10)))) .n)) ?_
 refine q3 ?_
 have h := si h
 subst h
 exact DoneS.ret Sees.refl rfl rfl
set_option maxHeartbeats 1000000 in
theorem diary_ParseItem_ok (n : Nat) (a0 : Str) (r : Int × Int × Int × Str × Str × Str × Int × Int) (h : diary_ParseItem n a0 = some r) : FnL Tryz.prog 17 [vt a0] [] (.tup [.agg [vi r.1, vi r.2.1, vi r.2.2.1, vt r.2.2.2.1, vt r.2.2.2.2.1, vt r.2.2.2.2.2.1, vi r.2.2.2.2.2.2.1], vi r.2.2.2.2.2.2.2]) [] := by
 dsimp only [diary_ParseItem] at h
 refine FnL.ofC [.cell 2 37, .tmp 3] Tryz.call17 Tryz.func17 rfl .nil ?_ (hl := rfl)
 refine sko (.k (.i 2 (.ptr 0 0 0) .n)) [some (.row 7 [.agg [vi 0, vi 0, vi 0, vt ([] : Str), vt ([] : Str), vt ([] : Str), vi 0]])] ?_
 refine sj ?_
 refine rk 1 (.k2 (.i 13 (vt a0) .n)) ?_
 refine bK h fun y1 hy1 h => ?_
 refine jc 14 [13, (.c (.p (.string ⟨#[32]⟩)))] (strings_Split_ok n a0 ([32] : Str) y1 hy1) ?_
 refine jk 1 (.d (.k2 (.i 4 (eS 1 vt y1) .n))) ?_
 refine q1 ?_
 refine ts .a ?_
 refine TriE.draw (by kernel_rfl) ?_
 refine dk 2 (.i 16 (eS 1 vt y1) (.i 15 (eS 1 vt gKinds) .a)) ?_
 refine cK h fun c1 h => ?_
 refine dp 17 (.iaddr 1 16 (ki 0)) (ok_iaddr_m (j := 0) rfl rfl rfl c1) ?_
 refine dp 18 (.load false 1 17) (ok_load_fm (v := vt (ix y1 0)) rfl c1 rfl) ?_
 refine bK h fun y2 hy2 h => ?_
 refine dc (vi y2) 0 19 [15, 18] (slices_Index_string_ok n gKinds (ix y1 0) y2 hy2) [] rfl ObsRen.nil ObsRen.nil rfl (.inr ⟨rfl, rfl⟩) ?_
 refine dk 1 (.i 5 (vi y2) .a) ?_
 refine dfi (ob' := [some (.row 7 [.agg [vi 0, vi 0, vi 0, vt ([] : Str), vt ([] : Str), vt ([] : Str), vi 0]])]) (.d4 (.d2 (.k3 (.i 5 (vi y2) .n)))) [0] (.cons rfl .nil) ?_
 refine q1 ?_
 refine sj ?_
 refine rk 3 (.k4 (.i 22 (vb (decide (y2 < (0 : Int)))) .n)) ?_
 refine gj (eS 1 vt y1) 23 (.mov 4) 22 false rfl ?_
 refine gv 24 (.len 0 23) 22 false rfl (fun hg => (ok_len_m rfl)) (fun hg => (.cons hg .nil)) ?_
 refine gv 25 (.bin .lss false 24 (ki 5)) 22 false rfl (fun hg => (n_lss (i := y1.length) (j := 5) rfl rfl)) (fun hg => (.cons hg (.cons rfl .nil))) ?_
 refine po 26 22 25 rfl rfl ?_
 refine jf (.d4 (.k4 (.i 26 (vb ((decide (y2 < (0 : Int))) || (decide (y1.length < 5)))) .n))) ?_
 refine tc h (fun c2 h => ?_) (fun c2 h => ?_)
 ·refine sk (.d (.k (.i 3 (vi 7) .n))) ?_
  refine q3 ?_
  have h := si h
  subst h
  exact DoneC.ret (S' := ⟨[(2, .agg [vi 0, vi 0, vi 0, vt ([] : Str), vt ([] : Str), vt ([] : Str), vi 0]), (3, vi 7)], []⟩) [.agg [vi 0, vi 0, vi 0, vt ([] : Str), vt ([] : Str), vt ([] : Str), vi 0], vi 7] (sc [] (by decide) (by kernel_rfl) ObRen.nil rfl rfl) rfl rfl
 refine q2 ?_
 refine sj ?_
 refine rk 1 (.k4 (.i 29 (eS 1 vt y1) .n)) ?_
 refine cK h fun c3 h => ?_
 refine jo 30 (.iaddr 1 29 (ki 1)) (ok_iaddr_m (j := 1) rfl rfl rfl c3) ?_
 refine jo 31 (.load false 1 30) (ok_load_fm (v := vt (ix y1 1)) rfl c3 rfl) ?_
 refine bK h fun y3 hy3 h => ?_
 refine jc 32 [31] (diary_number_ok n (ix y1 1) y3 hy3) ?_
 refine jk 5 (.d3 (.k4 (.i 6 (vi y3.1) (.i 7 (vb y3.2) .n)))) ?_
 refine sj ?_
 refine rk 1 (.k4 (.k2 (.i 36 (eS 1 vt y1) .n))) ?_
 refine cK h fun c4 h => ?_
 refine jo 37 (.iaddr 1 36 (ki 2)) (ok_iaddr_m (j := 2) rfl rfl rfl c4) ?_
 refine jo 38 (.load false 1 37) (ok_load_fm (v := vt (ix y1 2)) rfl c4 rfl) ?_
 refine bK h fun y4 hy4 h => ?_
 refine jc 39 [38] (diary_number_ok n (ix y1 2) y4 hy4) ?_
 refine jk 5 (.d3 (.k4 (.k2 (.i 8 (vi y4.1) (.i 9 (vb y4.2) .n))))) ?_
 refine q1 ?_
 refine ts .a ?_
 refine TriE.draw (by kernel_rfl) ?_
 refine dk 4 (.i 45 (eS 1 vt y1) (.i 44 (vi y4.1) (.i 43 (vi y3.1) (.i 42 (vi y2) .a)))) ?_
 refine cK h fun c5 h => ?_
 refine dp 46 (.iaddr 1 45 (ki 3)) (ok_iaddr_m (j := 3) rfl rfl rfl c5) ?_
 refine dp 47 (.load false 1 46) (ok_load_fm (v := vt (ix y1 3)) rfl c5 rfl) ?_
 refine dk 1 (.i 48 (eS 1 vt y1) .a) ?_
 refine cK h fun c6 h => ?_
 refine dp 49 (.iaddr 1 48 (ki 4)) (ok_iaddr_m (j := 4) rfl rfl rfl c6) ?_
 refine dp 50 (.load false 1 49) (ok_load_fm (v := vt (ix y1 4)) rfl c6 rfl) ?_
 refine dko 3 (.i 10 (.ptr 11 0 0) (.i 51 (.agg [vi y2, vi y3.1, vi y4.1, vt (ix y1 3), vt (ix y1 4), vt ([] : Str), vi 0]) .a)) [some (.row 7 [.agg [vi 0, vi 0, vi 0, vt ([] : Str), vt ([] : Str), vt ([] : Str), vi 0]]), none, none, none, none, none, none, none, none, none, none, some (.row 7 [.agg [vi y2, vi y3.1, vi y4.1, vt (ix y1 3), vt (ix y1 4), vt ([] : Str), vi 0]]), none] ?_
 refine dfi (ob' := [some (.row 7 [.agg [vi 0, vi 0, vi 0, vt ([] : Str), vt ([] : Str), vt ([] : Str), vi 0]]), some (.row 7 [.agg [vi y2, vi y3.1, vi y4.1, vt (ix y1 3), vt (ix y1 4), vt ([] : Str), vi 0]])]) (.d4 (.d4 (.d3 (.k4 (.d (.k (.d (.k (.i 10 (.ptr 1 0 0) .n))))))))) [0, 11] (.cons rfl (.cons rfl .nil)) ?_
 refine sj ?_
 refine rk 1 (.k2 (.d (.k4 (.i 52 (eS 1 vt y1) .n)))) ?_
 refine cK h fun c7 h => ?_
 refine jo 53 (.slc 1 52 (some (ki 5)) none none) (ok_slc_lo (j := 5) rfl rfl rfl c7) ?_
 refine jk 2 (.d (.k4 (.k2 (.i 11 (eS 1 vt (List.drop 5 y1)) (.i 12 (vb true) .n))))) ?_
 refine TriE.seqK h (fun (t : (List Str) × Str) => match t with | (v5, v6) => St.mk [(0, vt a0), (2, .ptr 0 0 0), (5, vi y2), (7, vb y3.2), (9, vb y4.2), (10, .ptr 1 0 0), (12, vb true), (11, eS 1 vt v5)] [some (.row 7 [.agg [vi 0, vi 0, vi 0, vt ([] : Str), vt ([] : Str), vt ([] : Str), vi 0]]), some (.row 7 [.agg [vi y2, vi y3.1, vi y4.1, vt (ix y1 3), vt (ix y1 4), vt v6, vi 0]])]) ?_ ?_
 ·rintro ⟨v5, v6⟩ h
  refine TriE.seqK h (fun (t : Bool × Int × (List Str)) => match t with | (v8, v9, v10) => St.mk [(0, vt a0), (2, .ptr 0 0 0), (7, vb y3.2), (9, vb y4.2), (10, .ptr 1 0 0), (12, vb v8), (11, eS 1 vt v10)] [some (.row 7 [.agg [vi 0, vi 0, vi 0, vt ([] : Str), vt ([] : Str), vt ([] : Str), vi 0]]), some (.row 7 [.agg [vi y2, vi y3.1, vi y4.1, vt (ix y1 3), vt (ix y1 4), vt v6, vi v9]])]) ?_ ?_
  ·rintro ⟨v8, v9, v10⟩ h
   refine q1 ?_
   refine sj ?_
   refine rk 3 (.k2 (.d (.k4 (.i 90 (vb (!y3.2)) .n)))) ?_
   refine gj (vb y4.2) 91 (.mov 9) 90 false rfl ?_
   refine gk (vb (!y4.2)) 92 (.un .not 91) 90 false rfl (fun hg => (.cons hg .nil)) ?_
   refine po 93 90 92 rfl rfl ?_
   refine rk 1 (.d3 (.k2 (.d (.k3 (.i 94 (vb ((!y3.2) || (!y4.2))) .n))))) ?_
   refine gj (vb v8) 95 (.mov 12) 94 false rfl ?_
   refine gk (vb (!v8)) 96 (.un .not 95) 94 false rfl (fun hg => (.cons hg .nil)) ?_
   refine po 97 94 96 rfl rfl ?_
   refine rk 1 (.d3 (.k3 (.d (.k (.i 98 (vb (((!y3.2) || (!y4.2)) || (!v8))) .n))))) ?_
   refine gj (eS 1 vt v10) 99 (.mov 11) 98 false rfl ?_
   refine gv 100 (.len 0 99) 98 false rfl (fun hg => (ok_len_m rfl)) (fun hg => (.cons hg .nil)) ?_
   refine gv 101 (.bin .gtr false 100 (ki 0)) 98 false rfl (fun hg => (n_gtr (i := v10.length) (j := 0) rfl rfl)) (fun hg => (.cons hg (.cons rfl .nil))) ?_
   refine po 102 98 101 rfl rfl ?_
   refine rk 1 (.d4 (.k3 (.i 103 (vb ((((!y3.2) || (!y4.2)) || (!v8)) || (decide (0 < v10.length)))) .n))) ?_
   refine gj (.agg [vi y2, vi y3.1, vi y4.1, vt (ix y1 3), vt (ix y1 4), vt v6, vi v9]) 104 (.load true 7 10) 103 false rfl ?_
   refine bK h fun y11 hy11 h => ?_
   refine gc 105 [104] 103 false rfl (fun hg => diary_FormatItem_ok n (Item.mk y2 y3.1 y4.1 (ix y1 3) (ix y1 4) v6 v9) y11 (gcall_some hy11 hg)) (fun hg => (.cons rfl (.cons hg .nil))) (fun hg => by kernel_rfl) ?_
   refine gj (vt a0) 106 (.mov 0) 103 false rfl ?_
   refine gk (vb (!(y11 == a0))) 107 (.bin .neq false 105 106) 103 false rfl (fun hg => (.cons hg (.cons hg .nil))) ?_
   refine po 108 103 107 rfl rfl ?_
   refine jf (.d4 (.d2 (.k2 (.i 108 (vb (((((!y3.2) || (!y4.2)) || (!v8)) || (decide (0 < v10.length))) || (!(y11 == a0)))) .n)))) ?_
   refine tc h (fun c14 h => ?_) (fun c14 h => ?_)
   ·refine sk (.k (.i 3 (vi 7) .n)) ?_
    refine q3 ?_
    have h := si h
    subst h
    exact DoneC.ret (S' := ⟨[(2, .agg [vi 0, vi 0, vi 0, vt ([] : Str), vt ([] : Str), vt ([] : Str), vi 0]), (3, vi 7)], []⟩) [.agg [vi 0, vi 0, vi 0, vt ([] : Str), vt ([] : Str), vt ([] : Str), vi 0], vi 7] (sc [] (by decide) (by kernel_rfl) ObRen.nil rfl rfl) rfl rfl
   refine q2 ?_
   refine sko (.k (.i 3 (vi 0) .n)) [some (.row 7 [.agg [vi y2, vi y3.1, vi y4.1, vt (ix y1 3), vt (ix y1 4), vt v6, vi v9]]), some (.row 7 [.agg [vi y2, vi y3.1, vi y4.1, vt (ix y1 3), vt (ix y1 4), vt v6, vi v9]])] ?_
   refine q3 ?_
   have h := si h
   subst h
   exact DoneC.ret (S' := ⟨[(2, .agg [vi y2, vi y3.1, vi y4.1, vt (ix y1 3), vt (ix y1 4), vt v6, vi v9]), (3, vi 0)], []⟩) [.agg [vi y2, vi y3.1, vi y4.1, vt (ix y1 3), vt (ix y1 4), vt v6, vi v9], vi 0] (sc [] (by decide) (by kernel_rfl) ObRen.nil rfl rfl) rfl rfl
  intro k2 h
  refine sj ?_
  refine rk 1 (.k4 (.k4 (.i 71 (eS 1 vt v5) .n))) ?_
  refine jo 72 (.len 0 71) (ok_len_m rfl) ?_
  refine jo 73 (.bin .gtr false 72 (ki 0)) (n_gtr (i := v5.length) (j := 0) rfl rfl) ?_
  refine rk 1 (.d2 (.k4 (.k4 (.i 74 (vb (decide (0 < v5.length))) .n)))) ?_
  refine gj (vi y2) 75 (.mov 5) 74 true rfl ?_
  refine gk (vb (y2 == (3 : Int))) 76 (.bin .eql false 75 (ki 3)) 74 true rfl (fun hg => (.cons hg (.cons rfl .nil))) ?_
  refine pa 77 74 76 rfl rfl ?_
  refine jf (.d3 (.k2 (.d (.k4 (.k (.i 77 (vb ((decide (0 < v5.length)) && (y2 == (3 : Int)))) .n)))))) ?_
  refine tc h (fun c11 h => ?_) (fun c11 h => ?_)
  ·refine sj ?_
   refine rk 1 (.k4 (.k (.d (.k (.i 79 (eS 1 vt v5) .n))))) ?_
   refine cK h fun c12 h => ?_
   refine jo 80 (.iaddr 1 79 (ki 0)) (ok_iaddr_m (j := 0) rfl rfl rfl c12) ?_
   refine jo 81 (.load false 1 80) (ok_load_fm (v := vt (ix v5 0)) rfl c12 rfl) ?_
   refine bK h fun y7 hy7 h => ?_
   refine jc 82 [81] (diary_number_ok n (ix v5 0) y7 hy7) ?_
   refine jko 6 (.d3 (.k4 (.k2 (.i 12 (vb y7.2) .n)))) [some (.row 7 [.agg [vi 0, vi 0, vi 0, vt ([] : Str), vt ([] : Str), vt ([] : Str), vi 0]]), some (.row 7 [.agg [vi y2, vi y3.1, vi y4.1, vt (ix y1 3), vt (ix y1 4), vt v6, vi y7.1]])] ?_
   refine q6 ?_
   refine rk 1 (.k4 (.k (.d (.k (.i 86 (eS 1 vt v5) .n))))) ?_
   refine cK h fun c13 h => ?_
   refine jo 87 (.slc 1 86 (some (ki 1)) none none) (ok_slc_lo (j := 1) rfl rfl rfl c13) ?_
   refine jk 1 (.d (.k4 (.k2 (.i 11 (eS 1 vt (List.drop 1 v5)) .n)))) ?_
   exact Vs.intro Sees.refl ⟨(y7.2, y7.1, (List.drop 1 v5)), rfl, h⟩
  refine q2 ?_
  exact Vs.intro sy ⟨(true, 0, v5), rfl, h⟩
 intro k1 h
 refine sj ?_
 refine rk 1 (.k4 (.k4 (.i 54 (eS 1 vt (List.drop 5 y1)) .n))) ?_
 refine jo 55 (.len 0 54) (ok_len_m rfl) ?_
 refine jo 56 (.bin .gtr false 55 (ki 0)) (n_gtr (i := (List.drop 5 y1).length) (j := 0) rfl rfl) ?_
 refine rk 1 (.d2 (.k4 (.k4 (.i 57 (vb (decide (0 < ((List.drop 5 y1).length)))) .n)))) ?_
 refine gj (vi y2) 58 (.mov 5) 57 true rfl ?_
 refine gk (vb (y2 == (0 : Int))) 59 (.bin .eql false 58 (ki 0)) 57 true rfl (fun hg => (.cons hg (.cons rfl .nil))) ?_
 refine gk (vb (y2 == (0 : Int))) 60 (.mov 59) 57 true rfl (fun hg => (.cons hg .nil)) ?_
 refine gj (vi y2) 61 (.mov 5) 60 false rfl ?_
 refine gk (vb (y2 == (3 : Int))) 62 (.bin .eql false 61 (ki 3)) 60 false rfl (fun hg => (.cons hg (.cons rfl .nil))) ?_
 refine RegJ.op (Op1.org (g := decide (0 < ((List.drop 5 y1).length))) (cy (IG 63 (.pick 60 (.c (.p (.bool true))) 62) 57 true)) rfl rfl rfl (fun hg => by first | exact hokO2 hg | exact hokO3 hg | exact hokO1 | exact hokO0 | (rw [hg]; simp) | simp_all)) ?_
 refine pa 64 57 63 rfl rfl ?_
 refine jf (.d4 (.d3 (.k4 (.k4 (.i 64 (vb ((decide (0 < ((List.drop 5 y1).length))) && ((y2 == (0 : Int)) || (y2 == (3 : Int))))) .n))))) ?_
 refine tc h (fun c8 h => ?_) (fun c8 h => ?_)
 ·refine ts (.k4 (.k4 .n)) ?_
  refine TriE.draw (by kernel_rfl) ?_
  refine dk 1 (.i 65 (eS 1 vt (List.drop 5 y1)) .a) ?_
  refine cK h fun c9 h => ?_
  refine dp 66 (.iaddr 1 65 (ki 0)) (ok_iaddr_m (j := 0) rfl rfl rfl c9) ?_
  refine dp 67 (.load false 1 66) (ok_load_fm (v := vt (ix (List.drop 5 y1) 0)) rfl c9 rfl) ?_
  refine dk 1 (.i 68 (eS 1 vt (List.drop 5 y1)) .a) ?_
  refine cK h fun c10 h => ?_
  refine dp 69 (.slc 1 68 (some (ki 1)) none none) (ok_slc_lo (j := 1) rfl rfl rfl c10) ?_
  refine dko 3 (.i 11 (eS 1 vt (List.drop 1 (List.drop 5 y1))) (.i 70 (.ptr 1 0 5) .a)) [some (.row 7 [.agg [vi 0, vi 0, vi 0, vt ([] : Str), vt ([] : Str), vt ([] : Str), vi 0]]), some (.row 7 [.agg [vi y2, vi y3.1, vi y4.1, vt (ix y1 3), vt (ix y1 4), vt (ix (List.drop 5 y1) 0), vi 0]]), none, none, none, none, none, none, none, none] ?_
  refine dfi (ob' := [some (.row 7 [.agg [vi 0, vi 0, vi 0, vt ([] : Str), vt ([] : Str), vt ([] : Str), vi 0]]), some (.row 7 [.agg [vi y2, vi y3.1, vi y4.1, vt (ix y1 3), vt (ix y1 4), vt (ix (List.drop 5 y1) 0), vi 0]])]) (.d4 (.d3 (.k4 (.k2 (.d (.k (.i 11 (eS 1 vt (List.drop 1 (List.drop 5 y1))) .n))))))) [0, 1] (.cons rfl (.cons rfl .nil)) ?_
  exact Vs.intro Sees.refl ⟨((List.drop 1 (List.drop 5 y1)), (ix (List.drop 5 y1) 0)), rfl, h⟩
 refine q2 ?_
 exact Vs.intro sy ⟨((List.drop 5 y1), ([] : Str)), rfl, h⟩
theorem agraffebase_Cut_ok (n : Nat) (a0 : Str) (a1 : Int) (r : (List Str)) (h : agraffebase_Cut n a0 a1 = some r) : FnL Tryz.prog 41 [vt a0, vk .u8 a1] [] (eS 1 vt r) [] := by
 dsimp only [agraffebase_Cut] at h
 refine fo [4] Tryz.call41 Tryz.func41 rfl ?_
 refine sk .a ?_
 refine sk (.k2 (.i 5 .emp .n)) ?_
 refine sk (.k3 (.i 6 (vi 0) .n)) ?_
 refine TriE.seqK h (fun (v8 : (List Str)) => St.mk [(5, .own 0 0 v8.length)] [some (.row 1 (List.map vt v8))]) ?_ ?_
 ·rintro v8 h
  refine sk (.i 4 (.own 0 0 v8.length) .n) ?_
  refine q3 ?_
  have h := si h
  subst h
  exact DoneS.ret (S' := ⟨[(4, eS 1 vt v8)], []⟩) (Sees.trans (Sees.freeze 0 (fr' := [(4, eS 1 vt v8)]) (ob' := [none]) rfl (frz_row vt_frzE _) (.cons (frz_full rfl) .nil) rfl) (sc [] (by decide) (by kernel_rfl) ObRen.nil rfl rfl)) rfl rfl
 intro k2 h
 refine sk (.k4 (.i 7 (vi 0) .n)) ?_
 refine q4 ?_
 refine TriE.sees (S' := ⟨[(0, vt a0), (1, vk .u8 a1), (5, .own 0 0 ([] : List Str).length), (6, vi 0), (7, vi 0)], [some (.row 1 (List.map vt ([] : List Str)))]⟩) (Sees.trans (Sees.co (fr' := [(0, vt a0), (1, vk .u8 a1), (5, .own 0 0 0), (6, vi 0), (7, vi 0)]) (ob' := []) (.cons .same (.cons .same (.cons .own (.cons .same (.cons .same .nil))))) ObCo.nil 1) sy) ?_
 refine TriE.loopN h (fun (t : (List Str) × Nat × Nat) => match t with | (v3, v4, v5) => St.mk [(0, vt a0), (1, vk .u8 a1), (5, .own 0 0 v3.length), (6, vi v4), (7, vi v5)] [some (.row 1 (List.map vt v3))]) rfl ?_
 clear h
 rintro back ⟨v3, v4, v5⟩ h
 dsimp only [agraffebase_Cut_L1] at h
 refine q1 ?_
 refine sj ?_
 refine rk 2 (.k4 (.k (.i 8 (vi v5) (.i 9 (vt a0) .n)))) ?_
 refine jo 10 (.len 1 9) (ok_len_t rfl) ?_
 refine jo 11 (.bin .leq false 8 10) (n_leq (i := v5) (j := a0.length) rfl rfl) ?_
 refine jf (.d2 (.k4 (.k (.i 11 (vb (decide (v5 ≤ a0.length))) .n)))) ?_
 refine tc h (fun c1 h => ?_) (fun c1 h => ?_)
 ·refine q2 ?_
  refine TriE.seqK h (fun (t : Nat × (List Str)) => match t with | (v6, v7) => St.mk [(0, vt a0), (1, vk .u8 a1), (7, vi v5), (5, .own 0 0 v7.length), (6, vi v6)] [some (.row 1 (List.map vt v7))]) ?_ ?_
  ·rintro ⟨v6, v7⟩ h
   refine q6 ?_
   refine rk 1 (.k2 (.d (.k2 (.i 12 (vi v5) .n)))) ?_
   refine cK h fun c7 h => ?_
   refine jo 13 (.bin .add false 12 (ki 1)) (r_addn (i := v5) (j := 1) rfl rfl c7) ?_
   refine jk 1 (.d (.k4 (.i 7 (vi ((v5 + 1 : Nat) : Int)) .n))) ?_
   exact Vs.intro sy ⟨(v7, v6, v5 + 1), rfl, h⟩
  intro k1 h
  refine q4 ?_
  refine sj ?_
  refine rk 2 (.k4 (.k (.i 14 (vi v5) (.i 15 (vt a0) .n)))) ?_
  refine jo 16 (.len 1 15) (ok_len_t rfl) ?_
  refine jo 17 (.bin .eql false 14 16) (n_eql (i := v5) (j := a0.length) rfl rfl) ?_
  refine rk 1 (.d2 (.k4 (.k (.i 18 (vb (decide (v5 = a0.length))) .n)))) ?_
  refine gj (vt a0) 19 (.mov 0) 18 false rfl ?_
  refine gj (vi v5) 20 (.mov 7) 18 false rfl ?_
  refine cK h fun c2 h => ?_
  refine gv 21 (.sidx 19 20) 18 false rfl (fun hg => (ok_sidx_t (j := v5) rfl rfl rfl (gor c2 hg))) (fun hg => (.cons hg (.cons hg .nil))) ?_
  refine gj (vk .u8 a1) 22 (.mov 1) 18 false rfl ?_
  refine gk (vb ((((List.getD a0 v5 0).toNat : Nat) : Int) == a1)) 23 (.bin .eql false 21 22) 18 false rfl (fun hg => (.cons hg (.cons hg .nil))) ?_
  refine po 24 18 23 rfl rfl ?_
  refine jf (.d4 (.d2 (.k4 (.k (.i 24 (vb ((decide (v5 = a0.length)) || ((((List.getD a0 v5 0).toNat : Nat) : Int) == a1))) .n))))) ?_
  refine tc h (fun c3 h => ?_) (fun c3 h => ?_)
  ·refine sj ?_
   refine rk 4 (.k2 (.d2 (.k (.i 25 (.own 0 0 v3.length) (.i 26 (vt a0) (.i 27 (vi v4) (.i 28 (vi v5) .n))))))) ?_
   refine cK h fun c4 h => ?_
   refine jo 29 (.sslc 26 (some 27) (some 28)) (ok_sslc_lh (i := v4) (j := v5) rfl rfl rfl rfl rfl c4 c1) ?_
   refine rko 1 (.d (.k4 (.i 30 (.own 1 0 1) .n))) [some (.row 1 (List.map vt v3)), some (.row 1 [vt (List.take (v5 - v4) (List.drop v4 a0))])] ?_
   refine cK h fun c5 h => ?_
   refine jx 31 (.app 1 16 25 30) _ (ok_app_own (l := v3) (l2 := ([(List.take (v5 - v4) (List.drop v4 a0))] : List Str)) (e := vt) (u := .own 1 0 1) rfl rfl rfl rfl rfl c5) rfl rfl ?_
   refine jk 1 (.d (.k3 (.i 5 (.own 2 0 ((v3 ++ ([(List.take (v5 - v4) (List.drop v4 a0))] : List Str)).length)) .n))) ?_
   refine q6 ?_
   refine rk 1 (.k4 (.i 32 (vi v5) .n)) ?_
   refine cK h fun c6 h => ?_
   refine jo 33 (.bin .add false 32 (ki 1)) (r_addn (i := v5) (j := 1) rfl rfl c6) ?_
   refine jk 1 (.d (.k4 (.i 6 (vi ((v5 + 1 : Nat) : Int)) .n))) ?_
   exact Vs.intro (sc [2] (by decide) (by kernel_rfl) (obRen_row vt_frz rfl .nil) rfl rfl) ⟨(v5 + 1, (v3 ++ ([(List.take (v5 - v4) (List.drop v4 a0))] : List Str))), rfl, h⟩
  refine q2 ?_
  exact Vs.intro sy ⟨(v4, v3), rfl, h⟩
 refine q5 ?_
 exact Vs.intro sy ⟨v3, rfl, h⟩
theorem agraffebase_isDigit_ok (n : Nat) (a0 : Int) (r : Unit) (h : agraffebase_isDigit n a0 = some r) : FnL Tryz.prog 45 [vk .u8 a0] [] (vb ((decide ((48 : Int) ≤ a0)) && (decide (a0 ≤ (57 : Int))))) [] := by
 dsimp only [agraffebase_isDigit] at h
 refine fo [2] Tryz.call45 Tryz.func45 rfl ?_
 refine sk .a ?_
 refine sj ?_
 refine rk 3 (.k (.i 5 (vb (decide ((48 : Int) ≤ a0))) .n)) ?_
 refine gj (vk .u8 a0) 6 (.mov 0) 5 true rfl ?_
 refine gk (vb (decide (a0 ≤ (57 : Int)))) 7 (.bin .leq false 6 (.c (.p (.int .u8 57)))) 5 true rfl (fun hg => (.cons hg (.cons rfl .nil))) ?_
 refine pa 8 5 7 rfl rfl ?_
 refine jk 1 (.i 2 (vb ((decide ((48 : Int) ≤ a0)) && (decide (a0 ≤ (57 : Int))))) .n) ?_
 refine q3 ?_
 have h := si h
 subst h
 exact DoneS.ret Sees.refl rfl rfl
theorem agraffebase_Abs_ok (n : Nat) (a0 : Int) (r : Int) (h : agraffebase_Abs n a0 = some r) : FnL Tryz.prog 94 [vi a0] [] (vi r) [] := by
 dsimp only [agraffebase_Abs] at h
 refine fo [2] Tryz.call94 Tryz.func94 rfl ?_
 refine sk .a ?_
 refine q1 ?_
 refine sk (.k (.i 4 (vb (decide (a0 < (0 : Int)))) .n)) ?_
 refine tc h (fun c1 h => ?_) (fun c1 h => ?_)
 ·refine sj ?_
  refine rk 1 (.i 5 (vi a0) .n) ?_
  refine cK h fun c2 h => ?_
  refine jo 6 (.un .neg 5) (r_neg rfl c2) ?_
  refine jk 1 (.i 2 (vi (-a0)) .n) ?_
  refine q3 ?_
  have h := si h
  subst h
  exact DoneS.ret Sees.refl rfl rfl
 refine q2 ?_
 refine sk (.i 2 (vi a0) .n) ?_
 refine q3 ?_
 have h := si h
 subst h
 exact DoneS.ret Sees.refl rfl rfl
theorem agraffebase_Decimal_ok (n : Nat) (a0 : Int) (r : Str) (h : agraffebase_Decimal n a0 = some r) : FnL Tryz.prog 43 [vi a0] [] (vt r) [] := by
 dsimp only [agraffebase_Decimal] at h
 refine fo [2] Tryz.call43 Tryz.func43 rfl ?_
 refine sk .a ?_
 refine q1 ?_
 refine sk (.k (.i 6 (vb (a0 == (0 : Int))) .n)) ?_
 refine tc h (fun c1 h => ?_) (fun c1 h => ?_)
 ·refine sk (.i 2 (vt ([48] : Str)) .n) ?_
  refine q3 ?_
  have h := si h
  subst h
  exact DoneS.ret Sees.refl rfl rfl
 refine q2 ?_
 refine sk (.k (.i 3 (vt ([] : Str)) .n)) ?_
 refine TriE.seqK h (fun (v5 : Str) => St.mk [(0, vi a0), (3, vt v5)] []) ?_ ?_
 ·rintro v5 h
  refine q1 ?_
  refine sk (.d (.k (.i 22 (vb (decide (a0 < (0 : Int)))) .n))) ?_
  refine tc h (fun c7 h => ?_) (fun c7 h => ?_)
  ·refine sj ?_
   refine rk 1 (.i 23 (vt v5) .n) ?_
   refine cK h fun c8 h => ?_
   refine jo 24 (.bin .add false (.c (.p (.string ⟨#[45]⟩))) 23) (ok_sadd_t rfl rfl c8) ?_
   refine jk 1 (.i 2 (vt (([45] : Str) ++ v5)) .n) ?_
   refine q3 ?_
   have h := si h
   subst h
   exact DoneS.ret Sees.refl rfl rfl
  refine q2 ?_
  refine sk (.i 2 (vt v5) .n) ?_
  refine q3 ?_
  have h := si h
  subst h
  exact DoneS.ret Sees.refl rfl rfl
 intro k1 h
 refine sk (.k2 (.i 4 (vi a0) .n)) ?_
 refine q4 ?_
 refine TriE.loopN h (fun (t : Str × Int) => match t with | (v2, v3) => St.mk [(0, vi a0), (3, vt v2), (4, vi v3)] []) rfl ?_
 clear h
 rintro back ⟨v2, v3⟩ h
 dsimp only [agraffebase_Decimal_L1] at h
 refine q1 ?_
 refine sk (.k3 (.i 9 (vb (v3 != (0 : Int))) .n)) ?_
 refine tc h (fun c2 h => ?_) (fun c2 h => ?_)
 ·refine q2 ?_
  refine q7 ?_
  refine q6 ?_
  refine rk 1 (.k3 (.i 12 (vi v3) .n)) ?_
  refine cK h fun c3 h => ?_
  refine jo 13 (.bin .rem false 12 (ki 10)) (r_rem rfl rfl c3) ?_
  refine bK h fun y4 hy4 h => ?_
  refine jc 14 [13] (agraffebase_Abs_ok n (Int.tmod v3 10) y4 hy4) ?_
  refine cK h fun c4 h => ?_
  refine jo 15 (.bin .add false (ki 48) 14) (r_add rfl rfl c4) ?_
  refine rko 4 (.d3 (.k (.d (.k (.i 18 (vt ([UInt8.ofNat (Int.toNat (IntKind.u8.wrap (48 + y4)))] : Str)) (.i 19 (vt v2) .n)))))) [some (.row 1 [vk .u8 (IntKind.u8.wrap (48 + y4))])] ?_
  refine cK h fun c5 h => ?_
  refine jo 20 (.bin .add false 18 19) (ok_sadd_t rfl rfl c5) ?_
  refine jk 1 (.d (.k2 (.i 3 (vt (([UInt8.ofNat (Int.toNat (IntKind.u8.wrap (48 + y4)))] : Str) ++ v2)) .n))) ?_
  refine q6 ?_
  refine rk 1 (.k (.d (.k (.i 10 (vi v3) .n)))) ?_
  refine cK h fun c6 h => ?_
  refine jo 11 (.bin .quo false 10 (ki 10)) (r_quo rfl rfl c6) ?_
  refine jk 1 (.d (.k2 (.i 4 (vi (Int.tdiv v3 10)) .n))) ?_
  exact Vs.intro (sc [] (by decide) (by kernel_rfl) ObRen.nil rfl rfl) ⟨((([UInt8.ofNat (Int.toNat (IntKind.u8.wrap (48 + y4)))] : Str) ++ v2), Int.tdiv v3 10), rfl, h⟩
 refine q5 ?_
 exact Vs.intro sy ⟨v2, rfl, h⟩
set_option maxHeartbeats 1000000 in
theorem agraffebase_Number_ok (n : Nat) (a0 : Str) (a1 : Int) (r : Int × Bool) (h : agraffebase_Number n a0 a1 = some r) : FnL Tryz.prog 42 [vt a0, vi a1] [] (.tup [vi r.1, vb r.2]) [] := by
 dsimp only [agraffebase_Number] at h
 refine fo [4, 5] Tryz.call42 Tryz.func42 rfl ?_
 refine sk .a ?_
 refine sk (.k2 (.i 6 (vi 0) (.i 7 (vi 0) .n))) ?_
 refine TriE.seqK h (fun (v1 : Int) => St.mk [(0, vt a0), (1, vi a1), (6, vi 0), (7, vi v1)] []) ?_ ?_
 ·rintro v1 h
  refine q1 ?_
  refine sj ?_
  refine rk 1 (.k4 (.i 17 (vt a0) .n)) ?_
  refine jo 18 (.len 1 17) (ok_len_t rfl) ?_
  refine rk 3 (.d (.k4 (.i 21 (vb ((a0.length : Int) == v1)) .n))) ?_
  refine gj (vt a0) 22 (.mov 0) 21 false rfl ?_
  refine gv 23 (.len 1 22) 21 false rfl (fun hg => (ok_len_t rfl)) (fun hg => (.cons hg .nil)) ?_
  refine gj (vi v1) 24 (.mov 7) 21 false rfl ?_
  refine gj (vi a1) 25 (.mov 1) 21 false rfl ?_
  refine cK h fun c2 h => ?_
  refine gv 26 (.bin .add false 24 25) 21 false rfl (fun hg => (r_add rfl rfl (gor c2 hg))) (fun hg => (.cons hg (.cons hg .nil))) ?_
  refine gk (vb (decide ((v1 + a1) < (a0.length : Int)))) 27 (.bin .gtr false 23 26) 21 false rfl (fun hg => (.cons hg (.cons hg .nil))) ?_
  refine po 28 21 27 rfl rfl ?_
  refine rk 1 (.d4 (.d3 (.k4 (.i 29 (vb (((a0.length : Int) == v1) || (decide ((v1 + a1) < (a0.length : Int))))) .n)))) ?_
  refine gj (vi a1) 30 (.mov 1) 29 false rfl ?_
  refine gk (vb (decide ((18 : Int) < a1))) 31 (.bin .gtr false 30 (ki 18)) 29 false rfl (fun hg => (.cons hg (.cons rfl .nil))) ?_
  refine po 32 29 31 rfl rfl ?_
  refine jf (.d3 (.k (.d (.k2 (.i 32 (vb ((((a0.length : Int) == v1) || (decide ((v1 + a1) < (a0.length : Int)))) || (decide ((18 : Int) < a1)))) .n))))) ?_
  refine tc h (fun c3 h => ?_) (fun c3 h => ?_)
  ·refine sk (.i 4 (vi 0) (.i 5 (vb false) .n)) ?_
   refine q3 ?_
   have h := si h
   subst h
   exact DoneS.ret Sees.refl rfl rfl
  refine q2 ?_
  refine TriE.seqK h (fun (v6 : Int) => St.mk [(0, vt a0), (6, vi v6), (7, vi v1)] []) ?_ ?_
  ·rintro v6 h
   refine TriE.seqK h (fun (v7 : Int) => St.mk [(0, vt a0), (6, vi v7)] []) ?_ ?_
   ·rintro v7 h
    refine sj ?_
    refine rk 2 (.k (.i 57 (vi v7) (.i 58 (vi v7) .n))) ?_
    refine bK h fun y8 hy8 h => ?_
    refine jc 59 [58] (agraffebase_Decimal_ok n v7 y8 hy8) ?_
    refine jk 4 (.i 4 (vi v7) (.i 5 (vb (y8 == a0)) .n)) ?_
    refine q3 ?_
    have h := si h
    subst h
    exact DoneS.ret Sees.refl rfl rfl
   intro k3 h
   refine sk (.k2 (.i 54 (vb (v1 == (1 : Int))) .n)) ?_
   refine tc h (fun c11 h => ?_) (fun c11 h => ?_)
   ·refine q6 ?_
    refine rk 1 (.k (.i 55 (vi v6) .n)) ?_
    refine cK h fun c12 h => ?_
    refine jo 56 (.un .neg 55) (r_neg rfl c12) ?_
    refine jk 1 (.d (.k (.i 6 (vi (-v6)) .n))) ?_
    exact Vs.intro Sees.refl ⟨(-v6), rfl, h⟩
   refine q2 ?_
   exact Vs.intro sy ⟨v6, rfl, h⟩
  intro k2 h
  refine sk (.k3 (.i 8 (vi v1) .n)) ?_
  refine q4 ?_
  refine TriE.loopN h (fun (t : Int × Int) => match t with | (v3, v4) => St.mk [(0, vt a0), (6, vi v3), (7, vi v1), (8, vi v4)] []) rfl ?_
  clear h
  rintro back ⟨v3, v4⟩ h
  dsimp only [agraffebase_Number_L1] at h
  refine q1 ?_
  refine sj ?_
  refine rk 2 (.k4 (.i 34 (vi v4) (.i 35 (vt a0) .n))) ?_
  refine jo 36 (.len 1 35) (ok_len_t rfl) ?_
  refine jk 1 (.d (.k4 (.i 37 (vb (decide (v4 < (a0.length : Int)))) .n))) ?_
  refine tc h (fun c4 h => ?_) (fun c4 h => ?_)
  ·refine q2 ?_
   refine q7 ?_
   refine q1 ?_
   refine sj ?_
   refine rk 2 (.k4 (.i 40 (vt a0) (.i 41 (vi v4) .n))) ?_
   refine cK h fun c5 h => ?_
   refine jo 42 (.sidx 40 41) (ok_sidx_t (j := v4.toNat) rfl rfl (inB_to c5) (inB_lt c5)) ?_
   refine bK h fun y5 hy5 h => ?_
   refine jc 43 [42] (agraffebase_isDigit_ok n (((List.getD a0 v4.toNat 0).toNat : Nat) : Int) y5 hy5) ?_
   refine jk 1 (.d2 (.k4 (.i 44 (vb (!((decide ((48 : Int) ≤ (((List.getD a0 v4.toNat 0).toNat : Nat) : Int))) && (decide ((((List.getD a0 v4.toNat 0).toNat : Nat) : Int) ≤ (57 : Int)))))) .n))) ?_
   refine tc h (fun c6 h => ?_) (fun c6 h => ?_)
   ·refine sk (.i 4 (vi 0) (.i 5 (vb false) .n)) ?_
    refine q3 ?_
    have h := si h
    subst h
    exact DoneS.ret Sees.refl rfl rfl
   refine q2 ?_
   refine q6 ?_
   refine rk 1 (.k (.d (.k2 (.i 45 (vi v3) .n)))) ?_
   refine cK h fun c7 h => ?_
   refine jo 46 (.bin .mul false (ki 10) 45) (r_mul rfl rfl c7) ?_
   refine rk 2 (.d (.k3 (.i 46 (vi (10 * v3)) (.i 47 (vt a0) (.i 48 (vi v4) .n))))) ?_
   refine jo 49 (.sidx 47 48) (ok_sidx_t (j := v4.toNat) rfl rfl (inB_to c5) (inB_lt c5)) ?_
   refine rk 1 (.d (.k4 (.i 50 (vk .u8 (IntKind.u8.wrap ((((List.getD a0 v4.toNat 0).toNat : Nat) : Int) - 48))) .n))) ?_
   refine cK h fun c8 h => ?_
   refine jo 51 (.conv .i64 50) (ok_conv64 rfl c8) ?_
   refine cK h fun c9 h => ?_
   refine jo 52 (.bin .add false 46 51) (r_add rfl rfl c9) ?_
   refine jk 1 (.d2 (.k3 (.i 6 (vi ((10 * v3) + (IntKind.u8.wrap ((((List.getD a0 v4.toNat 0).toNat : Nat) : Int) - 48)))) .n))) ?_
   refine q6 ?_
   refine rk 1 (.k2 (.d (.k (.i 38 (vi v4) .n)))) ?_
   refine cK h fun c10 h => ?_
   refine jo 39 (.bin .add false 38 (ki 1)) (r_add rfl rfl c10) ?_
   refine jk 1 (.d (.k3 (.i 8 (vi (v4 + 1)) .n))) ?_
   exact Vs.intro sy ⟨((10 * v3) + (IntKind.u8.wrap ((((List.getD a0 v4.toNat 0).toNat : Nat) : Int) - 48)), v4 + 1), rfl, h⟩
  refine q5 ?_
  exact Vs.intro sy ⟨v3, rfl, h⟩
 intro k1 h
 refine sj ?_
 refine rk 1 (.k4 (.i 9 (vt a0) .n)) ?_
 refine jo 10 (.len 1 9) (ok_len_t rfl) ?_
 refine jo 11 (.bin .gtr false 10 (ki 0)) (n_gtr (i := a0.length) (j := 0) rfl rfl) ?_
 refine rk 1 (.d2 (.k4 (.i 12 (vb (decide (0 < a0.length))) .n))) ?_
 refine gj (vt a0) 13 (.mov 0) 12 true rfl ?_
 refine gv 14 (.sidx 13 (ki 0)) 12 true rfl (fun hg => (ok_sidx_t (j := 0) rfl rfl rfl hg)) (fun hg => (.cons hg (.cons rfl .nil))) ?_
 refine gk (vb ((((List.getD a0 0 0).toNat : Nat) : Int) == (45 : Int))) 15 (.bin .eql false 14 (.c (.p (.int .u8 45)))) 12 true rfl (fun hg => (.cons hg (.cons rfl .nil))) ?_
 refine pa 16 12 15 rfl rfl ?_
 refine jf (.d4 (.k4 (.i 16 (vb ((decide (0 < a0.length)) && ((((List.getD a0 0 0).toNat : Nat) : Int) == (45 : Int)))) .n))) ?_
 refine tc h (fun c1 h => ?_) (fun c1 h => ?_)
 ·refine tk (.k3 (.i 7 (vi 1) .n)) ?_
  exact Vs.intro Sees.refl ⟨1, rfl, h⟩
 refine q2 ?_
 exact Vs.intro sy ⟨0, rfl, h⟩
set_option maxHeartbeats 1000000 in
theorem agrafferef09_ParseItem_ok (n : Nat) (a0 : Str) (r : Int × Int × Int × Str × Str × Str × Int × Int) (h : agrafferef09_ParseItem n a0 = some r) : FnL Tryz.prog 18 [vt a0] [] (.tup [.agg [vi r.1, vi r.2.1, vi r.2.2.1, vt r.2.2.2.1, vt r.2.2.2.2.1, vt r.2.2.2.2.2.1, vi r.2.2.2.2.2.2.1], vi r.2.2.2.2.2.2.2]) [] := by
 dsimp only [agrafferef09_ParseItem] at h
 refine FnL.ofC [.cell 2 37, .tmp 3] Tryz.call18 Tryz.func18 rfl .nil ?_ (hl := rfl)
 refine sko (.k (.i 2 (.ptr 0 0 0) .n)) [some (.row 7 [.agg [vi 0, vi 0, vi 0, vt ([] : Str), vt ([] : Str), vt ([] : Str), vi 0]])] ?_
 refine sj ?_
 refine rk 1 (.d (.k (.i 13 (vt a0) .n))) ?_
 refine bK h fun y1 hy1 h => ?_
 refine jc 14 [13, (.c (.p (.int .u8 32)))] (agraffebase_Cut_ok n a0 32 y1 hy1) ?_
 refine jk 1 (.d (.k (.i 4 (eS 1 vt y1) .n))) ?_
 refine sk (.k2 (.i 5 (vi (-1)) (.i 6 (vi 0) .n))) ?_
 refine TriE.seqK h (fun (t : Int × Int) => match t with | (v2, v3) => St.mk [(2, .ptr 0 0 0), (4, eS 1 vt y1), (5, vi v2), (6, vi v3)] [some (.row 7 [.agg [vi 0, vi 0, vi 0, vt ([] : Str), vt ([] : Str), vt ([] : Str), vi 0]])]) ?_ ?_
 ·rintro ⟨v2, v3⟩ h
  refine q1 ?_
  refine sj ?_
  refine rk 1 (.k4 (.i 26 (eS 1 vt y1) .n)) ?_
  refine jo 27 (.len 0 26) (ok_len_m rfl) ?_
  refine jk 2 (.d (.k4 (.i 29 (vb ((y1.length : Int) != v3)) .n))) ?_
  refine tc h (fun c6 h => ?_) (fun c6 h => ?_)
  ·refine sk (.k (.i 3 (vi 7) .n)) ?_
   refine q3 ?_
   have h := si h
   subst h
   exact DoneC.ret (S' := ⟨[(2, .agg [vi 0, vi 0, vi 0, vt ([] : Str), vt ([] : Str), vt ([] : Str), vi 0]), (3, vi 7)], []⟩) [.agg [vi 0, vi 0, vi 0, vt ([] : Str), vt ([] : Str), vt ([] : Str), vi 0], vi 7] (sc [] (by decide) (by kernel_rfl) ObRen.nil rfl rfl) rfl rfl
  refine q2 ?_
  refine sj ?_
  refine rk 1 (.k4 (.i 32 (eS 1 vt y1) .n)) ?_
  refine cK h fun c7 h => ?_
  refine jo 33 (.iaddr 1 32 (ki 1)) (ok_iaddr_m (j := 1) rfl rfl rfl c7) ?_
  refine jo 34 (.load false 1 33) (ok_load_fm (v := vt (ix y1 1)) rfl c7 rfl) ?_
  refine bK h fun y4 hy4 h => ?_
  refine jc 35 [34, (ki 10)] (agraffebase_Number_ok n (ix y1 1) 10 y4 hy4) ?_
  refine jk 5 (.d3 (.k4 (.i 7 (vi y4.1) (.i 8 (vb y4.2) .n)))) ?_
  refine sj ?_
  refine rk 1 (.k4 (.k2 (.i 39 (eS 1 vt y1) .n))) ?_
  refine cK h fun c8 h => ?_
  refine jo 40 (.iaddr 1 39 (ki 2)) (ok_iaddr_m (j := 2) rfl rfl rfl c8) ?_
  refine jo 41 (.load false 1 40) (ok_load_fm (v := vt (ix y1 2)) rfl c8 rfl) ?_
  refine bK h fun y5 hy5 h => ?_
  refine jc 42 [41, (ki 10)] (agraffebase_Number_ok n (ix y1 2) 10 y5 hy5) ?_
  refine jk 5 (.d3 (.k4 (.k2 (.i 9 (vi y5.1) (.i 10 (vb y5.2) .n))))) ?_
  refine q1 ?_
  refine ts .a ?_
  refine TriE.draw (by kernel_rfl) ?_
  refine dk 4 (.i 48 (eS 1 vt y1) (.i 47 (vi y5.1) (.i 46 (vi y4.1) (.i 45 (vi v2) .a)))) ?_
  refine cK h fun c9 h => ?_
  refine dp 49 (.iaddr 1 48 (ki 3)) (ok_iaddr_m (j := 3) rfl rfl rfl c9) ?_
  refine dp 50 (.load false 1 49) (ok_load_fm (v := vt (ix y1 3)) rfl c9 rfl) ?_
  refine dk 1 (.i 51 (eS 1 vt y1) .a) ?_
  refine cK h fun c10 h => ?_
  refine dp 52 (.iaddr 1 51 (ki 4)) (ok_iaddr_m (j := 4) rfl rfl rfl c10) ?_
  refine dp 53 (.load false 1 52) (ok_load_fm (v := vt (ix y1 4)) rfl c10 rfl) ?_
  refine dko 3 (.i 11 (.ptr 11 0 0) (.i 54 (.agg [vi v2, vi y4.1, vi y5.1, vt (ix y1 3), vt (ix y1 4), vt ([] : Str), vi 0]) .a)) [some (.row 7 [.agg [vi 0, vi 0, vi 0, vt ([] : Str), vt ([] : Str), vt ([] : Str), vi 0]]), none, none, none, none, none, none, none, none, none, none, some (.row 7 [.agg [vi v2, vi y4.1, vi y5.1, vt (ix y1 3), vt (ix y1 4), vt ([] : Str), vi 0]]), none] ?_
  refine dfi (ob' := [some (.row 7 [.agg [vi 0, vi 0, vi 0, vt ([] : Str), vt ([] : Str), vt ([] : Str), vi 0]]), some (.row 7 [.agg [vi v2, vi y4.1, vi y5.1, vt (ix y1 3), vt (ix y1 4), vt ([] : Str), vi 0]])]) (.d4 (.d4 (.d3 (.k2 (.d (.k (.d (.k (.d (.k (.i 11 (.ptr 1 0 0) .n))))))))))) [0, 11] (.cons rfl (.cons rfl .nil)) ?_
  refine sk (.k4 (.k2 (.i 12 (vb true) .n))) ?_
  refine TriE.seqK h (fun (v6 : Str) => St.mk [(2, .ptr 0 0 0), (4, eS 1 vt y1), (6, vi v3), (8, vb y4.2), (10, vb y5.2), (11, .ptr 1 0 0), (12, vb true)] [some (.row 7 [.agg [vi 0, vi 0, vi 0, vt ([] : Str), vt ([] : Str), vt ([] : Str), vi 0]]), some (.row 7 [.agg [vi v2, vi y4.1, vi y5.1, vt (ix y1 3), vt (ix y1 4), vt v6, vi 0]])]) ?_ ?_
  ·rintro v6 h
   refine TriE.seqK h (fun (t : Bool × Int) => match t with | (v8, v9) => St.mk [(2, .ptr 0 0 0), (8, vb y4.2), (10, vb y5.2), (11, .ptr 1 0 0), (12, vb v8)] [some (.row 7 [.agg [vi 0, vi 0, vi 0, vt ([] : Str), vt ([] : Str), vt ([] : Str), vi 0]]), some (.row 7 [.agg [vi v2, vi y4.1, vi y5.1, vt (ix y1 3), vt (ix y1 4), vt v6, vi v9]])]) ?_ ?_
   ·rintro ⟨v8, v9⟩ h
    refine q1 ?_
    refine sj ?_
    refine rk 3 (.k (.d (.k3 (.i 73 (vb (!y4.2)) .n)))) ?_
    refine gj (vb y5.2) 74 (.mov 10) 73 false rfl ?_
    refine gk (vb (!y5.2)) 75 (.un .not 74) 73 false rfl (fun hg => (.cons hg .nil)) ?_
    refine po 76 73 75 rfl rfl ?_
    refine rk 1 (.d3 (.k (.d (.k2 (.i 77 (vb ((!y4.2) || (!y5.2))) .n))))) ?_
    refine gj (vb v8) 78 (.mov 12) 77 false rfl ?_
    refine gk (vb (!v8)) 79 (.un .not 78) 77 false rfl (fun hg => (.cons hg .nil)) ?_
    refine po 80 77 79 rfl rfl ?_
    refine jf (.d3 (.k2 (.i 80 (vb (((!y4.2) || (!y5.2)) || (!v8))) .n))) ?_
    refine tc h (fun c15 h => ?_) (fun c15 h => ?_)
    ·refine sk (.k (.i 3 (vi 7) .n)) ?_
     refine q3 ?_
     have h := si h
     subst h
     exact DoneC.ret (S' := ⟨[(2, .agg [vi 0, vi 0, vi 0, vt ([] : Str), vt ([] : Str), vt ([] : Str), vi 0]), (3, vi 7)], []⟩) [.agg [vi 0, vi 0, vi 0, vt ([] : Str), vt ([] : Str), vt ([] : Str), vi 0], vi 7] (sc [] (by decide) (by kernel_rfl) ObRen.nil rfl rfl) rfl rfl
    refine q2 ?_
    refine sko (.k (.i 3 (vi 0) .n)) [some (.row 7 [.agg [vi v2, vi y4.1, vi y5.1, vt (ix y1 3), vt (ix y1 4), vt v6, vi v9]]), some (.row 7 [.agg [vi v2, vi y4.1, vi y5.1, vt (ix y1 3), vt (ix y1 4), vt v6, vi v9]])] ?_
    refine q3 ?_
    have h := si h
    subst h
    exact DoneC.ret (S' := ⟨[(2, .agg [vi v2, vi y4.1, vi y5.1, vt (ix y1 3), vt (ix y1 4), vt v6, vi v9]), (3, vi 0)], []⟩) [.agg [vi v2, vi y4.1, vi y5.1, vt (ix y1 3), vt (ix y1 4), vt v6, vi v9], vi 0] (sc [] (by decide) (by kernel_rfl) ObRen.nil rfl rfl) rfl rfl
   intro k3 h
   refine sk (.k2 (.d (.k4 (.i 62 (vb (v3 == (7 : Int))) .n)))) ?_
   refine tc h (fun c13 h => ?_) (fun c13 h => ?_)
   ·refine q6 ?_
    refine rk 1 (.k (.d (.k3 (.i 64 (eS 1 vt y1) .n)))) ?_
    refine cK h fun c14 h => ?_
    refine jo 65 (.iaddr 1 64 (ki 6)) (ok_iaddr_m (j := 6) rfl rfl rfl c14) ?_
    refine jo 66 (.load false 1 65) (ok_load_fm (v := vt (ix y1 6)) rfl c14 rfl) ?_
    refine bK h fun y7 hy7 h => ?_
    refine jc 67 [66, (ki 10)] (agraffebase_Number_ok n (ix y1 6) 10 y7 hy7) ?_
    refine jko 6 (.d3 (.k4 (.i 12 (vb y7.2) .n))) [some (.row 7 [.agg [vi 0, vi 0, vi 0, vt ([] : Str), vt ([] : Str), vt ([] : Str), vi 0]]), some (.row 7 [.agg [vi v2, vi y4.1, vi y5.1, vt (ix y1 3), vt (ix y1 4), vt v6, vi y7.1]])] ?_
    exact Vs.intro Sees.refl ⟨(y7.2, y7.1), rfl, h⟩
   refine q2 ?_
   exact Vs.intro sy ⟨(true, 0), rfl, h⟩
  intro k2 h
  refine sk (.k4 (.k3 (.i 56 (vb (decide ((6 : Int) ≤ v3))) .n))) ?_
  refine tc h (fun c11 h => ?_) (fun c11 h => ?_)
  ·refine q6 ?_
   refine rk 1 (.k4 (.k3 (.i 57 (eS 1 vt y1) .n))) ?_
   refine cK h fun c12 h => ?_
   refine jo 58 (.iaddr 1 57 (ki 5)) (ok_iaddr_m (j := 5) rfl rfl rfl c12) ?_
   refine jo 59 (.load false 1 58) (ok_load_fm (v := vt (ix y1 5)) rfl c12 rfl) ?_
   refine jko 2 (.d2 (.k4 (.k3 .n))) [some (.row 7 [.agg [vi 0, vi 0, vi 0, vt ([] : Str), vt ([] : Str), vt ([] : Str), vi 0]]), some (.row 7 [.agg [vi v2, vi y4.1, vi y5.1, vt (ix y1 3), vt (ix y1 4), vt (ix y1 5), vi 0]])] ?_
   exact Vs.intro Sees.refl ⟨(ix y1 5), rfl, h⟩
  refine q2 ?_
  exact Vs.intro sy ⟨([] : Str), rfl, h⟩
 intro k1 h
 refine sj ?_
 refine rk 1 (.k4 (.i 15 (eS 1 vt y1) .n)) ?_
 refine cK h fun c1 h => ?_
 refine jo 16 (.iaddr 1 15 (ki 0)) (ok_iaddr_m (j := 0) rfl rfl rfl c1) ?_
 refine jo 17 (.load false 1 16) (ok_load_fm (v := vt (ix y1 0)) rfl c1 rfl) ?_
 refine jf (.d2 (.k4 (.i 17 (vt (ix y1 0)) .n))) ?_
 refine q4 ?_
 refine sk (.k4 (.k (.i 18 (vb ((ix y1 0) == ([116, 117, 110, 105, 110, 103] : Str))) .n))) ?_
 refine tc h (fun c2 h => ?_) (fun c2 h => ?_)
 ·refine tk (.k2 (.i 5 (vi 0) (.i 6 (vi 6) .n))) ?_
  exact Vs.intro Sees.refl ⟨(0, 6), rfl, h⟩
 refine sk (.k4 (.k (.i 20 (vb ((ix y1 0) == ([109, 111, 118, 101] : Str))) .n))) ?_
 refine tc h (fun c3 h => ?_) (fun c3 h => ?_)
 ·refine tk (.k2 (.i 5 (vi 1) (.i 6 (vi 5) .n))) ?_
  exact Vs.intro Sees.refl ⟨(1, 5), rfl, h⟩
 refine sk (.k4 (.k (.i 22 (vb ((ix y1 0) == ([99, 111, 110, 99, 101, 114, 116] : Str))) .n))) ?_
 refine tc h (fun c4 h => ?_) (fun c4 h => ?_)
 ·refine tk (.k2 (.i 5 (vi 2) (.i 6 (vi 5) .n))) ?_
  exact Vs.intro Sees.refl ⟨(2, 5), rfl, h⟩
 refine sk (.k4 (.i 24 (vb ((ix y1 0) == ([114, 101, 110, 116, 97, 108] : Str))) .n)) ?_
 refine tc h (fun c5 h => ?_) (fun c5 h => ?_)
 ·refine tk (.k2 (.i 5 (vi 3) (.i 6 (vi 7) .n))) ?_
  exact Vs.intro Sees.refl ⟨(3, 7), rfl, h⟩
 refine q2 ?_
 exact Vs.intro sy ⟨((-1), 0), rfl, h⟩
theorem agraffebase_Within_ok (n : Nat) (a0 : Int) (a1 : Int) (a2 : Int) (r : Unit) (h : agraffebase_Within n a0 a1 a2 = some r) : FnL Tryz.prog 13 [vi a0, vi a1, vi a2] [] (vb ((decide (a1 ≤ a0)) && (decide (a0 ≤ a2)))) [] := by
 dsimp only [agraffebase_Within] at h
 refine fo [6] Tryz.call13 Tryz.func13 rfl ?_
 refine sk .a ?_
 refine sj ?_
 refine rk 4 (.k (.d (.k (.i 10 (vb (decide (a1 ≤ a0))) .n)))) ?_
 refine gj (vi a0) 11 (.mov 0) 10 true rfl ?_
 refine gj (vi a2) 12 (.mov 2) 10 true rfl ?_
 refine gk (vb (decide (a0 ≤ a2))) 13 (.bin .leq false 11 12) 10 true rfl (fun hg => (.cons hg (.cons hg .nil))) ?_
 refine pa 14 10 13 rfl rfl ?_
 refine jk 1 (.i 6 (vb ((decide (a1 ≤ a0)) && (decide (a0 ≤ a2)))) .n) ?_
 refine q3 ?_
 have h := si h
 subst h
 exact DoneS.ret Sees.refl rfl rfl
set_option maxHeartbeats 1000000 in
theorem agrafferef09_FormatItem_ok (n : Nat) (a0 : Item) (r : Str) (h : agrafferef09_FormatItem n a0 = some r) : FnL Tryz.prog 19 [.agg [vi a0.Kind, vi a0.From, vi a0.To, vt a0.Grand, vt a0.Place, vt a0.Who, vi a0.Deposit]] [] (vt r) [] := by
 dsimp only [agrafferef09_FormatItem] at h
 refine fo [2] Tryz.call19 Tryz.func19 rfl ?_
 refine sko (.i 1 (.ptr 0 0 0) .n) [some (.row 7 [.agg [vi a0.Kind, vi a0.From, vi a0.To, vt a0.Grand, vt a0.Place, vt a0.Who, vi a0.Deposit]])] ?_
 refine sko (.k (.i 3 (.own 1 0 4) .n)) [some (.row 7 [.agg [vi a0.Kind, vi a0.From, vi a0.To, vt a0.Grand, vt a0.Place, vt a0.Who, vi a0.Deposit]]), some (.row 1 [vt ([116, 117, 110, 105, 110, 103] : Str), vt ([109, 111, 118, 101] : Str), vt ([99, 111, 110, 99, 101, 114, 116] : Str), vt ([114, 101, 110, 116, 97, 108] : Str)])] ?_
 refine sj ?_
 refine rk 2 (.k2 (.i 8 (vi a0.Kind) .n)) ?_
 refine bK h fun y1 hy1 h => ?_
 refine jc 9 [8, (ki 0), (ki 3)] (agraffebase_Within_ok n a0.Kind 0 3 y1 hy1) ?_
 refine jk 1 (.d (.k2 (.i 4 (vb ((decide (0 ≤ a0.Kind)) && (decide (a0.Kind ≤ 3)))) .n))) ?_
 refine sj ?_
 refine rk 2 (.k3 (.i 11 (vi a0.Kind) .n)) ?_
 refine bK h fun y2 hy2 h => ?_
 refine jc 12 [11] (agraffebase_Decimal_ok n a0.Kind y2 hy2) ?_
 refine jk 1 (.d (.k3 (.i 5 (vt y2) .n))) ?_
 refine TriE.seqK h (fun (v3 : Str) => St.mk [(1, .ptr 0 0 0), (4, vb ((decide (0 ≤ a0.Kind)) && (decide (a0.Kind ≤ 3)))), (5, vt v3)] [some (.row 7 [.agg [vi a0.Kind, vi a0.From, vi a0.To, vt a0.Grand, vt a0.Place, vt a0.Who, vi a0.Deposit]])]) ?_ ?_
 ·rintro v3 h
  refine q1 ?_
  refine ts .a ?_
  refine TriE.draw (by kernel_rfl) ?_
  refine dk 1 (.i 19 (vt v3) .a) ?_
  refine cK h fun c4 h => ?_
  refine dp 20 (.bin .add false 19 (.c (.p (.string ⟨#[32]⟩)))) (ok_sadd_t rfl rfl c4) ?_
  refine dk 2 (.i 22 (vi a0.From) (.i 21 (.ptr 0 0 1) .a)) ?_
  refine bK h fun y4 hy4 h => ?_
  refine dc (vt y4) 0 23 [22] (agraffebase_Decimal_ok n a0.From y4 hy4) [] rfl ObsRen.nil ObsRen.nil rfl (.inr ⟨rfl, rfl⟩) ?_
  refine cK h fun c5 h => ?_
  refine dp 24 (.bin .add false 20 23) (ok_sadd_t rfl rfl c5) ?_
  refine cK h fun c6 h => ?_
  refine dp 25 (.bin .add false 24 (.c (.p (.string ⟨#[32]⟩)))) (ok_sadd_t rfl rfl c6) ?_
  refine dk 2 (.i 27 (vi a0.To) (.i 26 (.ptr 0 0 2) .a)) ?_
  refine bK h fun y5 hy5 h => ?_
  refine dc (vt y5) 0 28 [27] (agraffebase_Decimal_ok n a0.To y5 hy5) [] rfl ObsRen.nil ObsRen.nil rfl (.inr ⟨rfl, rfl⟩) ?_
  refine cK h fun c7 h => ?_
  refine dp 29 (.bin .add false 25 28) (ok_sadd_t rfl rfl c7) ?_
  refine cK h fun c8 h => ?_
  refine dp 30 (.bin .add false 29 (.c (.p (.string ⟨#[32]⟩)))) (ok_sadd_t rfl rfl c8) ?_
  refine dk 2 (.i 32 (vt a0.Grand) (.i 31 (.ptr 0 0 3) .a)) ?_
  refine cK h fun c9 h => ?_
  refine dp 33 (.bin .add false 30 32) (ok_sadd_t rfl rfl c9) ?_
  refine cK h fun c10 h => ?_
  refine dp 34 (.bin .add false 33 (.c (.p (.string ⟨#[32]⟩)))) (ok_sadd_t rfl rfl c10) ?_
  refine dk 2 (.i 36 (vt a0.Place) (.i 35 (.ptr 0 0 4) .a)) ?_
  refine cK h fun c11 h => ?_
  refine dp 37 (.bin .add false 34 36) (ok_sadd_t rfl rfl c11) ?_
  refine dk 1 (.i 5 (vt ((((((((v3 ++ ([32] : Str)) ++ y4) ++ ([32] : Str)) ++ y5) ++ ([32] : Str)) ++ a0.Grand) ++ ([32] : Str)) ++ a0.Place)) .a) ?_
  refine dfi (ob' := [some (.row 7 [.agg [vi a0.Kind, vi a0.From, vi a0.To, vt a0.Grand, vt a0.Place, vt a0.Who, vi a0.Deposit]])]) (.d4 (.d4 (.d4 (.d4 (.d4 (.k2 (.i 5 (vt ((((((((v3 ++ ([32] : Str)) ++ y4) ++ ([32] : Str)) ++ y5) ++ ([32] : Str)) ++ a0.Grand) ++ ([32] : Str)) ++ a0.Place)) .n))))))) [0] (.cons rfl .nil) ?_
  refine TriE.seqK h (fun (v6 : Str) => St.mk [(1, .ptr 0 0 0), (4, vb ((decide (0 ≤ a0.Kind)) && (decide (a0.Kind ≤ 3)))), (5, vt v6)] [some (.row 7 [.agg [vi a0.Kind, vi a0.From, vi a0.To, vt a0.Grand, vt a0.Place, vt a0.Who, vi a0.Deposit]])]) ?_ ?_
  ·rintro v6 h
   refine TriE.seqK h (fun (v8 : Str) => St.mk [(5, vt v8)] []) ?_ ?_
   ·rintro v8 h
    refine sk (.i 2 (vt v8) .n) ?_
    refine q3 ?_
    have h := si h
    subst h
    exact DoneS.ret Sees.refl rfl rfl
   intro k3 h
   refine sj ?_
   refine rk 3 (.k (.d (.k (.i 57 (vb (!((decide (0 ≤ a0.Kind)) && (decide (a0.Kind ≤ 3))))) .n)))) ?_
   refine gj (.ptr 0 0 0) 58 (.faddr 0 1) 57 false rfl ?_
   refine gk (vi a0.Kind) 59 (.load false 1 58) 57 false rfl (fun hg => (.cons hg .nil)) ?_
   refine gk (vb (a0.Kind == (3 : Int))) 60 (.bin .eql false 59 (ki 3)) 57 false rfl (fun hg => (.cons hg (.cons rfl .nil))) ?_
   refine po 61 57 60 rfl rfl ?_
   refine jf (.d4 (.k2 (.i 61 (vb ((!((decide (0 ≤ a0.Kind)) && (decide (a0.Kind ≤ 3)))) || (a0.Kind == (3 : Int)))) .n))) ?_
   refine tc h (fun c15 h => ?_) (fun c15 h => ?_)
   ·refine q6 ?_
    refine rk 1 (.k (.i 62 (vt v6) .n)) ?_
    refine cK h fun c16 h => ?_
    refine jo 63 (.bin .add false 62 (.c (.p (.string ⟨#[32]⟩)))) (ok_sadd_t rfl rfl c16) ?_
    refine rk 2 (.k (.i 65 (vi a0.Deposit) .n)) ?_
    refine bK h fun y7 hy7 h => ?_
    refine jc 66 [65] (agraffebase_Decimal_ok n a0.Deposit y7 hy7) ?_
    refine cK h fun c17 h => ?_
    refine jo 67 (.bin .add false 63 66) (ok_sadd_t rfl rfl c17) ?_
    refine jk 1 (.i 5 (vt ((v6 ++ ([32] : Str)) ++ y7)) .n) ?_
    exact Vs.intro (sc [] (by decide) (by kernel_rfl) ObRen.nil rfl rfl) ⟨((v6 ++ ([32] : Str)) ++ y7), rfl, h⟩
   refine q2 ?_
   exact Vs.intro (sc [] (by decide) (by kernel_rfl) ObRen.nil rfl rfl) ⟨v6, rfl, h⟩
  intro k2 h
  refine sj ?_
  refine rk 3 (.k3 (.i 40 (vb (!((decide (0 ≤ a0.Kind)) && (decide (a0.Kind ≤ 3))))) .n)) ?_
  refine gj (.ptr 0 0 0) 41 (.faddr 0 1) 40 false rfl ?_
  refine gk (vi a0.Kind) 42 (.load false 1 41) 40 false rfl (fun hg => (.cons hg .nil)) ?_
  refine gk (vb (a0.Kind == (0 : Int))) 43 (.bin .eql false 42 (ki 0)) 40 false rfl (fun hg => (.cons hg (.cons rfl .nil))) ?_
  refine po 44 40 43 rfl rfl ?_
  refine rk 1 (.d4 (.k3 (.i 45 (vb ((!((decide (0 ≤ a0.Kind)) && (decide (a0.Kind ≤ 3)))) || (a0.Kind == (0 : Int)))) .n))) ?_
  refine gj (.ptr 0 0 0) 46 (.faddr 0 1) 45 false rfl ?_
  refine gk (vi a0.Kind) 47 (.load false 1 46) 45 false rfl (fun hg => (.cons hg .nil)) ?_
  refine gk (vb (a0.Kind == (3 : Int))) 48 (.bin .eql false 47 (ki 3)) 45 false rfl (fun hg => (.cons hg (.cons rfl .nil))) ?_
  refine po 49 45 48 rfl rfl ?_
  refine jf (.d4 (.k3 (.i 49 (vb (((!((decide (0 ≤ a0.Kind)) && (decide (a0.Kind ≤ 3)))) || (a0.Kind == (0 : Int))) || (a0.Kind == (3 : Int)))) .n))) ?_
  refine tc h (fun c12 h => ?_) (fun c12 h => ?_)
  ·refine q6 ?_
   refine rk 1 (.k2 (.i 50 (vt ((((((((v3 ++ ([32] : Str)) ++ y4) ++ ([32] : Str)) ++ y5) ++ ([32] : Str)) ++ a0.Grand) ++ ([32] : Str)) ++ a0.Place)) .n)) ?_
   refine cK h fun c13 h => ?_
   refine jo 51 (.bin .add false 50 (.c (.p (.string ⟨#[32]⟩)))) (ok_sadd_t rfl rfl c13) ?_
   refine rk 2 (.d (.k2 (.i 51 (vt (((((((((v3 ++ ([32] : Str)) ++ y4) ++ ([32] : Str)) ++ y5) ++ ([32] : Str)) ++ a0.Grand) ++ ([32] : Str)) ++ a0.Place) ++ ([32] : Str))) (.i 53 (vt a0.Who) .n)))) ?_
   refine cK h fun c14 h => ?_
   refine jo 54 (.bin .add false 51 53) (ok_sadd_t rfl rfl c14) ?_
   refine jk 1 (.d (.k2 (.i 5 (vt ((((((((((v3 ++ ([32] : Str)) ++ y4) ++ ([32] : Str)) ++ y5) ++ ([32] : Str)) ++ a0.Grand) ++ ([32] : Str)) ++ a0.Place) ++ ([32] : Str)) ++ a0.Who)) .n))) ?_
   exact Vs.intro Sees.refl ⟨((((((((((v3 ++ ([32] : Str)) ++ y4) ++ ([32] : Str)) ++ y5) ++ ([32] : Str)) ++ a0.Grand) ++ ([32] : Str)) ++ a0.Place) ++ ([32] : Str)) ++ a0.Who), rfl, h⟩
  refine q2 ?_
  exact Vs.intro sy ⟨((((((((v3 ++ ([32] : Str)) ++ y4) ++ ([32] : Str)) ++ y5) ++ ([32] : Str)) ++ a0.Grand) ++ ([32] : Str)) ++ a0.Place), rfl, h⟩
 intro k1 h
 refine sk (.k4 (.i 13 (vb ((decide (0 ≤ a0.Kind)) && (decide (a0.Kind ≤ 3)))) .n)) ?_
 refine tc h (fun c1 h => ?_) (fun c1 h => ?_)
 ·refine q6 ?_
  refine rk 3 (.k (.d (.k (.i 14 (.own 1 0 4) (.i 16 (vi a0.Kind) .n))))) ?_
  refine cK h fun c2 h => ?_
  refine jo 17 (.iaddr 1 14 16) (ok_iaddr_o0 (j := a0.Kind.toNat) rfl rfl rfl (inB_to c2) (inB_lt c2)) ?_
  refine cK h fun c3 h => ?_
  refine jo 18 (.load false 1 17) (ok_load_pm (l := ([([116, 117, 110, 105, 110, 103] : Str), ([109, 111, 118, 101] : Str), ([99, 111, 110, 99, 101, 114, 116] : Str), ([114, 101, 110, 116, 97, 108] : Str)] : List Str)) (e := vt) (v := vt (ix ([([116, 117, 110, 105, 110, 103] : Str), ([109, 111, 118, 101] : Str), ([99, 111, 110, 99, 101, 114, 116] : Str), ([114, 101, 110, 116, 97, 108] : Str)] : List Str) a0.Kind.toNat)) rfl rfl c3 rfl) ?_
  refine jk 1 (.d2 (.k2 (.i 5 (vt (ix ([([116, 117, 110, 105, 110, 103] : Str), ([109, 111, 118, 101] : Str), ([99, 111, 110, 99, 101, 114, 116] : Str), ([114, 101, 110, 116, 97, 108] : Str)] : List Str) a0.Kind.toNat)) .n))) ?_
  exact Vs.intro (sc [0] (by decide) (by kernel_rfl) (.cons rfl .nil) rfl rfl) ⟨(ix ([([116, 117, 110, 105, 110, 103] : Str), ([109, 111, 118, 101] : Str), ([99, 111, 110, 99, 101, 114, 116] : Str), ([114, 101, 110, 116, 97, 108] : Str)] : List Str) a0.Kind.toNat), rfl, h⟩
 refine q2 ?_
 exact Vs.intro (sc [0] (by decide) (by kernel_rfl) (.cons rfl .nil) rfl rfl) ⟨y2, rfl, h⟩
theorem agrafferef09_IsMinute_ok (n : Nat) (a0 : Int) (r : Unit) (h : agrafferef09_IsMinute n a0 = some r) : FnL Tryz.prog 20 [vi a0] [] (vb ((decide (0 ≤ a0)) && (decide (a0 ≤ 1000000)))) [] := by
 dsimp only [agrafferef09_IsMinute] at h
 refine fo [2] Tryz.call20 Tryz.func20 rfl ?_
 refine sk .a ?_
 refine sj ?_
 refine rk 1 (.i 3 (vi a0) .n) ?_
 refine bK h fun y1 hy1 h => ?_
 refine jc 4 [3, (ki 0), (ki 1000000)] (agraffebase_Within_ok n a0 0 1000000 y1 hy1) ?_
 refine jk 1 (.i 2 (vb ((decide (0 ≤ a0)) && (decide (a0 ≤ 1000000)))) .n) ?_
 refine q3 ?_
 have h := si h
 subst h
 exact DoneS.ret Sees.refl rfl rfl
theorem agraffebase_isLetter_ok (n : Nat) (a0 : Int) (r : Unit) (h : agraffebase_isLetter n a0 = some r) : FnL Tryz.prog 44 [vk .u8 a0] [] (vb (((decide ((97 : Int) ≤ a0)) && (decide (a0 ≤ (122 : Int)))) || ((decide ((65 : Int) ≤ a0)) && (decide (a0 ≤ (90 : Int)))))) [] := by
 dsimp only [agraffebase_isLetter] at h
 refine fo [2] Tryz.call44 Tryz.func44 rfl ?_
 refine sk .a ?_
 refine sj ?_
 refine rk 3 (.k (.i 5 (vb (decide ((97 : Int) ≤ a0))) .n)) ?_
 refine gj (vk .u8 a0) 6 (.mov 0) 5 true rfl ?_
 refine gk (vb (decide (a0 ≤ (122 : Int)))) 7 (.bin .leq false 6 (.c (.p (.int .u8 122)))) 5 true rfl (fun hg => (.cons hg (.cons rfl .nil))) ?_
 refine pa 8 5 7 rfl rfl ?_
 refine rk 1 (.d3 (.k (.i 9 (vb ((decide ((97 : Int) ≤ a0)) && (decide (a0 ≤ (122 : Int))))) .n))) ?_
 refine gj (vk .u8 a0) 10 (.mov 0) 9 false rfl ?_
 refine gk (vb (decide ((65 : Int) ≤ a0))) 11 (.bin .geq false 10 (.c (.p (.int .u8 65)))) 9 false rfl (fun hg => (.cons hg (.cons rfl .nil))) ?_
 refine gk (vb (decide ((65 : Int) ≤ a0))) 12 (.mov 11) 9 false rfl (fun hg => (.cons hg .nil)) ?_
 refine gj (vk .u8 a0) 13 (.mov 0) 12 true rfl ?_
 refine gk (vb (decide (a0 ≤ (90 : Int)))) 14 (.bin .leq false 13 (.c (.p (.int .u8 90)))) 12 true rfl (fun hg => (.cons hg (.cons rfl .nil))) ?_
 refine RegJ.op (Op1.andg (g := !((decide ((97 : Int) ≤ a0)) && (decide (a0 ≤ (122 : Int))))) (cy (IG 15 (.pick 12 14 (.c (.p (.bool false)))) 9 false)) rfl rfl rfl (fun hg => by first | exact hokA2 hg | exact hokA3 hg | exact hokA1 | exact hokA0 | (rw [hg]; simp) | simp_all)) ?_
 refine po 16 9 15 rfl rfl ?_
 refine jk 1 (.i 2 (vb (((decide ((97 : Int) ≤ a0)) && (decide (a0 ≤ (122 : Int)))) || ((decide ((65 : Int) ≤ a0)) && (decide (a0 ≤ (90 : Int)))))) .n) ?_
 refine q3 ?_
 have h := si h
 subst h
 exact DoneS.ret Sees.refl rfl rfl
set_option maxHeartbeats 1000000 in
theorem agraffebase_IsName_ok (n : Nat) (a0 : Str) (r : Bool) (h : agraffebase_IsName n a0 = some r) : FnL Tryz.prog 12 [vt a0] [] (vb r) [] := by
 dsimp only [agraffebase_IsName] at h
 refine fo [2] Tryz.call12 Tryz.func12 rfl ?_
 refine sk .a ?_
 refine q1 ?_
 refine sj ?_
 refine rk 1 (.k (.i 4 (vt a0) .n)) ?_
 refine jo 5 (.len 1 4) (ok_len_t rfl) ?_
 refine jo 6 (.bin .eql false 5 (ki 0)) (n_eql (i := a0.length) (j := 0) rfl rfl) ?_
 refine rk 1 (.d2 (.k (.i 7 (vb (decide (a0.length = 0))) .n))) ?_
 refine gj (vt a0) 8 (.mov 0) 7 false rfl ?_
 refine gv 9 (.len 1 8) 7 false rfl (fun hg => (ok_len_t rfl)) (fun hg => (.cons hg .nil)) ?_
 refine gv 10 (.bin .gtr false 9 (ki 12)) 7 false rfl (fun hg => (n_gtr (i := a0.length) (j := 12) rfl rfl)) (fun hg => (.cons hg (.cons rfl .nil))) ?_
 refine po 11 7 10 rfl rfl ?_
 refine rk 1 (.d4 (.k (.i 12 (vb ((decide (a0.length = 0)) || (decide (12 < a0.length)))) .n))) ?_
 refine gj (vt a0) 13 (.mov 0) 12 false rfl ?_
 refine cK h fun c1 h => ?_
 refine gv 14 (.sidx 13 (ki 0)) 12 false rfl (fun hg => (ok_sidx_t (j := 0) rfl rfl rfl (gor c1 hg))) (fun hg => (.cons hg (.cons rfl .nil))) ?_
 refine bK h fun y1 hy1 h => ?_
 refine gc 15 [14] 12 false rfl (fun hg => agraffebase_isLetter_ok n (((List.getD a0 0 0).toNat : Nat) : Int) y1 (gcall_some hy1 hg)) (fun hg => (.cons rfl (.cons hg .nil))) (fun hg => by kernel_rfl) ?_
 refine gk (vb (!(((decide ((97 : Int) ≤ (((List.getD a0 0 0).toNat : Nat) : Int))) && (decide ((((List.getD a0 0 0).toNat : Nat) : Int) ≤ (122 : Int)))) || ((decide ((65 : Int) ≤ (((List.getD a0 0 0).toNat : Nat) : Int))) && (decide ((((List.getD a0 0 0).toNat : Nat) : Int) ≤ (90 : Int))))))) 16 (.un .not 15) 12 false rfl (fun hg => (.cons hg .nil)) ?_
 refine po 17 12 16 rfl rfl ?_
 refine jf (.d4 (.d (.k (.i 17 (vb (((decide (a0.length = 0)) || (decide (12 < a0.length))) || (!(((decide ((97 : Int) ≤ (((List.getD a0 0 0).toNat : Nat) : Int))) && (decide ((((List.getD a0 0 0).toNat : Nat) : Int) ≤ (122 : Int)))) || ((decide ((65 : Int) ≤ (((List.getD a0 0 0).toNat : Nat) : Int))) && (decide ((((List.getD a0 0 0).toNat : Nat) : Int) ≤ (90 : Int)))))))) .n)))) ?_
 refine tc h (fun c2 h => ?_) (fun c2 h => ?_)
 ·refine sk (.i 2 (vb false) .n) ?_
  refine q3 ?_
  have h := si h
  subst h
  exact DoneS.ret Sees.refl rfl rfl
 refine q2 ?_
 refine TriE.seqK h (fun (_ : Unit) => St.mk [] []) ?_ ?_
 ·rintro ⟨⟩ h
  refine sk (.i 2 (vb true) .n) ?_
  refine q3 ?_
  have h := si h
  subst h
  exact DoneS.ret Sees.refl rfl rfl
 intro k1 h
 refine sk (.k (.i 3 (vi 0) .n)) ?_
 refine q4 ?_
 refine ts (.k (.i 3 (vi 0) .n)) ?_
 refine TriE.loopN h (fun (v4 : Nat) => St.mk [(0, vt a0), (3, vi v4)] []) rfl ?_
 clear h
 rintro back v4 h
 dsimp only [agraffebase_IsName_L1] at h
 refine q1 ?_
 refine sj ?_
 refine rk 2 (.k2 (.i 18 (vi v4) (.i 19 (vt a0) .n))) ?_
 refine jo 20 (.len 1 19) (ok_len_t rfl) ?_
 refine jo 21 (.bin .lss false 18 20) (n_lss (i := v4) (j := a0.length) rfl rfl) ?_
 refine jf (.d2 (.k2 (.i 21 (vb (decide (v4 < a0.length))) .n))) ?_
 refine tc h (fun c3 h => ?_) (fun c3 h => ?_)
 ·refine q2 ?_
  refine q7 ?_
  refine sj ?_
  refine rk 2 (.k2 (.i 24 (vt a0) (.i 25 (vi v4) .n))) ?_
  refine jo 26 (.sidx 24 25) (ok_sidx_t (j := v4) rfl rfl rfl c3) ?_
  refine bK h fun y5 hy5 h => ?_
  refine jc 27 [26] (agraffebase_isLetter_ok n (((List.getD a0 v4 0).toNat : Nat) : Int) y5 hy5) ?_
  refine rk 2 (.d2 (.k2 (.i 29 (vb (!(((decide ((97 : Int) ≤ (((List.getD a0 v4 0).toNat : Nat) : Int))) && (decide ((((List.getD a0 v4 0).toNat : Nat) : Int) ≤ (122 : Int)))) || ((decide ((65 : Int) ≤ (((List.getD a0 v4 0).toNat : Nat) : Int))) && (decide ((((List.getD a0 v4 0).toNat : Nat) : Int) ≤ (90 : Int))))))) .n))) ?_
  refine gj (vt a0) 30 (.mov 0) 29 true rfl ?_
  refine gj (vi v4) 31 (.mov 3) 29 true rfl ?_
  refine gv 32 (.sidx 30 31) 29 true rfl (fun hg => (ok_sidx_t (j := v4) rfl rfl rfl c3)) (fun hg => (.cons hg (.cons hg .nil))) ?_
  refine bK h fun y6 hy6 h => ?_
  refine gc 33 [32] 29 true rfl (fun hg => agraffebase_isDigit_ok n (((List.getD a0 v4 0).toNat : Nat) : Int) y6 (gcall_some hy6 hg)) (fun hg => (.cons rfl (.cons hg .nil))) (fun hg => by kernel_rfl) ?_
  refine gk (vb (!((decide ((48 : Int) ≤ (((List.getD a0 v4 0).toNat : Nat) : Int))) && (decide ((((List.getD a0 v4 0).toNat : Nat) : Int) ≤ (57 : Int)))))) 34 (.un .not 33) 29 true rfl (fun hg => (.cons hg .nil)) ?_
  refine pa 35 29 34 rfl rfl ?_
  refine rk 1 (.d4 (.d2 (.k2 (.i 30 (.cond (!(((decide ((97 : Int) ≤ (((List.getD a0 v4 0).toNat : Nat) : Int))) && (decide ((((List.getD a0 v4 0).toNat : Nat) : Int) ≤ (122 : Int)))) || ((decide ((65 : Int) ≤ (((List.getD a0 v4 0).toNat : Nat) : Int))) && (decide ((((List.getD a0 v4 0).toNat : Nat) : Int) ≤ (90 : Int)))))) (vt a0)) (.i 31 (.cond (!(((decide ((97 : Int) ≤ (((List.getD a0 v4 0).toNat : Nat) : Int))) && (decide ((((List.getD a0 v4 0).toNat : Nat) : Int) ≤ (122 : Int)))) || ((decide ((65 : Int) ≤ (((List.getD a0 v4 0).toNat : Nat) : Int))) && (decide ((((List.getD a0 v4 0).toNat : Nat) : Int) ≤ (90 : Int)))))) (vi v4)) (.i 32 (.cond (!(((decide ((97 : Int) ≤ (((List.getD a0 v4 0).toNat : Nat) : Int))) && (decide ((((List.getD a0 v4 0).toNat : Nat) : Int) ≤ (122 : Int)))) || ((decide ((65 : Int) ≤ (((List.getD a0 v4 0).toNat : Nat) : Int))) && (decide ((((List.getD a0 v4 0).toNat : Nat) : Int) ≤ (90 : Int)))))) (vk .u8 (((List.getD a0 v4 0).toNat : Nat) : Int))) (.i 33 (.cond (!(((decide ((97 : Int) ≤ (((List.getD a0 v4 0).toNat : Nat) : Int))) && (decide ((((List.getD a0 v4 0).toNat : Nat) : Int) ≤ (122 : Int)))) || ((decide ((65 : Int) ≤ (((List.getD a0 v4 0).toNat : Nat) : Int))) && (decide ((((List.getD a0 v4 0).toNat : Nat) : Int) ≤ (90 : Int)))))) (vb ((decide ((48 : Int) ≤ (((List.getD a0 v4 0).toNat : Nat) : Int))) && (decide ((((List.getD a0 v4 0).toNat : Nat) : Int) ≤ (57 : Int)))))) (.i 34 (.cond (!(((decide ((97 : Int) ≤ (((List.getD a0 v4 0).toNat : Nat) : Int))) && (decide ((((List.getD a0 v4 0).toNat : Nat) : Int) ≤ (122 : Int)))) || ((decide ((65 : Int) ≤ (((List.getD a0 v4 0).toNat : Nat) : Int))) && (decide ((((List.getD a0 v4 0).toNat : Nat) : Int) ≤ (90 : Int)))))) (vb (!((decide ((48 : Int) ≤ (((List.getD a0 v4 0).toNat : Nat) : Int))) && (decide ((((List.getD a0 v4 0).toNat : Nat) : Int) ≤ (57 : Int))))))) (.i 36 (vb ((!(((decide ((97 : Int) ≤ (((List.getD a0 v4 0).toNat : Nat) : Int))) && (decide ((((List.getD a0 v4 0).toNat : Nat) : Int) ≤ (122 : Int)))) || ((decide ((65 : Int) ≤ (((List.getD a0 v4 0).toNat : Nat) : Int))) && (decide ((((List.getD a0 v4 0).toNat : Nat) : Int) ≤ (90 : Int)))))) && (!((decide ((48 : Int) ≤ (((List.getD a0 v4 0).toNat : Nat) : Int))) && (decide ((((List.getD a0 v4 0).toNat : Nat) : Int) ≤ (57 : Int))))))) .n))))))))) ?_
  refine gj (vt a0) 37 (.mov 0) 36 true rfl ?_
  refine gj (vi v4) 38 (.mov 3) 36 true rfl ?_
  refine gv 39 (.sidx 37 38) 36 true rfl (fun hg => (ok_sidx_t (j := v4) rfl rfl rfl c3)) (fun hg => (.cons hg (.cons hg .nil))) ?_
  refine gk (vb ((((List.getD a0 v4 0).toNat : Nat) : Int) != (45 : Int))) 40 (.bin .neq false 39 (.c (.p (.int .u8 45)))) 36 true rfl (fun hg => (.cons hg (.cons rfl .nil))) ?_
  refine pa 41 36 40 rfl rfl ?_
  refine jf (.d4 (.d (.k2 (.i 41 (vb (((!(((decide ((97 : Int) ≤ (((List.getD a0 v4 0).toNat : Nat) : Int))) && (decide ((((List.getD a0 v4 0).toNat : Nat) : Int) ≤ (122 : Int)))) || ((decide ((65 : Int) ≤ (((List.getD a0 v4 0).toNat : Nat) : Int))) && (decide ((((List.getD a0 v4 0).toNat : Nat) : Int) ≤ (90 : Int)))))) && (!((decide ((48 : Int) ≤ (((List.getD a0 v4 0).toNat : Nat) : Int))) && (decide ((((List.getD a0 v4 0).toNat : Nat) : Int) ≤ (57 : Int)))))) && ((((List.getD a0 v4 0).toNat : Nat) : Int) != (45 : Int)))) .n)))) ?_
  refine tc h (fun c4 h => ?_) (fun c4 h => ?_)
  ·refine sk (.i 2 (vb false) .n) ?_
   refine q3 ?_
   have h := si h
   subst h
   exact DoneS.ret Sees.refl rfl rfl
  refine q2 ?_
  refine q6 ?_
  refine rk 1 (.k (.i 22 (vi v4) .n)) ?_
  refine cK h fun c5 h => ?_
  refine jo 23 (.bin .add false 22 (ki 1)) (r_addn (i := v4) (j := 1) rfl rfl c5) ?_
  refine jk 1 (.d (.k (.i 3 (vi ((v4 + 1 : Nat) : Int)) .n))) ?_
  exact Vs.intro sy ⟨(v4 + 1), rfl, h⟩
 refine q5 ?_
 exact Vs.intro sy ⟨(), rfl, h⟩
set_option maxHeartbeats 1000000 in
theorem agraffelaw09_DiaryTexts_ok (n : Nat) (a0 : Item) (a1 : Str) (r : Bool) (h : agraffelaw09_DiaryTexts n a0 a1 = some r) : FnL Tryz.prog 4 [.agg [vi a0.Kind, vi a0.From, vi a0.To, vt a0.Grand, vt a0.Place, vt a0.Who, vi a0.Deposit], vt a1] [] (vb r) [] := by
 dsimp only [agraffelaw09_DiaryTexts] at h
 refine fo [4] Tryz.call4 Tryz.func4 rfl ?_
 refine sko (.d (.k (.i 2 (.ptr 0 0 0) .n))) [some (.row 7 [.agg [vi a0.Kind, vi a0.From, vi a0.To, vt a0.Grand, vt a0.Place, vt a0.Who, vi a0.Deposit]])] ?_
 refine q1 ?_
 refine sj ?_
 refine bK h fun y1 hy1 h => ?_
 refine jc 12 [] (agraffelaw09_awake_ok n y1 hy1) ?_
 refine jk 1 (.d (.k2 (.i 13 (vb (!y1)) .n))) ?_
 refine tc h (fun c1 h => ?_) (fun c1 h => ?_)
 ·refine sk (.i 4 (vb false) .n) ?_
  refine q3 ?_
  have h := si h
  subst h
  exact DoneS.ret (S' := ⟨[(4, vb false)], []⟩) (sc [] (by decide) (by kernel_rfl) ObRen.nil rfl rfl) rfl rfl
 refine q2 ?_
 refine q1 ?_
 refine sj ?_
 refine rk 1 (.k2 (.i 14 (.agg [vi a0.Kind, vi a0.From, vi a0.To, vt a0.Grand, vt a0.Place, vt a0.Who, vi a0.Deposit]) .n)) ?_
 refine bK h fun y2 hy2 h => ?_
 refine jc 15 [14] (agraffelaw09_slim_ok n a0 y2 hy2) ?_
 refine rk 2 (.d (.k2 (.i 17 (vb (!(((decide (a0.Grand.length ≤ 30)) && (decide (a0.Place.length ≤ 30))) && (decide (a0.Who.length ≤ 30))))) .n))) ?_
 refine gj (vt a1) 18 (.mov 1) 17 false rfl ?_
 refine gv 19 (.len 1 18) 17 false rfl (fun hg => (ok_len_t rfl)) (fun hg => (.cons hg .nil)) ?_
 refine gv 20 (.bin .gtr false 19 (ki 200)) 17 false rfl (fun hg => (n_gtr (i := a1.length) (j := 200) rfl rfl)) (fun hg => (.cons hg (.cons rfl .nil))) ?_
 refine po 21 17 20 rfl rfl ?_
 refine jf (.d4 (.k2 (.i 21 (vb ((!(((decide (a0.Grand.length ≤ 30)) && (decide (a0.Place.length ≤ 30))) && (decide (a0.Who.length ≤ 30)))) || (decide (200 < a1.length)))) .n))) ?_
 refine tc h (fun c2 h => ?_) (fun c2 h => ?_)
 ·refine sk (.i 4 (vb true) .n) ?_
  refine q3 ?_
  have h := si h
  subst h
  exact DoneS.ret (S' := ⟨[(4, vb true)], []⟩) (sc [] (by decide) (by kernel_rfl) ObRen.nil rfl rfl) rfl rfl
 refine q2 ?_
 refine sj ?_
 refine rk 1 (.k2 (.i 22 (.agg [vi a0.Kind, vi a0.From, vi a0.To, vt a0.Grand, vt a0.Place, vt a0.Who, vi a0.Deposit]) .n)) ?_
 refine bK h fun y3 hy3 h => ?_
 refine jc 23 [22] (diary_FormatItem_ok n a0 y3 hy3) ?_
 refine jk 1 (.d (.k2 (.i 5 (vt y3) .n))) ?_
 refine sj ?_
 refine rk 1 (.k3 (.i 25 (vt a1) .n)) ?_
 refine bK h fun y4 hy4 h => ?_
 refine jc 26 [25] (diary_ParseItem_ok n a1 y4 hy4) ?_
 refine jko 6 (.d (.k3 (.i 6 (.ptr 1 0 0) (.i 7 (vi y4.2.2.2.2.2.2.2) .n)))) [some (.row 7 [.agg [vi a0.Kind, vi a0.From, vi a0.To, vt a0.Grand, vt a0.Place, vt a0.Who, vi a0.Deposit]]), some (.row 7 [.agg [vi y4.1, vi y4.2.1, vi y4.2.2.1, vt y4.2.2.2.1, vt y4.2.2.2.2.1, vt y4.2.2.2.2.2.1, vi y4.2.2.2.2.2.2.1]])] ?_
 refine sj ?_
 refine rk 1 (.d (.k4 (.i 30 (vt a1) .n))) ?_
 refine bK h fun y5 hy5 h => ?_
 refine jc 31 [30] (agrafferef09_ParseItem_ok n a1 y5 hy5) ?_
 refine jko 6 (.d (.k4 (.i 8 (.ptr 2 0 0) (.i 9 (vi y5.2.2.2.2.2.2.2) .n)))) [some (.row 7 [.agg [vi a0.Kind, vi a0.From, vi a0.To, vt a0.Grand, vt a0.Place, vt a0.Who, vi a0.Deposit]]), some (.row 7 [.agg [vi y4.1, vi y4.2.1, vi y4.2.2.1, vt y4.2.2.2.1, vt y4.2.2.2.2.1, vt y4.2.2.2.2.2.1, vi y4.2.2.2.2.2.2.1]]), some (.row 7 [.agg [vi y5.1, vi y5.2.1, vi y5.2.2.1, vt y5.2.2.2.1, vt y5.2.2.2.2.1, vt y5.2.2.2.2.2.1, vi y5.2.2.2.2.2.2.1]])] ?_
 refine q1 ?_
 refine sj ?_
 refine rk 2 (.k4 (.k2 (.i 34 (vt y3) (.i 35 (.agg [vi a0.Kind, vi a0.From, vi a0.To, vt a0.Grand, vt a0.Place, vt a0.Who, vi a0.Deposit]) .n)))) ?_
 refine bK h fun y6 hy6 h => ?_
 refine jc 36 [35] (agrafferef09_FormatItem_ok n a0 y6 hy6) ?_
 refine rk 2 (.d (.k4 (.k2 (.i 38 (vb (!(y3 == y6))) .n)))) ?_
 refine gj (vi y4.2.2.2.2.2.2.2) 39 (.mov 7) 38 false rfl ?_
 refine gj (vi y5.2.2.2.2.2.2.2) 40 (.mov 9) 38 false rfl ?_
 refine gk (vb (y4.2.2.2.2.2.2.2 != y5.2.2.2.2.2.2.2)) 41 (.bin .neq false 39 40) 38 false rfl (fun hg => (.cons hg (.cons hg .nil))) ?_
 refine po 42 38 41 rfl rfl ?_
 refine rk 1 (.d4 (.k3 (.d (.k (.i 43 (vb ((!(y3 == y6)) || (y4.2.2.2.2.2.2.2 != y5.2.2.2.2.2.2.2))) .n))))) ?_
 refine gj (.agg [vi y4.1, vi y4.2.1, vi y4.2.2.1, vt y4.2.2.2.1, vt y4.2.2.2.2.1, vt y4.2.2.2.2.2.1, vi y4.2.2.2.2.2.2.1]) 44 (.load true 7 6) 43 false rfl ?_
 refine gj (.agg [vi y5.1, vi y5.2.1, vi y5.2.2.1, vt y5.2.2.2.1, vt y5.2.2.2.2.1, vt y5.2.2.2.2.2.1, vi y5.2.2.2.2.2.2.1]) 45 (.load true 7 8) 43 false rfl ?_
 refine RegJ.op (Op1.aggeqg (g := !((!(y3 == y6)) || (y4.2.2.2.2.2.2.2 != y5.2.2.2.2.2.2.2))) (cs := [vi y4.1, vi y4.2.1, vi y4.2.2.1, vt y4.2.2.2.1, vt y4.2.2.2.2.1, vt y4.2.2.2.2.2.1, vi y4.2.2.2.2.2.2.1]) (ds := [vi y5.1, vi y5.2.1, vi y5.2.2.1, vt y5.2.2.2.1, vt y5.2.2.2.2.1, vt y5.2.2.2.2.2.1, vi y5.2.2.2.2.2.2.1]) (b := (y4.1 == y5.1) && ((y4.2.1 == y5.2.1) && ((y4.2.2.1 == y5.2.2.1) && ((y4.2.2.2.1 == y5.2.2.2.1) && ((y4.2.2.2.2.1 == y5.2.2.2.2.1) && ((y4.2.2.2.2.2.1 == y5.2.2.2.2.2.1) && ((y4.2.2.2.2.2.2.1 == y5.2.2.2.2.2.2.1) && true))))))) true (cy (IG 46 (.bin .neq false 44 45) 43 false)) rfl rfl rfl (by kernel_rfl) (fun hg => (.cons hg (.cons hg .nil)))) ?_
 refine po 47 43 46 rfl rfl ?_
 refine jp [(2, .ptr 0 0 0), (5, vt y3), (47, vb (((!(y3 == y6)) || (y4.2.2.2.2.2.2.2 != y5.2.2.2.2.2.2.2)) || (!((y4.1 == y5.1) && ((y4.2.1 == y5.2.1) && ((y4.2.2.1 == y5.2.2.1) && ((y4.2.2.2.1 == y5.2.2.2.1) && ((y4.2.2.2.2.1 == y5.2.2.2.2.1) && ((y4.2.2.2.2.2.1 == y5.2.2.2.2.2.1) && ((y4.2.2.2.2.2.2.1 == y5.2.2.2.2.2.2.1) && true))))))))))] ?_
 refine tc h (fun c3 h => ?_) (fun c3 h => ?_)
 ·refine sk (.i 4 (vb false) .n) ?_
  refine q3 ?_
  have h := si h
  subst h
  exact DoneS.ret (S' := ⟨[(4, vb false)], []⟩) (sc [] (by decide) (by kernel_rfl) ObRen.nil rfl rfl) rfl rfl
 refine q2 ?_
 refine q1 ?_
 refine sj ?_
 refine rk 2 (.k2 (.i 49 (vi a0.Kind) .n)) ?_
 refine bK h fun y7 hy7 h => ?_
 refine jc 50 [49, (ki 0), (ki 3)] (agraffebase_Within_ok n a0.Kind 0 3 y7 hy7) ?_
 refine rk 2 (.d (.k2 (.i 52 (vb (!((decide (0 ≤ a0.Kind)) && (decide (a0.Kind ≤ 3))))) .n))) ?_
 refine gj (.ptr 0 0 1) 53 (.faddr 1 2) 52 false rfl ?_
 refine gk (vi a0.From) 54 (.load false 1 53) 52 false rfl (fun hg => (.cons hg .nil)) ?_
 refine bK h fun y8 hy8 h => ?_
 refine gc 55 [54] 52 false rfl (fun hg => agrafferef09_IsMinute_ok n a0.From y8 (gcall_some hy8 hg)) (fun hg => (.cons rfl (.cons hg .nil))) (fun hg => by kernel_rfl) ?_
 refine gk (vb (!((decide (0 ≤ a0.From)) && (decide (a0.From ≤ 1000000))))) 56 (.un .not 55) 52 false rfl (fun hg => (.cons hg .nil)) ?_
 refine po 57 52 56 rfl rfl ?_
 refine rk 1 (.d4 (.d (.k2 (.i 58 (vb ((!((decide (0 ≤ a0.Kind)) && (decide (a0.Kind ≤ 3)))) || (!((decide (0 ≤ a0.From)) && (decide (a0.From ≤ 1000000)))))) .n)))) ?_
 refine gj (.ptr 0 0 2) 59 (.faddr 2 2) 58 false rfl ?_
 refine gk (vi a0.To) 60 (.load false 1 59) 58 false rfl (fun hg => (.cons hg .nil)) ?_
 refine bK h fun y9 hy9 h => ?_
 refine gc 61 [60] 58 false rfl (fun hg => agrafferef09_IsMinute_ok n a0.To y9 (gcall_some hy9 hg)) (fun hg => (.cons rfl (.cons hg .nil))) (fun hg => by kernel_rfl) ?_
 refine gk (vb (!((decide (0 ≤ a0.To)) && (decide (a0.To ≤ 1000000))))) 62 (.un .not 61) 58 false rfl (fun hg => (.cons hg .nil)) ?_
 refine po 63 58 62 rfl rfl ?_
 refine rk 1 (.d4 (.d (.k2 (.i 64 (vb (((!((decide (0 ≤ a0.Kind)) && (decide (a0.Kind ≤ 3)))) || (!((decide (0 ≤ a0.From)) && (decide (a0.From ≤ 1000000))))) || (!((decide (0 ≤ a0.To)) && (decide (a0.To ≤ 1000000)))))) .n)))) ?_
 refine gj (.ptr 0 0 3) 65 (.faddr 3 2) 64 false rfl ?_
 refine gk (vt a0.Grand) 66 (.load false 1 65) 64 false rfl (fun hg => (.cons hg .nil)) ?_
 refine bK h fun y10 hy10 h => ?_
 refine gc 67 [66] 64 false rfl (fun hg => agraffebase_IsName_ok n a0.Grand y10 (gcall_some hy10 hg)) (fun hg => (.cons rfl (.cons hg .nil))) (fun hg => by kernel_rfl) ?_
 refine gk (vb (!y10)) 68 (.un .not 67) 64 false rfl (fun hg => (.cons hg .nil)) ?_
 refine po 69 64 68 rfl rfl ?_
 refine rk 1 (.d4 (.d (.k2 (.i 70 (vb ((((!((decide (0 ≤ a0.Kind)) && (decide (a0.Kind ≤ 3)))) || (!((decide (0 ≤ a0.From)) && (decide (a0.From ≤ 1000000))))) || (!((decide (0 ≤ a0.To)) && (decide (a0.To ≤ 1000000))))) || (!y10))) .n)))) ?_
 refine gj (.ptr 0 0 4) 71 (.faddr 4 2) 70 false rfl ?_
 refine gk (vt a0.Place) 72 (.load false 1 71) 70 false rfl (fun hg => (.cons hg .nil)) ?_
 refine bK h fun y11 hy11 h => ?_
 refine gc 73 [72] 70 false rfl (fun hg => agraffebase_IsName_ok n a0.Place y11 (gcall_some hy11 hg)) (fun hg => (.cons rfl (.cons hg .nil))) (fun hg => by kernel_rfl) ?_
 refine gk (vb (!y11)) 74 (.un .not 73) 70 false rfl (fun hg => (.cons hg .nil)) ?_
 refine po 75 70 74 rfl rfl ?_
 refine rk 1 (.d4 (.d (.k2 (.i 76 (vb (((((!((decide (0 ≤ a0.Kind)) && (decide (a0.Kind ≤ 3)))) || (!((decide (0 ≤ a0.From)) && (decide (a0.From ≤ 1000000))))) || (!((decide (0 ≤ a0.To)) && (decide (a0.To ≤ 1000000))))) || (!y10)) || (!y11))) .n)))) ?_
 refine gj (.ptr 0 0 5) 77 (.faddr 5 2) 76 false rfl ?_
 refine gk (vt a0.Who) 78 (.load false 1 77) 76 false rfl (fun hg => (.cons hg .nil)) ?_
 refine gk (vb (!(a0.Who == ([] : Str)))) 79 (.bin .neq false 78 (.c (.p (.string ⟨#[]⟩)))) 76 false rfl (fun hg => (.cons hg (.cons rfl .nil))) ?_
 refine gk (vb (!(a0.Who == ([] : Str)))) 80 (.mov 79) 76 false rfl (fun hg => (.cons hg .nil)) ?_
 refine gj (.ptr 0 0 5) 81 (.faddr 5 2) 80 true rfl ?_
 refine gk (vt a0.Who) 82 (.load false 1 81) 80 true rfl (fun hg => (.cons hg .nil)) ?_
 refine bK h fun y12 hy12 h => ?_
 refine gc 83 [82] 80 true rfl (fun hg => agraffebase_IsName_ok n a0.Who y12 (gcall_some hy12 hg)) (fun hg => (.cons rfl (.cons hg .nil))) (fun hg => by kernel_rfl) ?_
 refine gk (vb (!y12)) 84 (.un .not 83) 80 true rfl (fun hg => (.cons hg .nil)) ?_
 refine RegJ.op (Op1.andg (g := !(((((!((decide (0 ≤ a0.Kind)) && (decide (a0.Kind ≤ 3)))) || (!((decide (0 ≤ a0.From)) && (decide (a0.From ≤ 1000000))))) || (!((decide (0 ≤ a0.To)) && (decide (a0.To ≤ 1000000))))) || (!y10)) || (!y11))) (cy (IG 85 (.pick 80 84 (.c (.p (.bool false)))) 76 false)) rfl rfl rfl (fun hg => by first | exact hokA2 hg | exact hokA3 hg | exact hokA1 | exact hokA0 | (rw [hg]; simp) | simp_all)) ?_
 refine po 86 76 85 rfl rfl ?_
 refine rk 1 (.d4 (.d4 (.d2 (.k2 (.i 87 (vb ((((((!((decide (0 ≤ a0.Kind)) && (decide (a0.Kind ≤ 3)))) || (!((decide (0 ≤ a0.From)) && (decide (a0.From ≤ 1000000))))) || (!((decide (0 ≤ a0.To)) && (decide (a0.To ≤ 1000000))))) || (!y10)) || (!y11)) || ((!(a0.Who == ([] : Str))) && (!y12)))) .n))))) ?_
 refine gj (.ptr 0 0 6) 88 (.faddr 6 2) 87 false rfl ?_
 refine gk (vi a0.Deposit) 89 (.load false 1 88) 87 false rfl (fun hg => (.cons hg .nil)) ?_
 refine bK h fun y13 hy13 h => ?_
 refine gc 90 [89, (ki 0), (ki 1000000000)] 87 false rfl (fun hg => agraffebase_Within_ok n a0.Deposit 0 1000000000 y13 (gcall_some hy13 hg)) (fun hg => (.cons rfl (.cons hg (.cons rfl (.cons rfl .nil))))) (fun hg => by kernel_rfl) ?_
 refine gk (vb (!((decide (0 ≤ a0.Deposit)) && (decide (a0.Deposit ≤ 1000000000))))) 91 (.un .not 90) 87 false rfl (fun hg => (.cons hg .nil)) ?_
 refine po 92 87 91 rfl rfl ?_
 refine jf (.d4 (.d (.k2 (.i 92 (vb (((((((!((decide (0 ≤ a0.Kind)) && (decide (a0.Kind ≤ 3)))) || (!((decide (0 ≤ a0.From)) && (decide (a0.From ≤ 1000000))))) || (!((decide (0 ≤ a0.To)) && (decide (a0.To ≤ 1000000))))) || (!y10)) || (!y11)) || ((!(a0.Who == ([] : Str))) && (!y12))) || (!((decide (0 ≤ a0.Deposit)) && (decide (a0.Deposit ≤ 1000000000)))))) .n)))) ?_
 refine tc h (fun c4 h => ?_) (fun c4 h => ?_)
 ·refine sk (.i 4 (vb true) .n) ?_
  refine q3 ?_
  have h := si h
  subst h
  exact DoneS.ret (S' := ⟨[(4, vb true)], []⟩) (sc [] (by decide) (by kernel_rfl) ObRen.nil rfl rfl) rfl rfl
 refine q2 ?_
 refine TriE.seqK h (fun (v14 : Str) => St.mk [(2, .ptr 0 0 0), (5, vt y3)] [some (.row 7 [.agg [vi a0.Kind, vi a0.From, vi a0.To, vt a0.Grand, vt a0.Place, vt v14, vi a0.Deposit]])]) ?_ ?_
 ·rintro v14 h
  refine TriE.seqK h (fun (v15 : Int) => St.mk [(2, .ptr 0 0 0), (5, vt y3)] [some (.row 7 [.agg [vi a0.Kind, vi a0.From, vi a0.To, vt a0.Grand, vt a0.Place, vt v14, vi v15]])]) ?_ ?_
  ·rintro v15 h
   refine sj ?_
   refine rk 1 (.k (.i 107 (vt y3) .n)) ?_
   refine bK h fun y16 hy16 h => ?_
   refine jc 108 [107] (diary_ParseItem_ok n y3 y16 hy16) ?_
   refine jko 6 (.d (.k (.i 10 (.ptr 1 0 0) (.i 11 (vi y16.2.2.2.2.2.2.2) .n)))) [some (.row 7 [.agg [vi a0.Kind, vi a0.From, vi a0.To, vt a0.Grand, vt a0.Place, vt v14, vi v15]]), some (.row 7 [.agg [vi y16.1, vi y16.2.1, vi y16.2.2.1, vt y16.2.2.2.1, vt y16.2.2.2.2.1, vt y16.2.2.2.2.2.1, vi y16.2.2.2.2.2.2.1]])] ?_
   refine sj ?_
   refine rk 3 (.k2 (.i 113 (vb (y16.2.2.2.2.2.2.2 == (0 : Int))) .n)) ?_
   refine gj (.agg [vi y16.1, vi y16.2.1, vi y16.2.2.1, vt y16.2.2.2.1, vt y16.2.2.2.2.1, vt y16.2.2.2.2.2.1, vi y16.2.2.2.2.2.2.1]) 114 (.load true 7 10) 113 true rfl ?_
   refine gj (.agg [vi a0.Kind, vi a0.From, vi a0.To, vt a0.Grand, vt a0.Place, vt v14, vi v15]) 115 (.load true 7 2) 113 true rfl ?_
   refine RegJ.op (Op1.aggeqg (g := (y16.2.2.2.2.2.2.2 == (0 : Int))) (cs := [vi y16.1, vi y16.2.1, vi y16.2.2.1, vt y16.2.2.2.1, vt y16.2.2.2.2.1, vt y16.2.2.2.2.2.1, vi y16.2.2.2.2.2.2.1]) (ds := [vi a0.Kind, vi a0.From, vi a0.To, vt a0.Grand, vt a0.Place, vt v14, vi v15]) (b := (y16.1 == a0.Kind) && ((y16.2.1 == a0.From) && ((y16.2.2.1 == a0.To) && ((y16.2.2.2.1 == a0.Grand) && ((y16.2.2.2.2.1 == a0.Place) && ((y16.2.2.2.2.2.1 == v14) && ((y16.2.2.2.2.2.2.1 == v15) && true))))))) false (cy (IG 116 (.bin .eql false 114 115) 113 true)) rfl rfl rfl (by kernel_rfl) (fun hg => (.cons hg (.cons hg .nil)))) ?_
   refine pa 117 113 116 rfl rfl ?_
   refine jq 1 [(4, vb ((y16.2.2.2.2.2.2.2 == (0 : Int)) && ((y16.1 == a0.Kind) && ((y16.2.1 == a0.From) && ((y16.2.2.1 == a0.To) && ((y16.2.2.2.1 == a0.Grand) && ((y16.2.2.2.2.1 == a0.Place) && ((y16.2.2.2.2.2.1 == v14) && ((y16.2.2.2.2.2.2.1 == v15) && true)))))))))] [some (.row 7 [.agg [vi a0.Kind, vi a0.From, vi a0.To, vt a0.Grand, vt a0.Place, vt v14, vi v15]]), some (.row 7 [.agg [vi y16.1, vi y16.2.1, vi y16.2.2.1, vt y16.2.2.2.1, vt y16.2.2.2.2.1, vt y16.2.2.2.2.2.1, vi y16.2.2.2.2.2.2.1]])] ?_
   refine q3 ?_
   have h := si h
   subst h
   exact DoneS.ret (S' := ⟨[(4, vb ((y16.2.2.2.2.2.2.2 == (0 : Int)) && ((y16.1 == a0.Kind) && ((y16.2.1 == a0.From) && ((y16.2.2.1 == a0.To) && ((y16.2.2.2.1 == a0.Grand) && ((y16.2.2.2.2.1 == a0.Place) && ((y16.2.2.2.2.2.1 == v14) && ((y16.2.2.2.2.2.2.1 == v15) && true)))))))))], []⟩) (sc [] (by decide) (by kernel_rfl) ObRen.nil rfl rfl) rfl rfl
  intro k2 h
  refine sk (.k2 (.i 104 (vb (a0.Kind != (3 : Int))) .n)) ?_
  refine tc h (fun c6 h => ?_) (fun c6 h => ?_)
  ·refine tko (.k2 .n) [some (.row 7 [.agg [vi a0.Kind, vi a0.From, vi a0.To, vt a0.Grand, vt a0.Place, vt v14, vi 0]])] ?_
   exact Vs.intro Sees.refl ⟨0, rfl, h⟩
  refine q2 ?_
  exact Vs.intro sy ⟨a0.Deposit, rfl, h⟩
 intro k1 h
 refine sj ?_
 refine rk 4 (.k2 (.i 96 (vb (a0.Kind == (1 : Int))) .n)) ?_
 refine gj (.ptr 0 0 0) 97 (.faddr 0 2) 96 false rfl ?_
 refine gk (vi a0.Kind) 98 (.load false 1 97) 96 false rfl (fun hg => (.cons hg .nil)) ?_
 refine gk (vb (a0.Kind == (2 : Int))) 99 (.bin .eql false 98 (ki 2)) 96 false rfl (fun hg => (.cons hg (.cons rfl .nil))) ?_
 refine po 100 96 99 rfl rfl ?_
 refine jf (.d4 (.k2 (.i 100 (vb ((a0.Kind == (1 : Int)) || (a0.Kind == (2 : Int)))) .n))) ?_
 refine tc h (fun c5 h => ?_) (fun c5 h => ?_)
 ·refine tko (.k2 .n) [some (.row 7 [.agg [vi a0.Kind, vi a0.From, vi a0.To, vt a0.Grand, vt a0.Place, vt ([] : Str), vi a0.Deposit]]), some (.row 7 [.agg [vi y4.1, vi y4.2.1, vi y4.2.2.1, vt y4.2.2.2.1, vt y4.2.2.2.2.1, vt y4.2.2.2.2.2.1, vi y4.2.2.2.2.2.2.1]]), some (.row 7 [.agg [vi y5.1, vi y5.2.1, vi y5.2.2.1, vt y5.2.2.2.1, vt y5.2.2.2.2.1, vt y5.2.2.2.2.2.1, vi y5.2.2.2.2.2.2.1]])] ?_
  exact Vs.intro (sc [0] (by decide) (by kernel_rfl) (.cons rfl .nil) rfl rfl) ⟨([] : Str), rfl, h⟩
 refine q2 ?_
 exact Vs.intro (sc [0] (by decide) (by kernel_rfl) (.cons rfl .nil) rfl rfl) ⟨a0.Who, rfl, h⟩
section
open Go Go.ChangeShapes Go.WideShapes Go.ChangeAt Go.RowKit
theorem var_heap {P : Program} {W : World} {n : String} {g : Nat} {cs : Array Value} (hg : P.globalNamed n = some g) (h : W.var? P n = some cs) : ∃ T z, W.heap[g]? = some (.cells cs T z) := by
  unfold World.var? at h
  rw [hg, Option.bind_some] at h
  split at h
  · rename_i cs' T z e
    cases h
    exact ⟨T, z, e⟩
  · cases h
theorem cell_heap {W : World} {g : Nat} {v : Value} (h : W.cell? ⟨g, 0, none⟩ = some v) : ∃ cs T z, W.heap[g]? = some (.cells cs T z) ∧ cs[0]? = some v := by
  unfold World.cell? at h
  split at h
  · rename_i cs T z e
    simp only at h
    exact ⟨cs, T, z, e, by simpa using h⟩
  · cases h
theorem heap_lt {W : World} {g : Nat} {o : Obj} (h : W.heap[g]? = some o) : g < W.heap.size := by
  rcases Nat.lt_or_ge g W.heap.size with h' | h'
  · exact h'
  · rw [Array.getElem?_eq_none h'] at h; cases h
section
variable {H : Type} {enc : TypeId × Value → H} {P : Program} {w : World} {base : Nat} {spare : Nat → Bool} {held : Bool} {fuel : Nat} {t : TypeId} {cs : List Value} {x : DataW H × List MemPlace}
theorem iface_of_trod {ms : Array (String × TypeId)} (ht : P.underlying t = some (.interface ms)) (h : DataW.trod enc P w base spare held fuel t cs = some x) :
    ∃ ev, cs = [ev] ∧ (ev = .nilIface ∨ ∃ te pe, ev = .iface te pe) := by
  cases fuel with
  | zero => simp [DataW.trod] at h
  | succ m =>
    unfold DataW.trod at h
    rw [ht] at h
    split at h <;> simp_all
theorem strs_of_arr {n : Nat} {e : TypeId} {zs : List Str} {p : List MemPlace} (ht : P.underlying t = some (.array n e)) (he : P.underlying e = some .string) (hce : P.cellsOf e = 1) (hct : P.cellsOf t = n)
    (h : DataW.trod enc P w base spare held fuel t cs = some (.agg (zs.map fun z => .lit (.string z)), p)) : cs = zs.map fun z => Value.string ⟨⟨z⟩⟩ := by
  obtain ⟨xs, m, rfl, hx, hl, hxl, hf⟩ := DataW.trod_array ht h
  have hxs : xs.map (·.1) = zs.map fun z => (DataW.lit (.string z) : DataW H) := by
    have := congrArg Prod.fst hx
    simpa using this.symm
  have hzl : zs.length = n := by
    have := congrArg List.length hxs
    simp only [List.length_map] at this
    omega
  apply List.ext_getElem?
  intro i
  by_cases hi : i < n
  · have hq := hf i hi
    have hxi : i < xs.length := by omega
    rw [List.getElem?_eq_getElem hxi] at hq
    obtain ⟨s, hc, hy, _⟩ := DataW.trod_string he hq
    rw [hce] at hc
    have h1 : cs[i]? = some (.string s) := by
      have := congrArg (·[0]?) hc
      simpa [List.getElem?_take, List.getElem?_drop] using this
    have h2 : (xs.map (·.1))[i]? = some (DataW.lit (.string s.data.toList) : DataW H) := by
      rw [List.getElem?_map, List.getElem?_eq_getElem hxi, hy]; rfl
    rw [hxs, List.getElem?_map] at h2
    obtain ⟨z, hz, e⟩ := Option.map_eq_some_iff.1 h2
    have e : z = s.data.toList := by simpa using e
    rw [h1, List.getElem?_map, hz, e]
    rfl
  · rw [List.getElem?_eq_none (by omega), List.getElem?_eq_none (by simp; omega)]
end
theorem frep_table {W : World} {F : Nat → Prop} {g n : Nat} {cs : Array Value} {T : TypeId} {z : Nat × Nat} {zs : List Str} (hF : F g) (hz : zs ≠ []) (h : W.heap[g]? = some (.cells cs T z)) (hc : cs.toList = zs.map fun z => Value.string ⟨⟨z⟩⟩) (hn : zs.length = n) :
    FRep W F (.pointer (some ⟨g, 0, none⟩)) (.fptr n [.agg (zs.map vt)] 0 0) := by
  have hlen : zs.length = n := hn
  have hpos : 0 < n := by cases zs with | nil => exact absurd rfl hz | cons _ _ => simp at hn; omega
  have := FRep.fptr (w := W) (F := F) (b := g) (off := 0) (k := n) (i := 0) (o := 0) (es := [.agg (zs.map vt)]) (fun _ j => .string ⟨⟨zs.getD j []⟩⟩) (by simp) hpos hF
    (fun i hi => by
      have : i = 0 := by simp at hi; exact hi
      subst this
      show okE n (.agg (zs.map vt))
      simp [okE, V.flat, one, hn, vt])
    (fun i j hi hj => by
      have : i = 0 := by simp at hi; exact hi
      subst this
      have : (cs.toList)[j]? = some (Value.string ⟨⟨zs.getD j []⟩⟩) := by
        rw [hc, List.getElem?_map, List.getElem?_eq_getElem (by omega)]
        simp [List.getD, List.getElem?_eq_getElem (show j < zs.length by omega)]
      have h2 : cs[j]? = some (Value.string ⟨⟨zs.getD j []⟩⟩) := by simpa using this
      rw [show 0 + 0 * n + j = j by omega]
      simp [World.cell?, h, h2])
    (fun i j hi hj => by
      have : i = 0 := by simp at hi; exact hi
      subst this
      have : nth ((nth [V.agg (zs.map vt)] 0).flat) j = vt (zs.getD j []) := by
        show nth (zs.map vt) j = _
        simp [nth, List.getD, List.getElem?_map, List.getElem?_eq_getElem (show j < zs.length by omega)]
      rw [this]
      exact .p rfl)
  rw [show 0 + 0 * n + 0 = 0 by omega] at this
  exact this
theorem returns_laid {H : Type} {enc : TypeId × Value → H} {a : Assume} {C : Checked} {os : Os} {f : FuncId} {fn : Func} {s : ChangeSpec} {conds : List PathCond} {apart fresh handsOn again : Bool} {X : World → Array Value → Prop}
    (hX : ∀ (w w' : World) (args : Array Value), w.heap = w'.heap → X w args → X w' args)
    (own : ownKnob C.prog.godebug = none) (started : os.Started) (noInit : C.prog.inits.idxOf? f = none) (hfn : C.prog.funcs[f]? = some fn)
    (witness : ∃ (w : World) (tape : Tape) (i : Input), w.os = os ∧ (w.forCall tape i).Shaped C.prog ∧ i.vars = [] ∧ Input.okWide C.prog (w.forCall tape i) .any w.heap.size f i ∧
      ((s.pre enc C.prog fn conds apart (w.forCall tape i).memory i.args ∧ X (w.forCall tape i).memory i.args) ∧ sizedMet enc C.prog fn (OpenSpec.ofChange s) apart (w.forCall tape i).memory i.args) ∧ a.holds C.prog (lone (Frame.enter C.prog f i.args .normal) [] (w.forCall tape i)))
    (contract : ∀ (W : World) (base : Nat) (args : Array Value) (ds gs : List (DataW H)) (before : List MemPlace),
      (∀ (j : Nat) t v, fn.params[j]? = some t → args[j]? = some v → Value.okWide C.prog W .any base t v) →
      DataW.Whole enc C.prog fn.params.toList s.vars apart W args.toList ds gs before → W.ShapedOpen C.prog → X W args →
      Calls C.prog f args W fun e W' => ∃ v, e = .returned v ∧ s.post enc C.prog fn apart fresh handsOn again W args v W') :
    ReturnsInHanded a C os f .any (fun w args => (s.pre enc C.prog fn conds apart w args ∧ X w args) ∧ sizedMet enc C.prog fn (OpenSpec.ofChange s) apart w args) (s.post enc C.prog fn apart fresh handsOn again) := by
  refine returnsInHanded_of_calls own started noInit witness fun w tape i _ hs _ hok hpre hholds => ?_
  obtain ⟨_, _, _, fn2, hf2, _, _, _, _, hval⟩ := hok
  obtain rfl : fn2 = fn := Option.some.inj (hf2.symm.trans hfn)
  obtain ⟨⟨⟨ds, gs, before, hw, _⟩, hx⟩, _⟩ := hpre
  refine (contract (w.forCall tape i) w.heap.size i.args ds gs before hval (DataW.Whole.of_heap (w' := w.forCall tape i) (by rfl) hw) hs (hX _ _ _ (by rfl) hx)).mono ?_
  rintro e W2 ⟨v, rfl, hp⟩
  exact ChangeSpec.post_blind hp
end
end Go.Proofs.YtchkkpbkgghcoaaGreatDoor.As
