/- The code computes what the plain functions say, part 2: no condition. -/
import Derived.Test.YtifabpmjiphhdaaGreatWalk1
namespace Go.Proofs.YtifabpmjiphhdaaGreat.As
open Go Go.Proofs
set_option maxRecDepth 4000
set_option maxHeartbeats 1000000 in
theorem restore_Match_ok (n : Nat) (a0 : List WantedPart) (a1 : List OfferedPart) (r : Int ⊕ (Nat × (List Int) × (List Int) × (List Int))) (h : restore_Match n a0 a1 = some r) : FnL Tryz.prog 62 [eS 2 eWantedPart a0, eS 2 eOfferedPart a1] [] (match r with | .inl r => .tup [.emp, .agg [.emp, .emp], vi r] | .inr r => .tup [.own 0 0 r.1, .agg [eS 1 vi r.2.1, eS 1 vi r.2.2.1], vi 0]) (match r with | .inl r => [] | .inr r => [some (.row 1 (List.map vi r.2.2.2))]) := by
 dsimp only [restore_Match] at h
 refine FnL.ofC [.tmp 4, .cell 5 85, .tmp 6] Tryz.call62 Tryz.func62 rfl .nil ?_ (hl := (by rcases r with r | r <;> exact rfl))
 refine sko (.k2 (.i 5 (.ptr 0 0 0) .n)) [some (.row 2 [.agg [.emp, .emp]])] ?_
 refine q1 ?_
 refine sj ?_
 refine rk 2 (.k3 (.i 25 (eS 2 eWantedPart a0) (.i 26 (eS 2 eOfferedPart a1) .n))) ?_
 obtain ⟨y1, hy1, h⟩ := bs h
 refine jc 27 [25, 26] (restore_checkBoth_ok n a0 a1 y1 hy1) ?_
 refine jk 1 (.d (.k3 (.i 7 (vi y1) .n))) ?_
 refine sk (.k4 (.i 29 (vb (y1 != (0 : Int))) .n)) ?_
 refine tc h (fun c1 h => ?_) (fun c1 h => ?_)
 ·refine sk (.d2 (.k (.i 4 .emp (.i 6 (vi y1) .n)))) ?_
  refine q3 ?_
  have h := si h
  subst h
  exact DoneC.ret (S' := ⟨[(4, .emp), (5, .agg [.emp, .emp]), (6, vi y1)], []⟩) [.emp, .agg [.emp, .emp], vi y1] (sc [] (by decide) (by kernel_rfl) ObRen.nil rfl rfl) rfl rfl
 refine q2 ?_
 refine sj ?_
 refine rko 2 (.k3 (.i 32 (.own 1 0 1) (.i 33 (eS 2 eWantedPart a0) .n))) [some (.row 2 [.agg [.emp, .emp]]), some (.row 1 [vi (-1)])] ?_
 refine jo 34 (.len 0 33) (ok_len_m rfl) ?_
 obtain ⟨y2, hy2, h⟩ := bs h
 refine jco (.own 2 0 ((List.replicate ((IntKind.u64.wrap ((IntKind.u64.wrap ((([(-1)] : List Int).length : Nat) : Int)) * (IntKind.u64.wrap (a0.length : Int)))).toNat) (0 : Int)).length)) 35 [32, 34] (slices_Repeat_int_ok n ([(-1)] : List Int) (a0.length : Int) y2 hy2) [1] rfl (.same (row_ren vi_frz _ _ _) .nil) (.same (row_ren vi_frz _ _ _) (.same (row_ren vi_frz _ _ _) .nil)) rfl ?_
 refine rko 2 (.d2 (.k3 (.i 35 (.own 2 0 ((List.replicate ((IntKind.u64.wrap ((IntKind.u64.wrap ((([(-1)] : List Int).length : Nat) : Int)) * (IntKind.u64.wrap (a0.length : Int)))).toNat) (0 : Int)).length)) (.i 36 (.own 3 0 1) (.i 37 (eS 2 eOfferedPart a1) .n))))) [some (.row 2 [.agg [.emp, .emp]]), some (.row 1 (List.map vi ([(-1)] : List Int))), some (.row 1 (List.map vi y2)), some (.row 1 [vi (-1)])] ?_
 refine jo 38 (.len 0 37) (ok_len_m rfl) ?_
 obtain ⟨y3, hy3, h⟩ := bs h
 refine jco (.own 4 0 ((List.replicate ((IntKind.u64.wrap ((IntKind.u64.wrap ((([(-1)] : List Int).length : Nat) : Int)) * (IntKind.u64.wrap (a1.length : Int)))).toNat) (0 : Int)).length)) 39 [36, 38] (slices_Repeat_int_ok n ([(-1)] : List Int) (a1.length : Int) y3 hy3) [3] rfl (.same (row_ren vi_frz _ _ _) .nil) (.same (row_ren vi_frz _ _ _) (.same (row_ren vi_frz _ _ _) .nil)) rfl ?_
 refine jko 4 (.d2 (.k3 (.i 8 (.ptr 6 0 0) .n))) [some (.row 2 [.agg [.emp, .emp]]), some (.row 1 (List.map vi ([(-1)] : List Int))), some (.row 1 (List.map vi y2)), some (.row 1 (List.map vi ([(-1)] : List Int))), some (.row 1 (List.map vi y3)), some (.row 3 [.agg [.emp, .own 2 0 ((List.replicate ((IntKind.u64.wrap ((IntKind.u64.wrap ((([(-1)] : List Int).length : Nat) : Int)) * (IntKind.u64.wrap (a0.length : Int)))).toNat) (0 : Int)).length), .own 4 0 ((List.replicate ((IntKind.u64.wrap ((IntKind.u64.wrap ((([(-1)] : List Int).length : Nat) : Int)) * (IntKind.u64.wrap (a1.length : Int)))).toNat) (0 : Int)).length)]]), some (.row 1 [.ptr 5 0 0])] ?_
 refine TriE.seqK h (fun (v16 : (List (List Bool))) => St.mk [(0, eS 2 eWantedPart a0), (1, eS 2 eOfferedPart a1), (5, .ptr 0 0 0), (8, .ptr 4 0 0)] [some (.row 2 [.agg [.emp, .emp]]), some (.row 1 (List.map vi y2)), some (.row 1 (List.map vi y3)), some (.row 3 [.agg [.own 5 0 v16.length, .own 1 0 ((List.replicate ((IntKind.u64.wrap ((IntKind.u64.wrap ((([(-1)] : List Int).length : Nat) : Int)) * (IntKind.u64.wrap (a0.length : Int)))).toNat) (0 : Int)).length), .own 2 0 ((List.replicate ((IntKind.u64.wrap ((IntKind.u64.wrap ((([(-1)] : List Int).length : Nat) : Int)) * (IntKind.u64.wrap (a1.length : Int)))).toNat) (0 : Int)).length)]]), some (.row 1 [.ptr 3 0 0]), some (.row 1 (List.map (eS 1 vb) v16))]) ?_ ?_
 ·rintro v16 h
  refine TriE.seqK h (fun (t : Nat × Nat × (List Int) × (List Int)) => match t with | (v24, v25, v26, v27) => St.mk [(0, eS 2 eWantedPart a0), (1, eS 2 eOfferedPart a1), (5, .ptr 0 0 0), (8, .ptr 4 0 0)] [some (.row 2 [.agg [.emp, .emp]]), some (.row 1 (List.map vi v27)), some (.row 1 (List.map vi v26)), some (.row 3 [.agg [.own 5 0 v16.length, .own 1 0 v24, .own 2 0 v25]]), some (.row 1 [.ptr 3 0 0]), some (.row 1 (List.map (eS 1 vb) v16))]) ?_ ?_
  ·rintro ⟨v24, v25, v26, v27⟩ h
   refine q1 ?_
   refine ts .a ?_
   refine TriE.draw (by kernel_rfl) ?_
   refine dk 1 (.i 88 (eS 2 eWantedPart a0) .a) ?_
   refine dp 89 (.len 0 88) (ok_len_m rfl) ?_
   obtain ⟨c12, h⟩ := ck h
   refine dx 90 (.mkslice 1 1 (.p (.bool false)) 89 89) _ (ok_mkslice_n (e := vb) (v0 := false) (j := a0.length) rfl rfl rfl rfl rfl rfl c12) rfl rfl ?_
   refine dk 1 (.i 91 (eS 2 eOfferedPart a1) .a) ?_
   refine dp 92 (.len 0 91) (ok_len_m rfl) ?_
   obtain ⟨c13, h⟩ := ck h
   refine dx 93 (.mkslice 1 1 (.p (.bool false)) 92 92) _ (ok_mkslice_n (e := vb) (v0 := false) (j := a1.length) rfl rfl rfl rfl rfl rfl c13) rfl rfl ?_
   refine dko 4 (.i 16 (.ptr 13 0 0) (.i 15 (.ptr 12 0 0) .a)) [some (.row 2 [.agg [.emp, .emp]]), some (.row 1 (List.map vi v27)), some (.row 1 (List.map vi v26)), some (.row 3 [.agg [.own 5 0 v16.length, .own 1 0 v24, .own 2 0 v25]]), some (.row 1 [.ptr 3 0 0]), some (.row 1 (List.map (eS 1 vb) v16)), none, none, some (.row 1 (List.map vb (List.replicate a0.length false))), none, none, some (.row 1 (List.map vb (List.replicate a1.length false))), some (.row 1 [.own 8 0 ((List.replicate a0.length false).length)]), some (.row 1 [.own 11 0 ((List.replicate a1.length false).length)]), none, none] ?_
   refine dfi (ob' := [some (.row 2 [.agg [.emp, .emp]]), some (.row 1 (List.map vi v27)), some (.row 1 (List.map vi v26)), some (.row 3 [.agg [.own 5 0 v16.length, .own 1 0 v24, .own 2 0 v25]]), some (.row 1 [.ptr 3 0 0]), some (.row 1 (List.map (eS 1 vb) v16)), some (.row 1 (List.map vb (List.replicate a0.length false))), some (.row 1 (List.map vb (List.replicate a1.length false))), some (.row 1 [.own 6 0 ((List.replicate a0.length false).length)]), some (.row 1 [.own 7 0 ((List.replicate a1.length false).length)])]) (.d4 (.d4 (.d2 (.k2 (.i 15 (.ptr 8 0 0) (.i 16 (.ptr 9 0 0) .n)))))) [0, 1, 2, 3, 4, 5, 8, 11, 12, 13] (.cons rfl (obRen_row vi_frz rfl (obRen_row vi_frz rfl (.cons rfl (.cons rfl (obRen_row (eS_frz 1 vb) rfl (obRen_row vb_frz rfl (obRen_row vb_frz rfl (.cons rfl (.cons rfl .nil)))))))))) ?_
   refine sko (.k4 (.i 17 (.ptr 10 0 0) .n)) [some (.row 2 [.agg [.emp, .emp]]), some (.row 1 (List.map vi v27)), some (.row 1 (List.map vi v26)), some (.row 3 [.agg [.own 5 0 v16.length, .own 1 0 v24, .own 2 0 v25]]), some (.row 1 [.ptr 3 0 0]), some (.row 1 (List.map (eS 1 vb) v16)), some (.row 1 (List.map vb (List.replicate a0.length false))), some (.row 1 (List.map vb (List.replicate a1.length false))), some (.row 1 [.own 6 0 ((List.replicate a0.length false).length)]), some (.row 1 [.own 7 0 ((List.replicate a1.length false).length)]), some (.row 1 [.p .nilFunc])] ?_
   refine sko .a [some (.row 2 [.agg [.emp, .emp]]), some (.row 1 (List.map vi v27)), some (.row 1 (List.map vi v26)), some (.row 3 [.agg [.own 5 0 v16.length, .own 1 0 v24, .own 2 0 v25]]), some (.row 1 [.ptr 3 0 0]), some (.row 1 (List.map (eS 1 vb) v16)), some (.row 1 (List.map vb (List.replicate a0.length false))), some (.row 1 (List.map vb (List.replicate a1.length false))), some (.row 1 [.own 6 0 ((List.replicate a0.length false).length)]), some (.row 1 [.own 7 0 ((List.replicate a1.length false).length)]), some (.row 1 [.fn (.func 133) [] [.ptr 8 0 0, .ptr 4 0 0, .ptr 9 0 0, .ptr 10 0 0]])] ?_
   refine TriE.seqK h (fun (t : Nat × (List Bool) × Nat × (List Bool)) => match t with | (v41, v42, v43, v44) => St.mk [(5, .ptr 0 0 0), (8, .ptr 4 0 0), (15, .ptr 8 0 0), (16, .ptr 9 0 0)] [some (.row 2 [.agg [.emp, .emp]]), some (.row 1 (List.map vi v27)), some (.row 1 (List.map vi v26)), some (.row 3 [.agg [.own 5 0 v16.length, .own 1 0 v24, .own 2 0 v25]]), some (.row 1 [.ptr 3 0 0]), some (.row 1 (List.map (eS 1 vb) v16)), some (.row 1 (List.map vb v44)), some (.row 1 (List.map vb v42)), some (.row 1 [.own 6 0 v43]), some (.row 1 [.own 7 0 v41])]) ?_ ?_
   ·rintro ⟨v41, v42, v43, v44⟩ h
    refine sko (.k4 (.i 20 (.ptr 10 0 0) .n)) [some (.row 2 [.agg [.emp, .emp]]), some (.row 1 (List.map vi v27)), some (.row 1 (List.map vi v26)), some (.row 3 [.agg [.own 5 0 v16.length, .own 1 0 v24, .own 2 0 v25]]), some (.row 1 [.ptr 3 0 0]), some (.row 1 (List.map (eS 1 vb) v16)), some (.row 1 (List.map vb v44)), some (.row 1 (List.map vb v42)), some (.row 1 [.own 6 0 v43]), some (.row 1 [.own 7 0 v41]), some (.row 2 [.agg [.emp, .emp]])] ?_
    refine TriE.seqK h (fun (v49 : (List Int)) => St.mk [(5, .ptr 0 0 0), (8, .ptr 4 0 0), (16, .ptr 7 0 0), (20, .ptr 8 0 0)] [some (.row 2 [.agg [.emp, .emp]]), some (.row 1 (List.map vi v27)), some (.row 1 (List.map vi v26)), some (.row 3 [.agg [.own 5 0 v16.length, .own 1 0 v24, .own 2 0 v25]]), some (.row 1 [.ptr 3 0 0]), some (.row 1 (List.map (eS 1 vb) v16)), some (.row 1 (List.map vb v42)), some (.row 1 [.own 6 0 v41]), some (.row 2 [.agg [.own 9 0 v49.length, .emp]]), some (.row 1 (List.map vi v49))]) ?_ ?_
    ·rintro v49 h
     refine TriE.seqK h (fun (v54 : (List Int)) => St.mk [(5, .ptr 0 0 0), (8, .ptr 4 0 0), (20, .ptr 6 0 0)] [some (.row 2 [.agg [.emp, .emp]]), some (.row 1 (List.map vi v27)), some (.row 1 (List.map vi v26)), some (.row 3 [.agg [.own 5 0 v16.length, .own 1 0 v24, .own 2 0 v25]]), some (.row 1 [.ptr 3 0 0]), some (.row 1 (List.map (eS 1 vb) v16)), some (.row 2 [.agg [.own 7 0 v49.length, .own 8 0 v54.length]]), some (.row 1 (List.map vi v49)), some (.row 1 (List.map vi v54))]) ?_ ?_
     ·rintro v54 h
      refine q1 ?_
      refine ts .a ?_
      refine TriE.draw (by kernel_rfl) ?_
      refine dko 8 (.i 6 (vi 0) (.i 4 (.own 1 0 v24) (.i 146 (.agg [.own 7 0 v49.length, .own 8 0 v54.length]) (.i 145 (.own 1 0 v24) (.i 144 (.ptr 3 0 1) (.i 143 (.ptr 3 0 0) (.i 142 (.ptr 3 0 0) .a))))))) [some (.row 2 [.agg [.own 7 0 v49.length, .own 8 0 v54.length]]), some (.row 1 (List.map vi v27)), some (.row 1 (List.map vi v26)), some (.row 3 [.agg [.own 5 0 v16.length, .own 1 0 v24, .own 2 0 v25]]), some (.row 1 [.ptr 3 0 0]), some (.row 1 (List.map (eS 1 vb) v16)), some (.row 2 [.agg [.own 7 0 v49.length, .own 8 0 v54.length]]), some (.row 1 (List.map vi v49)), some (.row 1 (List.map vi v54)), none, none, none, none, none, none, none, none] ?_
      refine dfi (ob' := [some (.row 2 [.agg [.own 2 0 v49.length, .own 3 0 v54.length]]), some (.row 1 (List.map vi v27)), some (.row 1 (List.map vi v49)), some (.row 1 (List.map vi v54))]) (.d4 (.d3 (.k (.i 4 (.own 1 0 v24) (.i 6 (vi 0) .n))))) [0, 1, 7, 8] (.cons rfl (obRen_row vi_frz rfl (obRen_row vi_frz rfl (obRen_row vi_frz rfl .nil)))) ?_
      refine q3 ?_
      have h := si h
      subst h
      exact DoneC.ret (S' := ⟨[(4, .own 0 0 v24), (5, .agg [eS 1 vi v49, eS 1 vi v54]), (6, vi 0)], [some (.row 1 (List.map vi v27))]⟩) [.own 1 0 v24, .agg [.own 2 0 v49.length, .own 3 0 v54.length], vi 0] (Sees.trans (Sees.freeze 3 (fr' := [(4, .own 1 0 v24), (5, .agg [.own 2 0 v49.length, eS 1 vi v54]), (6, vi 0)]) (ob' := [some (.row 2 [.agg [.own 2 0 v49.length, .own 3 0 v54.length]]), some (.row 1 (List.map vi v27)), some (.row 1 (List.map vi v49)), none]) rfl (frz_row vi_frzE _) (.cons (.refl _) (.cons (frz_agg (.cons (.refl _) (.cons (frz_full rfl) .nil))) (.cons (.refl _) .nil))) rfl) (Sees.trans (Sees.freeze 2 (fr' := [(4, .own 1 0 v24), (5, .agg [eS 1 vi v49, eS 1 vi v54]), (6, vi 0)]) (ob' := [some (.row 2 [.agg [.own 2 0 v49.length, .own 3 0 v54.length]]), some (.row 1 (List.map vi v27)), none, none]) rfl (frz_row vi_frzE _) (.cons (.refl _) (.cons (frz_agg (.cons (frz_full rfl) (.cons (.refl _) .nil))) (.cons (.refl _) .nil))) rfl) (sc [1] (by decide) (by kernel_rfl) (obRen_row vi_frz rfl .nil) rfl rfl))) rfl rfl
     intro k9 h
     refine sk (.k2 (.d (.k (.i 127 (.own 6 0 v41) (.i 128 (vi v41) (.i 129 (vi 0) .n)))))) ?_
     refine q4 ?_
     refine TriE.sees (S' := ⟨[(5, .ptr 0 0 0), (8, .ptr 4 0 0), (20, .ptr 7 0 0), (127, .own 6 0 v41), (128, vi v41), (129, vi 0)], [some (.row 2 [.agg [.emp, .emp]]), some (.row 1 (List.map vi v27)), some (.row 1 (List.map vi v26)), some (.row 3 [.agg [.own 5 0 v16.length, .own 1 0 v24, .own 2 0 v25]]), some (.row 1 [.ptr 3 0 0]), some (.row 1 (List.map (eS 1 vb) v16)), some (.row 1 (List.map vb v42)), some (.row 2 [.agg [.own 8 0 v49.length, .own 9 0 ([] : List Int).length]]), some (.row 1 (List.map vi v49)), some (.row 1 (List.map vi ([] : List Int)))]⟩) (Sees.trans (Sees.co (fr' := [(5, .ptr 0 0 0), (8, .ptr 4 0 0), (20, .ptr 8 0 0), (127, .own 6 0 v41), (128, vi v41), (129, vi 0)]) (ob' := [some (.row 2 [.agg [.emp, .emp]]), some (.row 1 (List.map vi v27)), some (.row 1 (List.map vi v26)), some (.row 3 [.agg [.own 5 0 v16.length, .own 1 0 v24, .own 2 0 v25]]), some (.row 1 [.ptr 3 0 0]), some (.row 1 (List.map (eS 1 vb) v16)), some (.row 1 (List.map vb v42)), some (.row 1 [.own 6 0 v41]), some (.row 2 [.agg [.own 9 0 v49.length, .own 10 0 0]]), some (.row 1 (List.map vi v49))]) (.cons .same (.cons .same (.cons .same (.cons .same (.cons .same (.cons .same .nil)))))) (.same (.same (.same (.same (.same (.same (.same (.same (.cell (.cons .same (.cons .own .nil)) rfl (.same .nil)))))))))) 1) (sc [0, 1, 2, 3, 4, 5, 6, 8, 9, 10] (by decide) (by kernel_rfl) (.cons rfl (obRen_row vi_frz rfl (obRen_row vi_frz rfl (.cons rfl (.cons rfl (obRen_row (eS_frz 1 vb) rfl (obRen_row vb_frz rfl (.cons rfl (obRen_row vi_frz rfl (obRen_row vi_frz rfl .nil)))))))))) rfl rfl)) ?_
     refine TriE.loopN h (fun (t : Nat × (List Int)) => match t with | (v51, v52) => St.mk [(5, .ptr 0 0 0), (8, .ptr 4 0 0), (20, .ptr 7 0 0), (127, .own 6 0 v41), (128, vi v41), (129, vi v51)] [some (.row 2 [.agg [.emp, .emp]]), some (.row 1 (List.map vi v27)), some (.row 1 (List.map vi v26)), some (.row 3 [.agg [.own 5 0 v16.length, .own 1 0 v24, .own 2 0 v25]]), some (.row 1 [.ptr 3 0 0]), some (.row 1 (List.map (eS 1 vb) v16)), some (.row 1 (List.map vb v42)), some (.row 2 [.agg [.own 8 0 v49.length, .own 9 0 v52.length]]), some (.row 1 (List.map vi v49)), some (.row 1 (List.map vi v52))]) rfl ?_
     clear h
     rintro back ⟨v51, v52⟩ h
     dsimp only [restore_Match_L6] at h
     refine sj ?_
     refine jo 130 (.bin .lss false 129 128) (n_lss (i := v51) (j := v41) rfl rfl) ?_
     refine jf (.d (.k4 (.k2 (.i 130 (vb (decide (v51 < v41))) .n)))) ?_
     refine q1 ?_
     refine tc h (fun c23 h => ?_) (fun c23 h => ?_)
     ·refine q2 ?_
      refine TriE.seqK h (fun (v53 : (List Int)) => St.mk [(5, .ptr 0 0 0), (8, .ptr 4 0 0), (20, .ptr 7 0 0), (127, .own 6 0 v41), (128, vi v41), (129, vi v51)] [some (.row 2 [.agg [.emp, .emp]]), some (.row 1 (List.map vi v27)), some (.row 1 (List.map vi v26)), some (.row 3 [.agg [.own 5 0 v16.length, .own 1 0 v24, .own 2 0 v25]]), some (.row 1 [.ptr 3 0 0]), some (.row 1 (List.map (eS 1 vb) v16)), some (.row 1 (List.map vb v42)), some (.row 2 [.agg [.own 8 0 v49.length, .own 9 0 v53.length]]), some (.row 1 (List.map vi v49)), some (.row 1 (List.map vi v53))]) ?_ ?_
      ·rintro v53 h
       refine q6 ?_
       obtain ⟨c27, h⟩ := ck h
       refine jo 141 (.bin .add false 129 (ki 1)) (r_addn (i := v51) (j := 1) rfl rfl c27) ?_
       refine jk 1 (.d (.k4 (.k (.i 129 (vi ((v51 + 1 : Nat) : Int)) .n)))) ?_
       exact Vs.intro sy ⟨(v51 + 1, v53), rfl, h⟩
      intro k8 h
      refine q4 ?_
      refine sj ?_
      refine rk 1 (.k4 (.k2 (.i 131 (vi v51) .n))) ?_
      refine jo 132 (.iaddr 1 127 129) (ok_iaddr_o0 (j := v51) rfl rfl rfl rfl c23) ?_
      obtain ⟨c24, h⟩ := ck h
      refine jo 133 (.load false 1 132) (ok_load_pm (l := v42) (e := vb) (v := vb (ix v42 v51)) rfl rfl c24 rfl) ?_
      refine jk 2 (.d2 (.k4 (.k2 (.i 23 (vi v51) (.i 24 (vb (ix v42 v51)) .n))))) ?_
      refine sk (.k4 (.k3 (.i 134 (vb (ix v42 v51)) .n))) ?_
      refine tc h (fun c25 h => ?_) (fun c25 h => ?_)
      ·refine q6 ?_
       refine rko 4 (.k4 (.k2 (.i 136 (.own 9 0 v52.length) (.i 138 (.own 10 0 1) .n)))) [some (.row 2 [.agg [.emp, .emp]]), some (.row 1 (List.map vi v27)), some (.row 1 (List.map vi v26)), some (.row 3 [.agg [.own 5 0 v16.length, .own 1 0 v24, .own 2 0 v25]]), some (.row 1 [.ptr 3 0 0]), some (.row 1 (List.map (eS 1 vb) v16)), some (.row 1 (List.map vb v42)), some (.row 2 [.agg [.own 8 0 v49.length, .own 9 0 v52.length]]), some (.row 1 (List.map vi v49)), some (.row 1 (List.map vi v52)), some (.row 1 [vi v51])] ?_
       obtain ⟨c26, h⟩ := ck h
       refine jx 139 (.app 1 8 136 138) _ (ok_app_own (l := v52) (l2 := ([(v51 : Int)] : List Int)) (e := vi) (u := .own 10 0 1) rfl rfl rfl rfl rfl c26) rfl rfl ?_
       refine jko 2 (.d (.k4 (.k2 .n))) [some (.row 2 [.agg [.emp, .emp]]), some (.row 1 (List.map vi v27)), some (.row 1 (List.map vi v26)), some (.row 3 [.agg [.own 5 0 v16.length, .own 1 0 v24, .own 2 0 v25]]), some (.row 1 [.ptr 3 0 0]), some (.row 1 (List.map (eS 1 vb) v16)), some (.row 1 (List.map vb v42)), some (.row 2 [.agg [.own 8 0 v49.length, .own 11 0 ((v52 ++ ([(v51 : Int)] : List Int)).length)]]), some (.row 1 (List.map vi v49)), none, some (.row 1 [vi v51]), some (.row 1 (List.map vi (v52 ++ ([(v51 : Int)] : List Int))))] ?_
       exact Vs.intro (sc [0, 1, 2, 3, 4, 5, 6, 7, 8, 11] (by decide) (by kernel_rfl) (.cons rfl (obRen_row vi_frz rfl (obRen_row vi_frz rfl (.cons rfl (.cons rfl (obRen_row (eS_frz 1 vb) rfl (obRen_row vb_frz rfl (.cons rfl (obRen_row vi_frz rfl (obRen_row vi_frz rfl .nil)))))))))) rfl rfl) ⟨(v52 ++ ([(v51 : Int)] : List Int)), rfl, h⟩
      refine q2 ?_
      exact Vs.intro sy ⟨v52, rfl, h⟩
     refine q5 ?_
     exact Vs.intro (sc [0, 1, 2, 3, 4, 5, 7, 8, 9] (by decide) (by kernel_rfl) (.cons rfl (obRen_row vi_frz rfl (obRen_row vi_frz rfl (.cons rfl (.cons rfl (obRen_row (eS_frz 1 vb) rfl (.cons rfl (obRen_row vi_frz rfl (obRen_row vi_frz rfl .nil))))))))) rfl rfl) ⟨v52, rfl, h⟩
    intro k7 h
    refine sk (.k2 (.d (.k2 (.i 111 (.own 6 0 v43) (.i 112 (vi v43) (.i 113 (vi 0) .n)))))) ?_
    refine q4 ?_
    refine TriE.sees (S' := ⟨[(5, .ptr 0 0 0), (8, .ptr 4 0 0), (16, .ptr 8 0 0), (20, .ptr 9 0 0), (111, .own 6 0 v43), (112, vi v43), (113, vi 0)], [some (.row 2 [.agg [.emp, .emp]]), some (.row 1 (List.map vi v27)), some (.row 1 (List.map vi v26)), some (.row 3 [.agg [.own 5 0 v16.length, .own 1 0 v24, .own 2 0 v25]]), some (.row 1 [.ptr 3 0 0]), some (.row 1 (List.map (eS 1 vb) v16)), some (.row 1 (List.map vb v44)), some (.row 1 (List.map vb v42)), some (.row 1 [.own 7 0 v41]), some (.row 2 [.agg [.own 10 0 ([] : List Int).length, .emp]]), some (.row 1 (List.map vi ([] : List Int)))]⟩) (Sees.trans (Sees.co (fr' := [(5, .ptr 0 0 0), (8, .ptr 4 0 0), (16, .ptr 9 0 0), (20, .ptr 10 0 0), (111, .own 6 0 v43), (112, vi v43), (113, vi 0)]) (ob' := [some (.row 2 [.agg [.emp, .emp]]), some (.row 1 (List.map vi v27)), some (.row 1 (List.map vi v26)), some (.row 3 [.agg [.own 5 0 v16.length, .own 1 0 v24, .own 2 0 v25]]), some (.row 1 [.ptr 3 0 0]), some (.row 1 (List.map (eS 1 vb) v16)), some (.row 1 (List.map vb v44)), some (.row 1 (List.map vb v42)), some (.row 1 [.own 6 0 v43]), some (.row 1 [.own 7 0 v41]), some (.row 2 [.agg [.own 11 0 0, .emp]])]) (.cons .same (.cons .same (.cons .same (.cons .same (.cons .same (.cons .same (.cons .same .nil))))))) (.same (.same (.same (.same (.same (.same (.same (.same (.same (.same (.cell (.cons .own (.cons .same .nil)) rfl .nil))))))))))) 1) (sc [0, 1, 2, 3, 4, 5, 6, 7, 9, 10, 11] (by decide) (by kernel_rfl) (.cons rfl (obRen_row vi_frz rfl (obRen_row vi_frz rfl (.cons rfl (.cons rfl (obRen_row (eS_frz 1 vb) rfl (obRen_row vb_frz rfl (obRen_row vb_frz rfl (.cons rfl (.cons rfl (obRen_row vi_frz rfl .nil))))))))))) rfl rfl)) ?_
    refine TriE.loopN h (fun (t : Nat × (List Int)) => match t with | (v46, v47) => St.mk [(5, .ptr 0 0 0), (8, .ptr 4 0 0), (16, .ptr 8 0 0), (20, .ptr 9 0 0), (111, .own 6 0 v43), (112, vi v43), (113, vi v46)] [some (.row 2 [.agg [.emp, .emp]]), some (.row 1 (List.map vi v27)), some (.row 1 (List.map vi v26)), some (.row 3 [.agg [.own 5 0 v16.length, .own 1 0 v24, .own 2 0 v25]]), some (.row 1 [.ptr 3 0 0]), some (.row 1 (List.map (eS 1 vb) v16)), some (.row 1 (List.map vb v44)), some (.row 1 (List.map vb v42)), some (.row 1 [.own 7 0 v41]), some (.row 2 [.agg [.own 10 0 v47.length, .emp]]), some (.row 1 (List.map vi v47))]) rfl ?_
    clear h
    rintro back ⟨v46, v47⟩ h
    dsimp only [restore_Match_L5] at h
    refine sj ?_
    refine jo 114 (.bin .lss false 113 112) (n_lss (i := v46) (j := v43) rfl rfl) ?_
    refine jf (.d (.k4 (.k3 (.i 114 (vb (decide (v46 < v43))) .n)))) ?_
    refine q1 ?_
    refine tc h (fun c18 h => ?_) (fun c18 h => ?_)
    ·refine q2 ?_
     refine TriE.seqK h (fun (v48 : (List Int)) => St.mk [(5, .ptr 0 0 0), (8, .ptr 4 0 0), (16, .ptr 8 0 0), (20, .ptr 9 0 0), (111, .own 6 0 v43), (112, vi v43), (113, vi v46)] [some (.row 2 [.agg [.emp, .emp]]), some (.row 1 (List.map vi v27)), some (.row 1 (List.map vi v26)), some (.row 3 [.agg [.own 5 0 v16.length, .own 1 0 v24, .own 2 0 v25]]), some (.row 1 [.ptr 3 0 0]), some (.row 1 (List.map (eS 1 vb) v16)), some (.row 1 (List.map vb v44)), some (.row 1 (List.map vb v42)), some (.row 1 [.own 7 0 v41]), some (.row 2 [.agg [.own 10 0 v48.length, .emp]]), some (.row 1 (List.map vi v48))]) ?_ ?_
     ·rintro v48 h
      refine q6 ?_
      obtain ⟨c22, h⟩ := ck h
      refine jo 126 (.bin .add false 113 (ki 1)) (r_addn (i := v46) (j := 1) rfl rfl c22) ?_
      refine jk 1 (.d (.k4 (.k2 (.i 113 (vi ((v46 + 1 : Nat) : Int)) .n)))) ?_
      exact Vs.intro sy ⟨(v46 + 1, v48), rfl, h⟩
     intro k6 h
     refine q4 ?_
     refine sj ?_
     refine rk 1 (.k4 (.k3 (.i 115 (vi v46) .n))) ?_
     refine jo 116 (.iaddr 1 111 113) (ok_iaddr_o0 (j := v46) rfl rfl rfl rfl c18) ?_
     obtain ⟨c19, h⟩ := ck h
     refine jo 117 (.load false 1 116) (ok_load_pm (l := v44) (e := vb) (v := vb (ix v44 v46)) rfl rfl c19 rfl) ?_
     refine jk 2 (.d2 (.k4 (.k3 (.i 21 (vi v46) (.i 22 (vb (ix v44 v46)) .n))))) ?_
     refine sk (.k4 (.k4 (.i 119 (vb (!(ix v44 v46))) .n))) ?_
     refine tc h (fun c20 h => ?_) (fun c20 h => ?_)
     ·refine q6 ?_
      refine rko 4 (.k4 (.k3 (.i 121 (.own 10 0 v47.length) (.i 123 (.own 11 0 1) .n)))) [some (.row 2 [.agg [.emp, .emp]]), some (.row 1 (List.map vi v27)), some (.row 1 (List.map vi v26)), some (.row 3 [.agg [.own 5 0 v16.length, .own 1 0 v24, .own 2 0 v25]]), some (.row 1 [.ptr 3 0 0]), some (.row 1 (List.map (eS 1 vb) v16)), some (.row 1 (List.map vb v44)), some (.row 1 (List.map vb v42)), some (.row 1 [.own 7 0 v41]), some (.row 2 [.agg [.own 10 0 v47.length, .emp]]), some (.row 1 (List.map vi v47)), some (.row 1 [vi v46])] ?_
      obtain ⟨c21, h⟩ := ck h
      refine jx 124 (.app 1 8 121 123) _ (ok_app_own (l := v47) (l2 := ([(v46 : Int)] : List Int)) (e := vi) (u := .own 11 0 1) rfl rfl rfl rfl rfl c21) rfl rfl ?_
      refine jko 2 (.d (.k4 (.k3 .n))) [some (.row 2 [.agg [.emp, .emp]]), some (.row 1 (List.map vi v27)), some (.row 1 (List.map vi v26)), some (.row 3 [.agg [.own 5 0 v16.length, .own 1 0 v24, .own 2 0 v25]]), some (.row 1 [.ptr 3 0 0]), some (.row 1 (List.map (eS 1 vb) v16)), some (.row 1 (List.map vb v44)), some (.row 1 (List.map vb v42)), some (.row 1 [.own 7 0 v41]), some (.row 2 [.agg [.own 12 0 ((v47 ++ ([(v46 : Int)] : List Int)).length), .emp]]), none, some (.row 1 [vi v46]), some (.row 1 (List.map vi (v47 ++ ([(v46 : Int)] : List Int))))] ?_
      exact Vs.intro (sc [0, 1, 2, 3, 4, 5, 6, 7, 8, 9, 12] (by decide) (by kernel_rfl) (.cons rfl (obRen_row vi_frz rfl (obRen_row vi_frz rfl (.cons rfl (.cons rfl (obRen_row (eS_frz 1 vb) rfl (obRen_row vb_frz rfl (obRen_row vb_frz rfl (.cons rfl (.cons rfl (obRen_row vi_frz rfl .nil))))))))))) rfl rfl) ⟨(v47 ++ ([(v46 : Int)] : List Int)), rfl, h⟩
     refine q2 ?_
     exact Vs.intro sy ⟨v47, rfl, h⟩
    refine q5 ?_
    exact Vs.intro (sc [0, 1, 2, 3, 4, 5, 7, 8, 9, 10] (by decide) (by kernel_rfl) (.cons rfl (obRen_row vi_frz rfl (obRen_row vi_frz rfl (.cons rfl (.cons rfl (obRen_row (eS_frz 1 vb) rfl (obRen_row vb_frz rfl (.cons rfl (.cons rfl (obRen_row vi_frz rfl .nil)))))))))) rfl rfl) ⟨v47, rfl, h⟩
   intro k5 h
   refine sk (.k4 (.k (.i 98 (.own 1 0 v24) (.i 99 (vi v24) (.i 100 (vi 0) .n))))) ?_
   refine q4 ?_
   refine ts (.k4 (.k3 (.i 100 (vi 0) .n))) ?_
   refine TriE.loopN h (fun (t : Nat × Nat × (List Bool) × Nat × (List Bool)) => match t with | (v33, v34, v35, v36, v37) => St.mk [(5, .ptr 0 0 0), (8, .ptr 4 0 0), (15, .ptr 8 0 0), (16, .ptr 9 0 0), (17, .ptr 10 0 0), (98, .own 1 0 v24), (99, vi v24), (100, vi v33)] [some (.row 2 [.agg [.emp, .emp]]), some (.row 1 (List.map vi v27)), some (.row 1 (List.map vi v26)), some (.row 3 [.agg [.own 5 0 v16.length, .own 1 0 v24, .own 2 0 v25]]), some (.row 1 [.ptr 3 0 0]), some (.row 1 (List.map (eS 1 vb) v16)), some (.row 1 (List.map vb v37)), some (.row 1 (List.map vb v35)), some (.row 1 [.own 6 0 v36]), some (.row 1 [.own 7 0 v34]), some (.row 1 [.fn (.func 133) [] [.ptr 8 0 0, .ptr 4 0 0, .ptr 9 0 0, .ptr 10 0 0]])]) rfl ?_
   clear h
   rintro back ⟨v33, v34, v35, v36, v37⟩ h
   dsimp only [restore_Match_L4] at h
   refine sj ?_
   refine jo 101 (.bin .lss false 100 99) (n_lss (i := v33) (j := v24) rfl rfl) ?_
   refine jf (.d (.k4 (.k4 (.i 101 (vb (decide (v33 < v24))) .n)))) ?_
   refine q1 ?_
   refine tc h (fun c14 h => ?_) (fun c14 h => ?_)
   ·refine q2 ?_
    refine TriE.seqK h (fun (t : (List Bool) × (List Bool)) => match t with | (v39, v40) => St.mk [(5, .ptr 0 0 0), (8, .ptr 4 0 0), (15, .ptr 8 0 0), (16, .ptr 9 0 0), (17, .ptr 10 0 0), (98, .own 1 0 v24), (99, vi v24), (100, vi v33)] [some (.row 2 [.agg [.emp, .emp]]), some (.row 1 (List.map vi v27)), some (.row 1 (List.map vi v26)), some (.row 3 [.agg [.own 5 0 v16.length, .own 1 0 v24, .own 2 0 v25]]), some (.row 1 [.ptr 3 0 0]), some (.row 1 (List.map (eS 1 vb) v16)), some (.row 1 (List.map vb v40)), some (.row 1 (List.map vb v39)), some (.row 1 [.own 6 0 v36]), some (.row 1 [.own 7 0 v34]), some (.row 1 [.fn (.func 133) [] [.ptr 8 0 0, .ptr 4 0 0, .ptr 9 0 0, .ptr 10 0 0]])]) ?_ ?_
    ·rintro ⟨v39, v40⟩ h
     refine q6 ?_
     obtain ⟨c17, h⟩ := ck h
     refine jo 110 (.bin .add false 100 (ki 1)) (r_addn (i := v33) (j := 1) rfl rfl c17) ?_
     refine jk 1 (.d (.k4 (.k3 (.i 100 (vi ((v33 + 1 : Nat) : Int)) .n)))) ?_
     exact Vs.intro sy ⟨(v33 + 1, v34, v39, v36, v40), rfl, h⟩
    intro k4 h
    refine q4 ?_
    refine sj ?_
    refine rk 1 (.k4 (.k4 (.i 102 (vi v33) .n))) ?_
    refine jo 103 (.iaddr 1 98 100) (ok_iaddr_o0 (j := v33) rfl rfl rfl rfl c14) ?_
    obtain ⟨c15, h⟩ := ck h
    refine jo 104 (.load false 1 103) (ok_load_pm (l := v27) (e := vi) (v := vi (ix v27 v33)) rfl rfl c15 rfl) ?_
    refine jk 2 (.d2 (.k4 (.k4 (.i 18 (vi v33) (.i 19 (vi (ix v27 v33)) .n))))) ?_
    refine sk (.k4 (.k4 (.k (.i 106 (vb (decide ((ix v27 v33) < (0 : Int)))) .n)))) ?_
    refine tc h (fun c16 h => ?_) (fun c16 h => ?_)
    ·refine q6 ?_
     refine rk 2 (.k4 (.k4 (.i 107 (.fn (.func 133) [] [.ptr 8 0 0, .ptr 4 0 0, .ptr 9 0 0, .ptr 10 0 0]) (.i 108 (vi v33) .n)))) ?_
     obtain ⟨y38, hy38, h⟩ := bs h
     refine jy (.tup []) 109 107 [108] rfl (restore_Match_f1_2_ok n (v33 : Int) v37 0 v36 v16 v27 0 v24 v26 0 v25 v35 0 v34 y38 hy38) [8, 6, 4, 3, 5, 1, 2, 9, 7, 10] rfl (.cons rfl (.same (row_ren vb_frz _ _ _) (.cons rfl (.cons rfl (.same (row_ren (eS_frz 1 vb) _ _ _) (.same (row_ren vi_frz _ _ _) (.same (row_ren vi_frz _ _ _) (.cons rfl (.same (row_ren vb_frz _ _ _) (.cons rfl .nil)))))))))) (.cons rfl (.same (row_ren vb_frz _ _ _) (.cons rfl (.cons rfl (.same (row_ren (eS_frz 1 vb) _ _ _) (.same (row_ren vi_frz _ _ _) (.same (row_ren vi_frz _ _ _) (.cons rfl (.same (row_ren vb_frz _ _ _) (.cons rfl .nil)))))))))) rfl ?_
     refine jf (.d (.k4 (.k4 .n))) ?_
     exact Vs.intro Sees.refl ⟨(y38.1, y38.2), rfl, h⟩
    refine q2 ?_
    exact Vs.intro sy ⟨(v35, v37), rfl, h⟩
   refine q5 ?_
   exact Vs.intro (sc [0, 1, 2, 3, 4, 5, 6, 7, 8, 9] (by decide) (by kernel_rfl) (.cons rfl (obRen_row vi_frz rfl (obRen_row vi_frz rfl (.cons rfl (.cons rfl (obRen_row (eS_frz 1 vb) rfl (obRen_row vb_frz rfl (obRen_row vb_frz rfl (.cons rfl (.cons rfl .nil)))))))))) rfl rfl) ⟨(v34, v35, v36, v37), rfl, h⟩
  intro k3 h
  refine sj ?_
  refine rk 1 (.k4 (.i 76 (eS 2 eWantedPart a0) .n)) ?_
  refine jo 77 (.len 0 76) (ok_len_m rfl) ?_
  refine jk 1 (.d (.k4 (.i 77 (vi (a0.length : Int)) (.i 78 (vi 0) .n)))) ?_
  refine q4 ?_
  refine ts (.k4 (.k (.i 78 (vi 0) .n))) ?_
  refine TriE.loopN h (fun (t : Nat × Nat × Nat × (List Int) × (List Int)) => match t with | (v18, v19, v20, v21, v22) => St.mk [(0, eS 2 eWantedPart a0), (1, eS 2 eOfferedPart a1), (5, .ptr 0 0 0), (8, .ptr 4 0 0), (77, vi (a0.length : Int)), (78, vi v18)] [some (.row 2 [.agg [.emp, .emp]]), some (.row 1 (List.map vi v22)), some (.row 1 (List.map vi v21)), some (.row 3 [.agg [.own 5 0 v16.length, .own 1 0 v19, .own 2 0 v20]]), some (.row 1 [.ptr 3 0 0]), some (.row 1 (List.map (eS 1 vb) v16))]) rfl ?_
  clear h
  rintro back ⟨v18, v19, v20, v21, v22⟩ h
  dsimp only [restore_Match_L3] at h
  refine sj ?_
  refine jo 79 (.bin .lss false 78 77) (n_lss (i := v18) (j := a0.length) rfl rfl) ?_
  refine jf (.d (.k4 (.k2 (.i 79 (vb (decide (v18 < a0.length))) .n)))) ?_
  refine q1 ?_
  refine tc h (fun c9 h => ?_) (fun c9 h => ?_)
  ·refine q2 ?_
   refine q7 ?_
   refine sk (.k4 (.k2 (.i 14 (vi v18) .n))) ?_
   refine ts .a ?_
   refine TriE.draw (by kernel_rfl) ?_
   refine dk 3 (.i 83 (eS 2 eOfferedPart a1) (.i 82 (vi v18) (.i 81 (.ptr 3 0 0) .a))) ?_
   refine dp 84 (.len 0 83) (ok_len_m rfl) ?_
   obtain ⟨c10, h⟩ := ck h
   refine dx 85 (.mkslice 1 1 (.p (.bool false)) 84 84) _ (ok_mkslice_n (e := vb) (v0 := false) (j := a1.length) rfl rfl rfl rfl rfl rfl c10) rfl rfl ?_
   obtain ⟨y23, hy23, h⟩ := bs h
   refine dc (vb y23.2.2.2) 0 86 [81, 82, 85] (restore_matching_grow_ok n v16 v22 0 v19 v21 0 v20 (v18 : Int) (List.replicate a1.length false) y23 hy23) [3, 5, 1, 2, 10] rfl (.cons rfl (.same (row_ren (eS_frz 1 vb) _ _ _) (.same (row_ren vi_frz _ _ _) (.same (row_ren vi_frz _ _ _) (.same (row_ren vb_frz _ _ _) .nil))))) (.cons rfl (.same (row_ren (eS_frz 1 vb) _ _ _) (.same (row_ren vi_frz _ _ _) (.same (row_ren vi_frz _ _ _) (.same (row_ren vb_frz _ _ _) .nil))))) rfl (.inl rfl) ?_
   refine dfi (ob' := [some (.row 2 [.agg [.emp, .emp]]), some (.row 1 (List.map vi y23.2.2.1)), some (.row 1 (List.map vi y23.2.1)), some (.row 3 [.agg [.own 5 0 v16.length, .own 1 0 v19, .own 2 0 v20]]), some (.row 1 [.ptr 3 0 0]), some (.row 1 (List.map (eS 1 vb) v16))]) (.d4 (.d2 (.k4 (.k2 .n)))) [0, 1, 2, 3, 4, 5] (.cons rfl (obRen_row vi_frz rfl (obRen_row vi_frz rfl (.cons rfl (.cons rfl (obRen_row (eS_frz 1 vb) rfl .nil)))))) ?_
   refine q6 ?_
   obtain ⟨c11, h⟩ := ck h
   refine jo 87 (.bin .add false 78 (ki 1)) (r_addn (i := v18) (j := 1) rfl rfl c11) ?_
   refine jk 1 (.d (.k4 (.k (.i 78 (vi ((v18 + 1 : Nat) : Int)) .n)))) ?_
   exact Vs.intro sy ⟨(v18 + 1, v19, v20, y23.2.1, y23.2.2.1), rfl, h⟩
  refine q5 ?_
  exact Vs.intro sy ⟨(v19, v20, v21, v22), rfl, h⟩
 intro k2 h
 refine sj ?_
 refine rk 1 (.k4 (.i 42 (eS 2 eWantedPart a0) .n)) ?_
 refine jo 43 (.len 0 42) (ok_len_m rfl) ?_
 refine jk 1 (.d (.k4 (.k (.i 43 (vi (a0.length : Int)) (.i 44 (vi 0) .n))))) ?_
 refine q4 ?_
 refine TriE.sees (S' := ⟨[(0, eS 2 eWantedPart a0), (1, eS 2 eOfferedPart a1), (5, .ptr 0 0 0), (8, .ptr 4 0 0), (42, eS 2 eWantedPart a0), (43, vi (a0.length : Int)), (44, vi 0)], [some (.row 2 [.agg [.emp, .emp]]), some (.row 1 (List.map vi y2)), some (.row 1 (List.map vi y3)), some (.row 3 [.agg [.own 5 0 ([] : List (List Bool)).length, .own 1 0 ((List.replicate ((IntKind.u64.wrap ((IntKind.u64.wrap ((([(-1)] : List Int).length : Nat) : Int)) * (IntKind.u64.wrap (a0.length : Int)))).toNat) (0 : Int)).length), .own 2 0 ((List.replicate ((IntKind.u64.wrap ((IntKind.u64.wrap ((([(-1)] : List Int).length : Nat) : Int)) * (IntKind.u64.wrap (a1.length : Int)))).toNat) (0 : Int)).length)]]), some (.row 1 [.ptr 3 0 0]), some (.row 1 (List.map (eS 1 vb) ([] : List (List Bool))))]⟩) (Sees.trans (Sees.co (fr' := [(0, eS 2 eWantedPart a0), (1, eS 2 eOfferedPart a1), (5, .ptr 0 0 0), (8, .ptr 6 0 0), (42, eS 2 eWantedPart a0), (43, vi (a0.length : Int)), (44, vi 0)]) (ob' := [some (.row 2 [.agg [.emp, .emp]]), some (.row 1 (List.map vi ([(-1)] : List Int))), some (.row 1 (List.map vi y2)), some (.row 1 (List.map vi ([(-1)] : List Int))), some (.row 1 (List.map vi y3)), some (.row 3 [.agg [.own 7 0 0, .own 2 0 ((List.replicate ((IntKind.u64.wrap ((IntKind.u64.wrap ((([(-1)] : List Int).length : Nat) : Int)) * (IntKind.u64.wrap (a0.length : Int)))).toNat) (0 : Int)).length), .own 4 0 ((List.replicate ((IntKind.u64.wrap ((IntKind.u64.wrap ((([(-1)] : List Int).length : Nat) : Int)) * (IntKind.u64.wrap (a1.length : Int)))).toNat) (0 : Int)).length)]]), some (.row 1 [.ptr 5 0 0])]) (.cons .same (.cons .same (.cons .same (.cons .same (.cons .same (.cons .same (.cons .same .nil))))))) (.same (.same (.same (.same (.same (.cell (.cons .own (.cons .same (.cons .same .nil))) rfl (.same .nil))))))) 1) (sc [0, 2, 4, 5, 6, 7] (by decide) (by kernel_rfl) (.cons rfl (obRen_row vi_frz rfl (obRen_row vi_frz rfl (.cons rfl (.cons rfl (obRen_row (eS_frz 1 vb) rfl .nil)))))) rfl rfl)) ?_
 refine TriE.loopN h (fun (t : Nat × (List (List Bool))) => match t with | (v9, v10) => St.mk [(0, eS 2 eWantedPart a0), (1, eS 2 eOfferedPart a1), (5, .ptr 0 0 0), (8, .ptr 4 0 0), (42, eS 2 eWantedPart a0), (43, vi (a0.length : Int)), (44, vi v9)] [some (.row 2 [.agg [.emp, .emp]]), some (.row 1 (List.map vi y2)), some (.row 1 (List.map vi y3)), some (.row 3 [.agg [.own 5 0 v10.length, .own 1 0 ((List.replicate ((IntKind.u64.wrap ((IntKind.u64.wrap ((([(-1)] : List Int).length : Nat) : Int)) * (IntKind.u64.wrap (a0.length : Int)))).toNat) (0 : Int)).length), .own 2 0 ((List.replicate ((IntKind.u64.wrap ((IntKind.u64.wrap ((([(-1)] : List Int).length : Nat) : Int)) * (IntKind.u64.wrap (a1.length : Int)))).toNat) (0 : Int)).length)]]), some (.row 1 [.ptr 3 0 0]), some (.row 1 (List.map (eS 1 vb) v10))]) rfl ?_
 clear h
 rintro back ⟨v9, v10⟩ h
 dsimp only [restore_Match_L2] at h
 refine sj ?_
 refine jo 45 (.bin .lss false 44 43) (n_lss (i := v9) (j := a0.length) rfl rfl) ?_
 refine jf (.d (.k4 (.k3 (.i 45 (vb (decide (v9 < a0.length))) .n)))) ?_
 refine q1 ?_
 refine tc h (fun c2 h => ?_) (fun c2 h => ?_)
 ·refine q2 ?_
  refine q7 ?_
  refine sj ?_
  refine jo 46 (.iaddr 2 42 44) (ok_iaddr_m (j := v9) rfl rfl rfl c2) ?_
  refine jo 47 (.load true 2 46) (ok_load_fm (v := .agg [vt ((ix a0 v9).Name), eS 2 eRange ((ix a0 v9).Ranges)]) rfl c2 rfl) ?_
  refine jko 2 (.d2 (.k4 (.k3 (.i 10 (.ptr 6 0 0) .n)))) [some (.row 2 [.agg [.emp, .emp]]), some (.row 1 (List.map vi y2)), some (.row 1 (List.map vi y3)), some (.row 3 [.agg [.own 5 0 v10.length, .own 1 0 ((List.replicate ((IntKind.u64.wrap ((IntKind.u64.wrap ((([(-1)] : List Int).length : Nat) : Int)) * (IntKind.u64.wrap (a0.length : Int)))).toNat) (0 : Int)).length), .own 2 0 ((List.replicate ((IntKind.u64.wrap ((IntKind.u64.wrap ((([(-1)] : List Int).length : Nat) : Int)) * (IntKind.u64.wrap (a1.length : Int)))).toNat) (0 : Int)).length)]]), some (.row 1 [.ptr 3 0 0]), some (.row 1 (List.map (eS 1 vb) v10)), some (.row 2 [.agg [vt ((ix a0 v9).Name), eS 2 eRange ((ix a0 v9).Ranges)]])] ?_
  refine sj ?_
  refine rk 1 (.k4 (.k4 (.i 48 (eS 2 eOfferedPart a1) .n))) ?_
  refine jo 49 (.len 0 48) (ok_len_m rfl) ?_
  obtain ⟨c3, h⟩ := ck h
  refine jx 50 (.mkslice 1 1 (.p (.bool false)) 49 49) _ (ok_mkslice_n (e := vb) (v0 := false) (j := a1.length) rfl rfl rfl rfl rfl rfl c3) rfl rfl ?_
  refine jk 1 (.d2 (.k4 (.k4 (.i 11 (.own 7 0 ((List.replicate a1.length false).length)) .n)))) ?_
  refine TriE.seqK h (fun (v15 : (List Bool)) => St.mk [(0, eS 2 eWantedPart a0), (1, eS 2 eOfferedPart a1), (5, .ptr 0 0 0), (8, .ptr 4 0 0), (42, eS 2 eWantedPart a0), (43, vi (a0.length : Int)), (44, vi v9), (11, .own 6 0 v15.length)] [some (.row 2 [.agg [.emp, .emp]]), some (.row 1 (List.map vi y2)), some (.row 1 (List.map vi y3)), some (.row 3 [.agg [.own 5 0 v10.length, .own 1 0 ((List.replicate ((IntKind.u64.wrap ((IntKind.u64.wrap ((([(-1)] : List Int).length : Nat) : Int)) * (IntKind.u64.wrap (a0.length : Int)))).toNat) (0 : Int)).length), .own 2 0 ((List.replicate ((IntKind.u64.wrap ((IntKind.u64.wrap ((([(-1)] : List Int).length : Nat) : Int)) * (IntKind.u64.wrap (a1.length : Int)))).toNat) (0 : Int)).length)]]), some (.row 1 [.ptr 3 0 0]), some (.row 1 (List.map (eS 1 vb) v10)), some (.row 1 (List.map vb v15))]) ?_ ?_
  ·rintro v15 h
   refine TriE.sees (Sees.freeze 6 (fr' := [(0, eS 2 eWantedPart a0), (1, eS 2 eOfferedPart a1), (5, .ptr 0 0 0), (8, .ptr 4 0 0), (42, eS 2 eWantedPart a0), (43, vi (a0.length : Int)), (44, vi v9), (11, eS 1 vb v15)]) (ob' := [some (.row 2 [.agg [.emp, .emp]]), some (.row 1 (List.map vi y2)), some (.row 1 (List.map vi y3)), some (.row 3 [.agg [.own 5 0 v10.length, .own 1 0 ((List.replicate ((IntKind.u64.wrap ((IntKind.u64.wrap ((([(-1)] : List Int).length : Nat) : Int)) * (IntKind.u64.wrap (a0.length : Int)))).toNat) (0 : Int)).length), .own 2 0 ((List.replicate ((IntKind.u64.wrap ((IntKind.u64.wrap ((([(-1)] : List Int).length : Nat) : Int)) * (IntKind.u64.wrap (a1.length : Int)))).toNat) (0 : Int)).length)]]), some (.row 1 [.ptr 3 0 0]), some (.row 1 (List.map (eS 1 vb) v10)), none]) rfl (frz_row vb_frzE _) (.cons (.refl _) (.cons (.refl _) (.cons (.refl _) (.cons (.refl _) (.cons (.refl _) (.cons (.refl _) (.cons (.refl _) (.cons (frz_full rfl) .nil)))))))) rfl) ?_
   refine ts .a ?_
   refine TriE.draw (by kernel_rfl) ?_
   refine dko 7 (.i 71 (.own 13 0 1) (.i 70 (eS 1 vb v15) (.i 69 (.own 5 0 v10.length) (.i 68 (.ptr 3 0 0) (.i 67 (.ptr 3 0 0) (.i 66 (.ptr 3 0 0) (.i 65 (.ptr 3 0 0) .a))))))) [some (.row 2 [.agg [.emp, .emp]]), some (.row 1 (List.map vi y2)), some (.row 1 (List.map vi y3)), some (.row 3 [.agg [.own 5 0 v10.length, .own 1 0 ((List.replicate ((IntKind.u64.wrap ((IntKind.u64.wrap ((([(-1)] : List Int).length : Nat) : Int)) * (IntKind.u64.wrap (a0.length : Int)))).toNat) (0 : Int)).length), .own 2 0 ((List.replicate ((IntKind.u64.wrap ((IntKind.u64.wrap ((([(-1)] : List Int).length : Nat) : Int)) * (IntKind.u64.wrap (a1.length : Int)))).toNat) (0 : Int)).length)]]), some (.row 1 [.ptr 3 0 0]), some (.row 1 (List.map (eS 1 vb) v10)), none, none, none, none, none, none, none, some (.row 1 [eS 1 vb v15])] ?_
   obtain ⟨c7, h⟩ := ck h
   refine dx 72 (.app 1 24 69 71) _ (ok_app_own (l := v10) (l2 := ([v15] : List (List Bool))) (e := (eS 1 vb)) (u := .own 13 0 1) rfl rfl rfl rfl rfl c7) rfl rfl ?_
   refine dko 3 (.i 74 (.ptr 3 0 0) (.i 73 (.ptr 3 0 0) .a)) [some (.row 2 [.agg [.emp, .emp]]), some (.row 1 (List.map vi y2)), some (.row 1 (List.map vi y3)), some (.row 3 [.agg [.own 14 0 ((v10 ++ ([v15] : List (List Bool))).length), .own 1 0 ((List.replicate ((IntKind.u64.wrap ((IntKind.u64.wrap ((([(-1)] : List Int).length : Nat) : Int)) * (IntKind.u64.wrap (a0.length : Int)))).toNat) (0 : Int)).length), .own 2 0 ((List.replicate ((IntKind.u64.wrap ((IntKind.u64.wrap ((([(-1)] : List Int).length : Nat) : Int)) * (IntKind.u64.wrap (a1.length : Int)))).toNat) (0 : Int)).length)]]), some (.row 1 [.ptr 3 0 0]), none, none, none, none, none, none, none, none, some (.row 1 [eS 1 vb v15]), some (.row 1 (List.map (eS 1 vb) (v10 ++ ([v15] : List (List Bool))))), none, none, none] ?_
   refine dfi (ob' := [some (.row 2 [.agg [.emp, .emp]]), some (.row 1 (List.map vi y2)), some (.row 1 (List.map vi y3)), some (.row 3 [.agg [.own 5 0 ((v10 ++ ([v15] : List (List Bool))).length), .own 1 0 ((List.replicate ((IntKind.u64.wrap ((IntKind.u64.wrap ((([(-1)] : List Int).length : Nat) : Int)) * (IntKind.u64.wrap (a0.length : Int)))).toNat) (0 : Int)).length), .own 2 0 ((List.replicate ((IntKind.u64.wrap ((IntKind.u64.wrap ((([(-1)] : List Int).length : Nat) : Int)) * (IntKind.u64.wrap (a1.length : Int)))).toNat) (0 : Int)).length)]]), some (.row 1 [.ptr 3 0 0]), some (.row 1 (List.map (eS 1 vb) (v10 ++ ([v15] : List (List Bool)))))]) (.d4 (.d4 (.d2 (.k4 (.k3 .n))))) [0, 1, 2, 3, 4, 14] (.cons rfl (obRen_row vi_frz rfl (obRen_row vi_frz rfl (.cons rfl (.cons rfl (obRen_row (eS_frz 1 vb) rfl .nil)))))) ?_
   refine q6 ?_
   obtain ⟨c8, h⟩ := ck h
   refine jo 75 (.bin .add false 44 (ki 1)) (r_addn (i := v9) (j := 1) rfl rfl c8) ?_
   refine jk 1 (.d (.k4 (.k2 (.i 44 (vi ((v9 + 1 : Nat) : Int)) .n)))) ?_
   exact Vs.intro sy ⟨(v9 + 1, (v10 ++ ([v15] : List (List Bool)))), rfl, h⟩
  intro k1 h
  refine sj ?_
  refine rk 1 (.k4 (.k4 (.k (.i 51 (eS 2 eOfferedPart a1) .n)))) ?_
  refine jo 52 (.len 0 51) (ok_len_m rfl) ?_
  refine jk 1 (.d (.k4 (.k4 (.k2 (.i 52 (vi (a1.length : Int)) (.i 53 (vi 0) .n)))))) ?_
  refine q4 ?_
  refine ts (.k4 (.k4 (.i 11 (.own 7 0 (List.replicate a1.length false).length) (.d (.k2 (.i 53 (vi 0) .n)))))) ?_
  refine TriE.loopN h (fun (t : Nat × (List Bool)) => match t with | (v12, v13) => St.mk [(0, eS 2 eWantedPart a0), (1, eS 2 eOfferedPart a1), (5, .ptr 0 0 0), (8, .ptr 4 0 0), (42, eS 2 eWantedPart a0), (43, vi (a0.length : Int)), (44, vi v9), (10, .ptr 6 0 0), (11, .own 7 0 v13.length), (51, eS 2 eOfferedPart a1), (52, vi (a1.length : Int)), (53, vi v12)] [some (.row 2 [.agg [.emp, .emp]]), some (.row 1 (List.map vi y2)), some (.row 1 (List.map vi y3)), some (.row 3 [.agg [.own 5 0 v10.length, .own 1 0 ((List.replicate ((IntKind.u64.wrap ((IntKind.u64.wrap ((([(-1)] : List Int).length : Nat) : Int)) * (IntKind.u64.wrap (a0.length : Int)))).toNat) (0 : Int)).length), .own 2 0 ((List.replicate ((IntKind.u64.wrap ((IntKind.u64.wrap ((([(-1)] : List Int).length : Nat) : Int)) * (IntKind.u64.wrap (a1.length : Int)))).toNat) (0 : Int)).length)]]), some (.row 1 [.ptr 3 0 0]), some (.row 1 (List.map (eS 1 vb) v10)), some (.row 2 [.agg [vt ((ix a0 v9).Name), eS 2 eRange ((ix a0 v9).Ranges)]]), some (.row 1 (List.map vb v13))]) rfl ?_
  clear h
  rintro back ⟨v12, v13⟩ h
  dsimp only [restore_Match_L1] at h
  refine sj ?_
  refine jo 54 (.bin .lss false 53 52) (n_lss (i := v12) (j := a1.length) rfl rfl) ?_
  refine jf (.d (.k4 (.k4 (.k4 (.i 54 (vb (decide (v12 < a1.length))) .n))))) ?_
  refine q1 ?_
  refine tc h (fun c4 h => ?_) (fun c4 h => ?_)
  ·refine q2 ?_
   refine q7 ?_
   refine sj ?_
   refine rk 1 (.k4 (.k4 (.k4 (.i 55 (vi v12) .n)))) ?_
   refine jo 56 (.iaddr 2 51 53) (ok_iaddr_m (j := v12) rfl rfl rfl c4) ?_
   refine jo 57 (.load true 2 56) (ok_load_fm (v := .agg [vt ((ix a1 v12).Name), eS 1 vi ((ix a1 v12).Sizes)]) rfl c4 rfl) ?_
   refine jko 3 (.d2 (.k4 (.k4 (.k4 (.i 13 (.ptr 8 0 0) (.i 12 (vi v12) .n)))))) [some (.row 2 [.agg [.emp, .emp]]), some (.row 1 (List.map vi y2)), some (.row 1 (List.map vi y3)), some (.row 3 [.agg [.own 5 0 v10.length, .own 1 0 ((List.replicate ((IntKind.u64.wrap ((IntKind.u64.wrap ((([(-1)] : List Int).length : Nat) : Int)) * (IntKind.u64.wrap (a0.length : Int)))).toNat) (0 : Int)).length), .own 2 0 ((List.replicate ((IntKind.u64.wrap ((IntKind.u64.wrap ((([(-1)] : List Int).length : Nat) : Int)) * (IntKind.u64.wrap (a1.length : Int)))).toNat) (0 : Int)).length)]]), some (.row 1 [.ptr 3 0 0]), some (.row 1 (List.map (eS 1 vb) v10)), some (.row 2 [.agg [vt ((ix a0 v9).Name), eS 2 eRange ((ix a0 v9).Ranges)]]), some (.row 1 (List.map vb v13)), some (.row 2 [.agg [vt ((ix a1 v12).Name), eS 1 vi ((ix a1 v12).Sizes)]])] ?_
   refine q6 ?_
   refine rk 4 (.k4 (.k4 (.k4 (.i 58 (.own 7 0 v13.length) (.i 59 (vi v12) (.i 60 (.agg [vt ((ix a0 v9).Name), eS 2 eRange ((ix a0 v9).Ranges)]) (.i 61 (.agg [vt ((ix a1 v12).Name), eS 1 vi ((ix a1 v12).Sizes)]) .n))))))) ?_
   obtain ⟨y14, hy14, h⟩ := bs h
   refine jc 62 [60, 61] (restore_fits_ok n (ix a0 v9) (ix a1 v12) y14 hy14) ?_
   obtain ⟨c5, h⟩ := ck h
   refine jo 63 (.iaddr 1 58 59) (ok_iaddr_o0 (j := v12) rfl rfl rfl rfl c5) ?_
   refine jn (.store 1 63 62) _ (ok_store_m (l := v13) (e := vb) (x' := y14) (u := vb y14) rfl rfl rfl c5 rfl rfl) rfl rfl ?_
   refine jf (.d2 (.k4 (.k4 (.k4 .n)))) ?_
   refine q6 ?_
   obtain ⟨c6, h⟩ := ck h
   refine jo 64 (.bin .add false 53 (ki 1)) (r_addn (i := v12) (j := 1) rfl rfl c6) ?_
   refine jk 1 (.d (.k4 (.k4 (.k3 (.i 53 (vi ((v12 + 1 : Nat) : Int)) .n))))) ?_
   exact Vs.intro (Sees.cov (Cov.mk2 (rs := [0, 1, 2, 3, 4, 5, 6, 7]) (by decide) rfl rfl (.cons (.inl rfl) (.cons (.inl rfl) (.cons (.inl rfl) (.cons (.inl rfl) (.cons (.inl rfl) (.cons (.inl rfl) (.cons (.inl rfl) (.cons (.inl rfl) (.cons (.inl (by simp only [List.length_set]; rfl)) (.cons (.inl rfl) (.cons (.inl rfl) (.cons (.inl rfl) .nil)))))))))))) (.cons rfl (obRen_row vi_frz rfl (obRen_row vi_frz rfl (.cons rfl (.cons rfl (obRen_row (eS_frz 1 vb) rfl (.cons rfl (obRen_row vb_frz rfl .nil)))))))))) ⟨(v12 + 1, (List.set v13 v12 y14)), rfl, h⟩
  refine q5 ?_
  exact Vs.intro (sc [0, 1, 2, 3, 4, 5, 7] (by decide) (by kernel_rfl) (.cons rfl (obRen_row vi_frz rfl (obRen_row vi_frz rfl (.cons rfl (.cons rfl (obRen_row (eS_frz 1 vb) rfl (obRen_row vb_frz rfl .nil))))))) rfl rfl) ⟨v13, rfl, h⟩
 refine q5 ?_
 exact Vs.intro sy ⟨v10, rfl, h⟩
set_option maxHeartbeats 1000000 in
theorem agrafferef08_improve_ok_ (n : Nat) : ∀ (fu : Nat) (a0 : List WantedPart) (a1 : List OfferedPart) (a2 : List Int) (a3 : Int) (a4 : List Bool) (r : (List Bool) × (List Int) × Bool), loopN (agrafferef08_improve_F n) fu (a0, a1, a2, a3, a4) = some r → FnL Tryz.prog 134 [eS 2 eWantedPart a0, eS 2 eOfferedPart a1, .own 0 0 a2.length, vi a3, .own 1 0 a4.length] [some (.row 1 (List.map vi a2)), some (.row 1 (List.map vb a4))] (vb r.2.2) [some (.row 1 (List.map vi r.2.1)), some (.row 1 (List.map vb r.1))] := by
 intro fu
 induction fu with
 | zero =>
  intro a0 a1 a2 a3 a4 r h
  cases h
 | succ fu ih =>
  intro a0 a1 a2 a3 a4 r h
  replace h : agrafferef08_improve_F n (loopN (agrafferef08_improve_F n) fu) (a0, a1, a2, a3, a4) = some r := h
  dsimp only [agrafferef08_improve_F] at h
  refine fob [10] Tryz.call134 Tryz.func134 rfl (.cons rfl (.cons rfl .nil)) ?_
  refine sk .a ?_
  refine TriE.seqK h (fun (t : (List Bool) × (List Int)) => match t with | (v30, v31) => St.mk [] [some (.row 1 (List.map vi v31)), some (.row 1 (List.map vb v30))]) ?_ ?_
  ·rintro ⟨v30, v31⟩ h
   refine sk (.i 10 (vb false) .n) ?_
   refine q3 ?_
   have h := si h
   subst h
   exact DoneS.ret Sees.refl rfl rfl
  intro k5 h
  refine sk (.k4 (.k (.i 11 (vi 0) .n))) ?_
  refine q4 ?_
  refine ts (.k4 (.k (.i 11 (vi 0) .n))) ?_
  refine TriE.loopN h (fun (t : Nat × (List Bool) × (List Int)) => match t with | (v14, v15, v16) => St.mk [(0, eS 2 eWantedPart a0), (1, eS 2 eOfferedPart a1), (2, .own 0 0 v16.length), (3, vi a3), (4, .own 1 0 v15.length), (11, vi v14)] [some (.row 1 (List.map vi v16)), some (.row 1 (List.map vb v15))]) rfl ?_
  clear h
  rintro back ⟨v14, v15, v16⟩ h
  dsimp only [agrafferef08_improve_L2] at h
  refine q1 ?_
  refine sj ?_
  refine rk 2 (.k4 (.k2 (.i 14 (vi v14) (.i 15 (eS 2 eOfferedPart a1) .n)))) ?_
  refine jo 16 (.len 0 15) (ok_len_m rfl) ?_
  refine jo 17 (.bin .lss false 14 16) (n_lss (i := v14) (j := a1.length) rfl rfl) ?_
  refine jf (.d2 (.k4 (.k2 (.i 17 (vb (decide (v14 < a1.length))) .n)))) ?_
  refine tc h (fun c1 h => ?_) (fun c1 h => ?_)
  ·refine q2 ?_
   refine TriE.seqK h (fun (t : (List Bool) × (List Int)) => match t with | (v28, v29) => St.mk [(0, eS 2 eWantedPart a0), (1, eS 2 eOfferedPart a1), (2, .own 0 0 v29.length), (3, vi a3), (4, .own 1 0 v28.length), (11, vi v14)] [some (.row 1 (List.map vi v29)), some (.row 1 (List.map vb v28))]) ?_ ?_
   ·rintro ⟨v28, v29⟩ h
    refine q6 ?_
    refine rk 1 (.k4 (.k (.i 18 (vi v14) .n))) ?_
    obtain ⟨c15, h⟩ := ck h
    refine jo 19 (.bin .add false 18 (ki 1)) (r_addn (i := v14) (j := 1) rfl rfl c15) ?_
    refine jk 1 (.d (.k4 (.k (.i 11 (vi ((v14 + 1 : Nat) : Int)) .n)))) ?_
    exact Vs.intro sy ⟨(v14 + 1, v28, v29), rfl, h⟩
   intro k4 h
   refine q4 ?_
   refine q1 ?_
   refine q1 ?_
   refine ts (.k4 (.k2 .n)) ?_
   refine TriE.draw (by kernel_rfl) ?_
   refine dk 2 (.i 21 (vi v14) (.i 20 (.own 1 0 v15.length) .a)) ?_
   obtain ⟨c2, h⟩ := ck h
   refine dp 22 (.iaddr 1 20 21) (ok_iaddr_o0 (j := v14) rfl rfl rfl rfl c2) ?_
   refine dp 23 (.load false 1 22) (ok_load_pm (l := v15) (e := vb) (v := vb (ix v15 v14)) rfl rfl c2 rfl) ?_
   refine dk 1 (.i 24 (vb (ix v15 v14)) .a) ?_
   refine gd (!(ix v15 v14)) (eS 2 eWantedPart a0) 25 (.mov 0) 24 false rfl (fun hg => (.cons rfl .nil)) ?_
   refine gd (!(ix v15 v14)) (vi a3) 26 (.mov 3) 24 false rfl (fun hg => (.cons rfl .nil)) ?_
   obtain ⟨c3, h⟩ := ck h
   refine gu (!(ix v15 v14)) 27 (.iaddr 2 25 26) 24 false rfl (fun hg => (ok_iaddr_m (j := a3.toNat) rfl rfl (inB_to (gor c3 hg)) (inB_lt (gor c3 hg)))) (fun hg => (.cons hg (.cons hg .nil))) ?_
   obtain ⟨c4, h⟩ := ck h
   refine gu (!(ix v15 v14)) 28 (.load true 2 27) 24 false rfl (fun hg => (ok_load_fm (v := .agg [vt ((ix a0 a3.toNat).Name), eS 2 eRange ((ix a0 a3.toNat).Ranges)]) rfl (gor c4 hg) rfl)) (fun hg => (.cons hg .nil)) ?_
   refine gd (!(ix v15 v14)) (eS 2 eOfferedPart a1) 29 (.mov 1) 24 false rfl (fun hg => (.cons rfl .nil)) ?_
   refine gd (!(ix v15 v14)) (vi v14) 30 (.mov 11) 24 false rfl (fun hg => (.cons rfl .nil)) ?_
   refine gu (!(ix v15 v14)) 31 (.iaddr 2 29 30) 24 false rfl (fun hg => (ok_iaddr_m (j := v14) rfl rfl rfl c1)) (fun hg => (.cons hg (.cons hg .nil))) ?_
   refine gu (!(ix v15 v14)) 32 (.load true 2 31) 24 false rfl (fun hg => (ok_load_fm (v := .agg [vt ((ix a1 v14).Name), eS 1 vi ((ix a1 v14).Sizes)]) rfl c1 rfl)) (fun hg => (.cons hg .nil)) ?_
   obtain ⟨y17, hy17, h⟩ := bs h
   refine du (!(ix v15 v14)) 33 [28, 32] 24 false rfl (fun hg => agrafferef08_Fits_ok n (ix a0 a3.toNat) (ix a1 v14) y17 (gcall_some hy17 hg)) (fun hg => (.cons rfl (.cons hg (.cons hg .nil)))) (fun hg => by kernel_rfl) ?_
   refine gd (!(ix v15 v14)) (vb (!y17)) 34 (.un .not 33) 24 false rfl (fun hg => (.cons hg .nil)) ?_
   refine RegD.op (OpD.or (cy (I0 35 (.pick 24 (.c (.p (.bool true))) 34))) rfl rfl (by first | exact hokO1 | exact hokO0 | simp)) ?_
   refine dfi (.d4 (.d4 (.d4 (.d4 (.k4 (.k2 (.i 35 (vb ((ix v15 v14) || (!y17))) .n))))))) [0, 1] (obRen_row vi_frz rfl (obRen_row vb_frz rfl .nil)) ?_
   refine tc h (fun c5 h => ?_) (fun c5 h => ?_)
   ·refine q5 ?_
    exact Vs.intro sy ⟨(v15, v16), rfl, h⟩
   refine q2 ?_
   refine sj ?_
   refine rk 2 (.k4 (.k2 (.i 36 (.own 1 0 v15.length) (.i 37 (vi v14) .n)))) ?_
   refine jo 38 (.iaddr 1 36 37) (ok_iaddr_o0 (j := v14) rfl rfl rfl rfl c2) ?_
   refine jn (.store 1 38 (.c (.p (.bool true)))) _ (ok_store_m (l := v15) (e := vb) (x' := true) (u := vb true) rfl rfl rfl c2 rfl rfl) rfl rfl ?_
   refine jf (.d (.k4 (.k2 .n))) ?_
   refine sk (.k4 (.k2 (.i 12 (vi (-1)) .n))) ?_
   refine TriE.seqK h (fun (v22 : Int) => St.mk [(0, eS 2 eWantedPart a0), (1, eS 2 eOfferedPart a1), (2, .own 0 0 v16.length), (3, vi a3), (4, .own 1 0 v15.length), (11, vi v14), (12, vi v22)] [some (.row 1 (List.map vi v16)), some (.row 1 (List.map vb (List.set v15 v14 true)))]) ?_ ?_
   ·rintro v22 h
    refine TriE.seqK h (fun (t : Bool × (List Bool) × (List Int)) => match t with | (v25, v26, v27) => St.mk [(0, eS 2 eWantedPart a0), (1, eS 2 eOfferedPart a1), (2, .own 0 0 v27.length), (3, vi a3), (4, .own 1 0 v26.length), (11, vi v14), (61, vb v25)] [some (.row 1 (List.map vi v27)), some (.row 1 (List.map vb v26))]) ?_ ?_
    ·rintro ⟨v25, v26, v27⟩ h
     refine tc h (fun c12 h => ?_) (fun c12 h => ?_)
     ·refine sj ?_
      refine rk 3 (.i 62 (.own 0 0 v27.length) (.i 63 (vi a3) (.i 64 (vi v14) .n))) ?_
      obtain ⟨c13, h⟩ := ck h
      refine jo 65 (.iaddr 1 62 63) (ok_iaddr_o0 (j := a3.toNat) rfl rfl rfl (inB_to c13) (inB_lt c13)) ?_
      obtain ⟨c14, h⟩ := ck h
      refine jn (.store 1 65 64) _ (ok_store_m (l := v27) (e := vi) (x' := (v14 : Int)) (u := vi v14) rfl rfl rfl c14 rfl rfl) rfl rfl ?_
      refine jf .n ?_
      refine sk (.i 10 (vb true) .n) ?_
      refine q3 ?_
      have h := si h
      subst h
      exact DoneS.ret Sees.refl rfl rfl
     refine q2 ?_
     exact Vs.intro sy ⟨(v26, v27), rfl, h⟩
    intro k3 h
    refine q6 ?_
    refine rk 3 (.k4 (.k3 (.i 54 (vb (decide (v22 < (0 : Int)))) .n))) ?_
    refine gj (eS 2 eWantedPart a0) 55 (.mov 0) 54 false rfl ?_
    refine gj (eS 2 eOfferedPart a1) 56 (.mov 1) 54 false rfl ?_
    refine gj (.own 0 0 v16.length) 57 (.mov 2) 54 false rfl ?_
    refine gj (vi v22) 58 (.mov 12) 54 false rfl ?_
    refine gj (.own 1 0 v15.length) 59 (.mov 4) 54 false rfl ?_
    rcases Bool.eq_false_or_eq_true (!(decide (v22 < (0 : Int)))) with c9 | c9
    ·have h := cond_t h c9
     obtain ⟨y23, hy23, h⟩ := bs h
     refine RegJ.op (Op1.call (y' := vb y23.2.2) (obx := [some (.row 1 (List.map vi v16)), some (.row 1 (List.map vb (List.set v15 v14 true)))]) (oby := [some (.row 1 (List.map vi y23.2.1)), some (.row 1 (List.map vb y23.1))]) (ob2 := [some (.row 1 (List.map vi y23.2.1)), some (.row 1 (List.map vb y23.1))]) _ _ (cy (IG 60 (.call 134 [55, 56, 57, 58, 59]) 54 false)) (congrArg some c9) (ih a0 a1 v16 v22 (List.set v15 v14 true) y23 hy23) [0, 1] (by simp only [List.length_set]; rfl) (.cons rfl (.cons c9 (.cons c9 (.cons c9 (.cons c9 (.cons c9 .nil)))))) (by kernel_rfl) (by kernel_rfl) (.same (row_ren vi_frz _ _ _) (.same (row_ren vb_frz _ _ _) .nil)) (by kernel_rfl) (.same (row_ren vi_frz _ _ _) (.same (row_ren vb_frz _ _ _) .nil)) (by kernel_rfl)) ?_
     obtain ⟨c10, h⟩ := ck h
     refine RegJ.sees (S' := ⟨[(0, eS 2 eWantedPart a0), (1, eS 2 eOfferedPart a1), (2, .own 0 0 y23.2.1.length), (3, vi a3), (4, .own 1 0 v15.length), (11, vi v14), (12, vi v22), (54, vb (decide (v22 < (0 : Int)))), (55, .cond (!(decide (v22 < (0 : Int)))) (eS 2 eWantedPart a0)), (56, .cond (!(decide (v22 < (0 : Int)))) (eS 2 eOfferedPart a1)), (57, .cond (!(decide (v22 < (0 : Int)))) (.own 0 0 y23.2.1.length)), (58, .cond (!(decide (v22 < (0 : Int)))) (vi v22)), (59, .cond (!(decide (v22 < (0 : Int)))) (.own 1 0 v15.length)), (60, vb y23.2.2)], [some (.row 1 (List.map vi y23.2.1)), some (.row 1 (List.map vb y23.1))]⟩) (Sees.cov (Cov.mk2 (rs := [0, 1]) (by decide) rfl rfl (.cons (.inl rfl) (.cons (.inl rfl) (.cons (.inl (by rw [show v16.length = y23.2.1.length from of_decide_eq_true c10]; rfl)) (.cons (.inl rfl) (.cons (.inl rfl) (.cons (.inl rfl) (.cons (.inl rfl) (.cons (.inl rfl) (.cons (.inl rfl) (.cons (.inl rfl) (.cons (.inl (by rw [show v16.length = y23.2.1.length from of_decide_eq_true c10]; rfl)) (.cons (.inl rfl) (.cons (.inl rfl) (.cons (.inl rfl) .nil)))))))))))))) (obRen_row vi_frz rfl (obRen_row vb_frz rfl .nil)))) ?_
     obtain ⟨c11, h⟩ := ck h
     refine RegJ.sees (S' := ⟨[(0, eS 2 eWantedPart a0), (1, eS 2 eOfferedPart a1), (2, .own 0 0 y23.2.1.length), (3, vi a3), (4, .own 1 0 y23.1.length), (11, vi v14), (12, vi v22), (54, vb (decide (v22 < (0 : Int)))), (55, .cond (!(decide (v22 < (0 : Int)))) (eS 2 eWantedPart a0)), (56, .cond (!(decide (v22 < (0 : Int)))) (eS 2 eOfferedPart a1)), (57, .cond (!(decide (v22 < (0 : Int)))) (.own 0 0 y23.2.1.length)), (58, .cond (!(decide (v22 < (0 : Int)))) (vi v22)), (59, .cond (!(decide (v22 < (0 : Int)))) (.own 1 0 y23.1.length)), (60, vb y23.2.2)], [some (.row 1 (List.map vi y23.2.1)), some (.row 1 (List.map vb y23.1))]⟩) (Sees.cov (Cov.mk2 (rs := [0, 1]) (by decide) rfl rfl (.cons (.inl rfl) (.cons (.inl rfl) (.cons (.inl rfl) (.cons (.inl rfl) (.cons (.inl (by rw [show v15.length = y23.1.length from of_decide_eq_true c11]; rfl)) (.cons (.inl rfl) (.cons (.inl rfl) (.cons (.inl rfl) (.cons (.inl rfl) (.cons (.inl rfl) (.cons (.inl rfl) (.cons (.inl rfl) (.cons (.inl (by rw [show v15.length = y23.1.length from of_decide_eq_true c11]; rfl)) (.cons (.inl rfl) .nil)))))))))))))) (obRen_row vi_frz rfl (obRen_row vb_frz rfl .nil)))) ?_
     refine po 61 54 60 rfl rfl ?_
     refine jf (.d (.k4 (.k2 (.d4 (.d3 (.k (.i 61 (vb ((decide (v22 < (0 : Int))) || y23.2.2)) .n))))))) ?_
     exact Vs.intro sy ⟨((decide (v22 < (0 : Int))) || y23.2.2, y23.1, y23.2.1), rfl, h⟩
    have h := cond_f h c9
    refine RegJ.op (Op1.skipc (g := !(decide (v22 < (0 : Int)))) (v := vb false) (by kernel_rfl : compAt _ _ _ _ = some ⟨(some 60), .call 134 [55, 56, 57, 58, 59], (some (54, false)), [(.c (.fn (.func 134) [] [])), 55, 56, 57, 58, 59], 2⟩) rfl c9) ?_
    refine po 61 54 60 rfl rfl ?_
    refine jp [(0, eS 2 eWantedPart a0), (1, eS 2 eOfferedPart a1), (2, .own 0 0 v16.length), (3, vi a3), (4, .own 1 0 v15.length), (11, vi v14), (61, vb ((decide (v22 < (0 : Int))) || false))] ?_
    exact Vs.intro (Sees.less (.cons rfl (.cons rfl (.cons rfl (.cons rfl (.cons (by simp only [List.length_set]; rfl) (.cons rfl (.cons rfl .nil)))))))) ⟨((decide (v22 < (0 : Int))) || false, (List.set v15 v14 true), v16), rfl, h⟩
   intro k2 h
   refine sk (.k4 (.k3 (.i 13 (vi 0) .n))) ?_
   refine q4 ?_
   refine ts (.k4 (.k3 (.i 13 (vi 0) .n))) ?_
   refine TriE.loopN h (fun (t : Int × Nat) => match t with | (v19, v20) => St.mk [(0, eS 2 eWantedPart a0), (1, eS 2 eOfferedPart a1), (2, .own 0 0 v16.length), (3, vi a3), (4, .own 1 0 v15.length), (11, vi v14), (12, vi v19), (13, vi v20)] [some (.row 1 (List.map vi v16)), some (.row 1 (List.map vb (List.set v15 v14 true)))]) rfl ?_
   clear h
   rintro back ⟨v19, v20⟩ h
   dsimp only [agrafferef08_improve_L1] at h
   refine q1 ?_
   refine sj ?_
   refine rk 3 (.k4 (.k4 (.i 39 (vi v20) (.i 41 (vi (v16.length : Int)) .n)))) ?_
   refine jo 42 (.bin .lss false 39 41) (n_lss (i := v20) (j := v16.length) rfl rfl) ?_
   refine jf (.d (.k4 (.k4 (.i 42 (vb (decide (v20 < v16.length))) .n)))) ?_
   refine tc h (fun c6 h => ?_) (fun c6 h => ?_)
   ·refine q2 ?_
    refine TriE.seqK h (fun (v21 : Int) => St.mk [(0, eS 2 eWantedPart a0), (1, eS 2 eOfferedPart a1), (2, .own 0 0 v16.length), (3, vi a3), (4, .own 1 0 v15.length), (11, vi v14), (13, vi v20), (12, vi v21)] [some (.row 1 (List.map vi v16)), some (.row 1 (List.map vb (List.set v15 v14 true)))]) ?_ ?_
    ·rintro v21 h
     refine q6 ?_
     refine rk 1 (.k4 (.k2 (.d (.k (.i 43 (vi v20) .n))))) ?_
     obtain ⟨c8, h⟩ := ck h
     refine jo 44 (.bin .add false 43 (ki 1)) (r_addn (i := v20) (j := 1) rfl rfl c8) ?_
     refine jk 1 (.d (.k4 (.k3 (.i 13 (vi ((v20 + 1 : Nat) : Int)) .n)))) ?_
     exact Vs.intro sy ⟨(v21, v20 + 1), rfl, h⟩
    intro k1 h
    refine q4 ?_
    refine sj ?_
    refine rk 2 (.k4 (.k4 (.i 45 (.own 0 0 v16.length) (.i 46 (vi v20) .n)))) ?_
    refine jo 47 (.iaddr 1 45 46) (ok_iaddr_o0 (j := v20) rfl rfl rfl rfl c6) ?_
    refine jo 48 (.load false 1 47) (ok_load_pm (l := v16) (e := vi) (v := vi (ix v16 v20)) rfl rfl c6 rfl) ?_
    refine jk 2 (.d2 (.k4 (.k4 (.i 50 (vb ((ix v16 v20) == (v14 : Int))) .n)))) ?_
    refine tc h (fun c7 h => ?_) (fun c7 h => ?_)
    ·refine tk (.k4 (.k2 (.d (.k (.i 12 (vi v20) .n))))) ?_
     exact Vs.intro Sees.refl ⟨(v20 : Int), rfl, h⟩
    refine q2 ?_
    exact Vs.intro sy ⟨v19, rfl, h⟩
   refine q5 ?_
   exact Vs.intro sy ⟨v19, rfl, h⟩
  refine q5 ?_
  exact Vs.intro sy ⟨(v15, v16), rfl, h⟩
theorem agrafferef08_improve_ok (n : Nat) (a0 : List WantedPart) (a1 : List OfferedPart) (a2 : List Int) (a3 : Int) (a4 : List Bool) (r : (List Bool) × (List Int) × Bool) (h : agrafferef08_improve n a0 a1 a2 a3 a4 = some r) : FnL Tryz.prog 134 [eS 2 eWantedPart a0, eS 2 eOfferedPart a1, .own 0 0 a2.length, vi a3, .own 1 0 a4.length] [some (.row 1 (List.map vi a2)), some (.row 1 (List.map vb a4))] (vb r.2.2) [some (.row 1 (List.map vi r.2.1)), some (.row 1 (List.map vb r.1))] := agrafferef08_improve_ok_ n n a0 a1 a2 a3 a4 r h
set_option maxHeartbeats 1000000 in
theorem agrafferef08_Most_ok (n : Nat) (a0 : List WantedPart) (a1 : List OfferedPart) (r : Int) (h : agrafferef08_Most n a0 a1 = some r) : FnL Tryz.prog 63 [eS 2 eWantedPart a0, eS 2 eOfferedPart a1] [] (vi r) [] := by
 dsimp only [agrafferef08_Most] at h
 refine fo [4] Tryz.call63 Tryz.func63 rfl ?_
 refine sk .a ?_
 refine sj ?_
 refine rk 1 (.k2 (.i 9 (eS 2 eWantedPart a0) .n)) ?_
 refine jo 10 (.len 0 9) (ok_len_m rfl) ?_
 obtain ⟨c1, h⟩ := ck h
 refine jx 11 (.mkslice 1 8 (.p (.int .i64 0)) 10 10) _ (ok_mkslice_n (e := vi) (v0 := (0 : Int)) (j := a0.length) rfl rfl rfl rfl rfl rfl c1) rfl rfl ?_
 refine jk 1 (.d2 (.k2 (.i 5 (.own 0 0 ((List.replicate a0.length (0 : Int)).length)) .n))) ?_
 refine TriE.seqK h (fun (v3 : (List Int)) => St.mk [(0, eS 2 eWantedPart a0), (1, eS 2 eOfferedPart a1), (5, .own 0 0 v3.length)] [some (.row 1 (List.map vi v3))]) ?_ ?_
 ·rintro v3 h
  refine sk (.k3 (.i 7 (vi 0) .n)) ?_
  refine TriE.seqK h (fun (v13 : Nat) => St.mk [(7, vi v13)] []) ?_ ?_
  ·rintro v13 h
   refine sk (.i 4 (vi v13) .n) ?_
   refine q3 ?_
   have h := si h
   subst h
   exact DoneS.ret Sees.refl rfl rfl
  intro k3 h
  refine sk (.k4 (.i 8 (vi 0) .n)) ?_
  refine q4 ?_
  refine ts (.k3 (.i 7 (vi 0) (.i 8 (vi 0) .n))) ?_
  refine TriE.loopN h (fun (t : Nat × Nat × (List Int)) => match t with | (v7, v8, v9) => St.mk [(0, eS 2 eWantedPart a0), (1, eS 2 eOfferedPart a1), (5, .own 0 0 v9.length), (7, vi v7), (8, vi v8)] [some (.row 1 (List.map vi v9))]) rfl ?_
  clear h
  rintro back ⟨v7, v8, v9⟩ h
  dsimp only [agrafferef08_Most_L2] at h
  refine q1 ?_
  refine sj ?_
  refine rk 3 (.k4 (.k (.i 21 (vi v8) (.i 23 (vi (v9.length : Int)) .n)))) ?_
  refine jo 24 (.bin .lss false 21 23) (n_lss (i := v8) (j := v9.length) rfl rfl) ?_
  refine jf (.d (.k4 (.k (.i 24 (vb (decide (v8 < v9.length))) .n)))) ?_
  refine tc h (fun c4 h => ?_) (fun c4 h => ?_)
  ·refine q2 ?_
   refine TriE.seqK h (fun (t : (List Int) × Nat) => match t with | (v11, v12) => St.mk [(0, eS 2 eWantedPart a0), (1, eS 2 eOfferedPart a1), (5, .own 0 0 v11.length), (8, vi v8), (7, vi v12)] [some (.row 1 (List.map vi v11))]) ?_ ?_
   ·rintro ⟨v11, v12⟩ h
    refine q6 ?_
    refine rk 1 (.k3 (.d (.k (.i 25 (vi v8) .n)))) ?_
    obtain ⟨c10, h⟩ := ck h
    refine jo 26 (.bin .add false 25 (ki 1)) (r_addn (i := v8) (j := 1) rfl rfl c10) ?_
    refine jk 1 (.d (.k4 (.i 8 (vi ((v8 + 1 : Nat) : Int)) .n))) ?_
    exact Vs.intro sy ⟨(v12, v8 + 1, v11), rfl, h⟩
   intro k2 h
   refine q4 ?_
   refine sj ?_
   refine rk 5 (.k4 (.k (.i 27 (eS 2 eWantedPart a0) (.i 28 (eS 2 eOfferedPart a1) (.i 29 (.own 0 0 v9.length) (.i 30 (vi v8) (.i 31 (eS 2 eOfferedPart a1) .n))))))) ?_
   refine jo 32 (.len 0 31) (ok_len_m rfl) ?_
   obtain ⟨c5, h⟩ := ck h
   refine jx 33 (.mkslice 1 1 (.p (.bool false)) 32 32) _ (ok_mkslice_n (e := vb) (v0 := false) (j := a1.length) rfl rfl rfl rfl rfl rfl c5) rfl rfl ?_
   obtain ⟨y10, hy10, h⟩ := bs h
   refine jco (vb y10.2.2) 34 [27, 28, 29, 30, 33] (agrafferef08_improve_ok n a0 a1 v9 (v8 : Int) (List.replicate a1.length false) y10 hy10) [0, 1] rfl (.same (row_ren vi_frz _ _ _) (.same (row_ren vb_frz _ _ _) .nil)) (.same (row_ren vi_frz _ _ _) (.same (row_ren vb_frz _ _ _) .nil)) rfl ?_
   obtain ⟨c6, h⟩ := ck h
   refine RegJ.sees (S' := ⟨[(0, eS 2 eWantedPart a0), (1, eS 2 eOfferedPart a1), (5, .own 0 0 y10.2.1.length), (7, vi v7), (8, vi v8), (27, eS 2 eWantedPart a0), (28, eS 2 eOfferedPart a1), (29, .own 0 0 y10.2.1.length), (30, vi v8), (31, eS 2 eOfferedPart a1), (32, vi (a1.length : Int)), (33, .own 1 0 ((List.replicate a1.length false).length)), (34, vb y10.2.2)], [some (.row 1 (List.map vi y10.2.1)), some (.row 1 (List.map vb y10.1))]⟩) (Sees.cov (Cov.mk2 (rs := [0, 1]) (by decide) rfl rfl (.cons (.inl rfl) (.cons (.inl rfl) (.cons (.inl (by rw [show v9.length = y10.2.1.length from of_decide_eq_true c6]; rfl)) (.cons (.inl rfl) (.cons (.inl rfl) (.cons (.inl rfl) (.cons (.inl rfl) (.cons (.inl (by rw [show v9.length = y10.2.1.length from of_decide_eq_true c6]; rfl)) (.cons (.inl rfl) (.cons (.inl rfl) (.cons (.inl rfl) (.cons (.inl rfl) (.cons (.inl rfl) .nil))))))))))))) (obRen_row vi_frz rfl (obRen_row vb_frz rfl .nil)))) ?_
   obtain ⟨c7, h⟩ := ck h
   refine RegJ.sees (S' := ⟨[(0, eS 2 eWantedPart a0), (1, eS 2 eOfferedPart a1), (5, .own 0 0 y10.2.1.length), (7, vi v7), (8, vi v8), (27, eS 2 eWantedPart a0), (28, eS 2 eOfferedPart a1), (29, .own 0 0 y10.2.1.length), (30, vi v8), (31, eS 2 eOfferedPart a1), (32, vi (a1.length : Int)), (33, .own 1 0 y10.1.length), (34, vb y10.2.2)], [some (.row 1 (List.map vi y10.2.1)), some (.row 1 (List.map vb y10.1))]⟩) (Sees.cov (Cov.mk2 (rs := [0, 1]) (by decide) rfl rfl (.cons (.inl rfl) (.cons (.inl rfl) (.cons (.inl rfl) (.cons (.inl rfl) (.cons (.inl rfl) (.cons (.inl rfl) (.cons (.inl rfl) (.cons (.inl rfl) (.cons (.inl rfl) (.cons (.inl rfl) (.cons (.inl rfl) (.cons (.inl (by rw [show (List.replicate a1.length false).length = y10.1.length from of_decide_eq_true c7]; rfl)) (.cons (.inl rfl) .nil))))))))))))) (obRen_row vi_frz rfl (obRen_row vb_frz rfl .nil)))) ?_
   refine jf (.k4 (.k (.d4 (.d3 .a)))) ?_
   refine tc h (fun c8 h => ?_) (fun c8 h => ?_)
   ·refine q6 ?_
    refine rk 1 (.k3 (.d (.k (.i 35 (vi v7) .n)))) ?_
    obtain ⟨c9, h⟩ := ck h
    refine jo 36 (.bin .add false 35 (ki 1)) (r_addn (i := v7) (j := 1) rfl rfl c9) ?_
    refine jk 1 (.d (.k4 (.i 7 (vi ((v7 + 1 : Nat) : Int)) .n))) ?_
    exact Vs.intro (sc [0] (by decide) (by kernel_rfl) (obRen_row vi_frz rfl .nil) rfl rfl) ⟨(y10.2.1, v7 + 1), rfl, h⟩
   refine q2 ?_
   exact Vs.intro (sc [0] (by decide) (by kernel_rfl) (obRen_row vi_frz rfl .nil) rfl rfl) ⟨(y10.2.1, v7), rfl, h⟩
  refine q5 ?_
  exact Vs.intro (sc [] (by decide) (by kernel_rfl) ObRen.nil rfl rfl) ⟨v7, rfl, h⟩
 intro k1 h
 refine sk (.k3 (.i 6 (vi 0) .n)) ?_
 refine q4 ?_
 refine ts (.k2 (.i 5 (.own 0 0 (List.replicate a0.length (0 : Int)).length) (.i 6 (vi 0) .n))) ?_
 refine TriE.loopN h (fun (t : Nat × (List Int)) => match t with | (v1, v2) => St.mk [(0, eS 2 eWantedPart a0), (1, eS 2 eOfferedPart a1), (5, .own 0 0 v2.length), (6, vi v1)] [some (.row 1 (List.map vi v2))]) rfl ?_
 clear h
 rintro back ⟨v1, v2⟩ h
 dsimp only [agrafferef08_Most_L1] at h
 refine q1 ?_
 refine sj ?_
 refine rk 3 (.k4 (.i 12 (vi v1) (.i 14 (vi (v2.length : Int)) .n))) ?_
 refine jo 15 (.bin .lss false 12 14) (n_lss (i := v1) (j := v2.length) rfl rfl) ?_
 refine jf (.d (.k4 (.i 15 (vb (decide (v1 < v2.length))) .n))) ?_
 refine tc h (fun c2 h => ?_) (fun c2 h => ?_)
 ·refine q2 ?_
  refine q7 ?_
  refine q6 ?_
  refine rk 2 (.k4 (.i 18 (.own 0 0 v2.length) (.i 19 (vi v1) .n))) ?_
  refine jo 20 (.iaddr 1 18 19) (ok_iaddr_o0 (j := v1) rfl rfl rfl rfl c2) ?_
  refine jn (.store 1 20 (ki (-1))) _ (ok_store_m (l := v2) (e := vi) (x' := (-1)) (u := vi (-1)) rfl rfl rfl c2 rfl rfl) rfl rfl ?_
  refine jf (.d (.k4 .n)) ?_
  refine q6 ?_
  refine rk 1 (.k3 (.i 16 (vi v1) .n)) ?_
  obtain ⟨c3, h⟩ := ck h
  refine jo 17 (.bin .add false 16 (ki 1)) (r_addn (i := v1) (j := 1) rfl rfl c3) ?_
  refine jk 1 (.d (.k3 (.i 6 (vi ((v1 + 1 : Nat) : Int)) .n))) ?_
  exact Vs.intro (Sees.less (.cons rfl (.cons rfl (.cons (by simp only [List.length_set]; rfl) (.cons rfl .nil))))) ⟨(v1 + 1, (List.set v2 v1 (-1))), rfl, h⟩
 refine q5 ?_
 exact Vs.intro sy ⟨v2, rfl, h⟩
theorem agraffebase_CopyInts_3_ok (n : Nat) (a0 : List Int) (a1 : Nat) (a2 : Nat) (r : Unit) (h : agraffebase_CopyInts_3 n a0 a1 a2 = some r) : FnL Tryz.prog 53 [.own 0 a1 a2] [some (.row 1 (List.map vi a0))] (.own 1 0 ((List.take a2 (List.drop a1 a0)).length)) [some (.row 1 (List.map vi a0)), some (.row 1 (List.map vi (List.take a2 (List.drop a1 a0))))] := by
 dsimp only [agraffebase_CopyInts_3] at h
 refine fob [2] Tryz.call53 Tryz.func53 rfl (.cons rfl .nil) ?_
 refine sk .a ?_
 refine sj ?_
 refine rk 2 (.i 3 .emp (.i 4 (.own 0 a1 a2) .n)) ?_
 obtain ⟨c1, h⟩ := ck h
 obtain ⟨c2, h⟩ := ck h
 refine jx 5 (.app 1 8 3 4) _ (ok_app_emp (e := vi) (l := (List.take a2 (List.drop a1 a0))) (u := .own 0 a1 a2) rfl rfl (els_own (l := a0) rfl c1) c2) rfl rfl ?_
 refine jk 1 (.i 2 (.own 1 0 ((List.take a2 (List.drop a1 a0)).length)) .n) ?_
 refine q3 ?_
 have h := si h
 subst h
 exact DoneS.ret Sees.refl rfl rfl
theorem agraffebase_Has_2_ok (n : Nat) (a0 : List Int) (a1 : Nat) (a2 : Nat) (a3 : Int) (r : Bool) (h : agraffebase_Has_2 n a0 a1 a2 a3 = some r) : FnL Tryz.prog 122 [.own 0 a1 a2, vi a3] [some (.row 1 (List.map vi a0))] (vb r) [some (.row 1 (List.map vi a0))] := by
 dsimp only [agraffebase_Has_2] at h
 refine fob [4] Tryz.call122 Tryz.func122 rfl (.cons rfl .nil) ?_
 refine sk .a ?_
 refine TriE.seqK h (fun (_ : Unit) => St.mk [] [some (.row 1 (List.map vi a0))]) ?_ ?_
 ·rintro ⟨⟩ h
  refine sk (.i 4 (vb false) .n) ?_
  refine q3 ?_
  have h := si h
  subst h
  exact DoneS.ret Sees.refl rfl rfl
 intro k1 h
 refine sk (.k2 (.i 5 (vi 0) .n)) ?_
 refine q4 ?_
 refine ts (.k2 (.i 5 (vi 0) .n)) ?_
 refine TriE.loopN h (fun (v1 : Nat) => St.mk [(0, .own 0 a1 a2), (1, vi a3), (5, vi v1)] [some (.row 1 (List.map vi a0))]) rfl ?_
 clear h
 rintro back v1 h
 dsimp only [agraffebase_Has_2_L1] at h
 refine q1 ?_
 refine sj ?_
 refine rk 3 (.k3 (.i 6 (vi v1) (.i 8 (vi a2) .n))) ?_
 refine jo 9 (.bin .lss false 6 8) (n_lss (i := v1) (j := a2) rfl rfl) ?_
 refine jf (.d (.k3 (.i 9 (vb (decide (v1 < a2))) .n))) ?_
 refine tc h (fun c1 h => ?_) (fun c1 h => ?_)
 ·refine q2 ?_
  refine q7 ?_
  refine sj ?_
  refine rk 2 (.k3 (.i 12 (.own 0 a1 a2) (.i 13 (vi v1) .n))) ?_
  refine jo 14 (.iaddr 1 12 13) (ok_iaddr_o (j := v1) rfl rfl rfl rfl c1) ?_
  obtain ⟨c2, h⟩ := ck h
  refine jo 15 (.load false 1 14) (ok_load_pm (l := a0) (e := vi) (v := vi (ix a0 (a1 + v1))) rfl rfl c2 rfl) ?_
  refine jk 2 (.d2 (.k3 (.i 17 (vb ((ix a0 (a1 + v1)) == a3)) .n))) ?_
  refine tc h (fun c3 h => ?_) (fun c3 h => ?_)
  ·refine sk (.i 4 (vb true) .n) ?_
   refine q3 ?_
   have h := si h
   subst h
   exact DoneS.ret Sees.refl rfl rfl
  refine q2 ?_
  refine q6 ?_
  refine rk 1 (.k2 (.i 10 (vi v1) .n)) ?_
  obtain ⟨c4, h⟩ := ck h
  refine jo 11 (.bin .add false 10 (ki 1)) (r_addn (i := v1) (j := 1) rfl rfl c4) ?_
  refine jk 1 (.d (.k2 (.i 5 (vi ((v1 + 1 : Nat) : Int)) .n))) ?_
  exact Vs.intro sy ⟨(v1 + 1), rfl, h⟩
 refine q5 ?_
 exact Vs.intro sy ⟨(), rfl, h⟩
set_option maxHeartbeats 1000000 in
theorem agrafferef08_CheckMatch_2_ok (n : Nat) (a0 : List WantedPart) (a1 : List OfferedPart) (a2 : List Int) (a3 : Nat) (a4 : Nat) (r : Int × Int) (h : agrafferef08_CheckMatch_2 n a0 a1 a2 a3 a4 = some r) : FnL Tryz.prog 56 [eS 2 eWantedPart a0, eS 2 eOfferedPart a1, .own 0 a3 a4] [some (.row 1 (List.map vi a2))] (.tup [vi r.2, vi r.1]) [some (.row 1 (List.map vi a2))] := by
 dsimp only [agrafferef08_CheckMatch_2] at h
 refine fob [6, 7] Tryz.call56 Tryz.func56 rfl (.cons rfl .nil) ?_
 refine sk .a ?_
 refine q1 ?_
 refine sj ?_
 refine rk 3 (.k3 (.i 11 (vi a4) (.i 12 (eS 2 eWantedPart a0) .n))) ?_
 refine jo 13 (.len 0 12) (ok_len_m rfl) ?_
 refine jo 14 (.bin .neq false 11 13) (n_neq (i := a4) (j := a0.length) rfl rfl) ?_
 refine jf (.d2 (.k3 (.i 14 (vb (!decide (a4 = a0.length))) .n))) ?_
 refine tc h (fun c1 h => ?_) (fun c1 h => ?_)
 ·refine sk (.i 6 (vi 0) (.i 7 (vi 10) .n)) ?_
  refine q3 ?_
  have h := si h
  subst h
  exact DoneS.ret Sees.refl rfl rfl
 refine q2 ?_
 refine sk (.k3 (.i 8 (vi 0) .n)) ?_
 refine TriE.seqK h (fun (v11 : Nat) => St.mk [(8, vi v11)] [some (.row 1 (List.map vi a2))]) ?_ ?_
 ·rintro v11 h
  refine sk (.i 6 (vi v11) (.i 7 (vi 0) .n)) ?_
  refine q3 ?_
  have h := si h
  subst h
  exact DoneS.ret Sees.refl rfl rfl
 intro k2 h
 refine sk (.k4 (.i 9 (vi 0) .n)) ?_
 refine q4 ?_
 refine ts (.k3 (.i 8 (vi 0) (.i 9 (vi 0) .n))) ?_
 refine TriE.loopN h (fun (t : Nat × Nat) => match t with | (v5, v6) => St.mk [(0, eS 2 eWantedPart a0), (1, eS 2 eOfferedPart a1), (2, .own 0 a3 a4), (8, vi v5), (9, vi v6)] [some (.row 1 (List.map vi a2))]) rfl ?_
 clear h
 rintro back ⟨v5, v6⟩ h
 dsimp only [agrafferef08_CheckMatch_2_L1] at h
 refine q1 ?_
 refine sj ?_
 refine rk 3 (.k4 (.k (.i 15 (vi v6) (.i 17 (vi a4) .n)))) ?_
 refine jo 18 (.bin .lss false 15 17) (n_lss (i := v6) (j := a4) rfl rfl) ?_
 refine jf (.d (.k4 (.k (.i 18 (vb (decide (v6 < a4))) .n)))) ?_
 refine tc h (fun c2 h => ?_) (fun c2 h => ?_)
 ·refine q2 ?_
  refine TriE.seqK h (fun (v10 : Nat) => St.mk [(0, eS 2 eWantedPart a0), (1, eS 2 eOfferedPart a1), (2, .own 0 a3 a4), (8, vi v10), (9, vi v6)] [some (.row 1 (List.map vi a2))]) ?_ ?_
  ·rintro v10 h
   refine q6 ?_
   refine rk 1 (.k4 (.i 19 (vi v6) .n)) ?_
   obtain ⟨c14, h⟩ := ck h
   refine jo 20 (.bin .add false 19 (ki 1)) (r_addn (i := v6) (j := 1) rfl rfl c14) ?_
   refine jk 1 (.d (.k4 (.i 9 (vi ((v6 + 1 : Nat) : Int)) .n))) ?_
   exact Vs.intro sy ⟨(v10, v6 + 1), rfl, h⟩
  intro k1 h
  refine q4 ?_
  refine q1 ?_
  refine sj ?_
  refine rk 2 (.k4 (.k (.i 21 (.own 0 a3 a4) (.i 22 (vi v6) .n)))) ?_
  refine jo 23 (.iaddr 1 21 22) (ok_iaddr_o (j := v6) rfl rfl rfl rfl c2) ?_
  obtain ⟨c3, h⟩ := ck h
  refine jo 24 (.load false 1 23) (ok_load_pm (l := a2) (e := vi) (v := vi (ix a2 (a3 + v6))) rfl rfl c3 rfl) ?_
  refine jk 1 (.d2 (.k4 (.k (.i 25 (vb ((ix a2 (a3 + v6)) == ((-1) : Int))) .n)))) ?_
  refine tc h (fun c4 h => ?_) (fun c4 h => ?_)
  ·refine q5 ?_
   exact Vs.intro sy ⟨v5, rfl, h⟩
  refine q2 ?_
  refine q1 ?_
  refine sj ?_
  refine rk 2 (.k4 (.k (.i 26 (.own 0 a3 a4) (.i 27 (vi v6) .n)))) ?_
  refine jo 28 (.iaddr 1 26 27) (ok_iaddr_o (j := v6) rfl rfl rfl rfl c2) ?_
  refine jo 29 (.load false 1 28) (ok_load_pm (l := a2) (e := vi) (v := vi (ix a2 (a3 + v6))) rfl rfl c3 rfl) ?_
  refine rk 1 (.d2 (.k4 (.k (.i 29 (vi (ix a2 (a3 + v6))) (.i 30 (eS 2 eOfferedPart a1) .n))))) ?_
  refine jo 31 (.len 0 30) (ok_len_m rfl) ?_
  obtain ⟨c5, h⟩ := ck h
  refine jo 32 (.bin .sub false 31 (ki 1)) (r_sub rfl rfl c5) ?_
  obtain ⟨y7, hy7, h⟩ := bs h
  refine jc 33 [29, (ki 0), 32] (agraffebase_Within_ok n (ix a2 (a3 + v6)) 0 ((a1.length : Int) - 1) y7 hy7) ?_
  refine jk 1 (.d3 (.k4 (.k (.i 34 (vb (!((decide (0 ≤ (ix a2 (a3 + v6)))) && (decide ((ix a2 (a3 + v6)) ≤ ((a1.length : Int) - 1)))))) .n)))) ?_
  refine tc h (fun c6 h => ?_) (fun c6 h => ?_)
  ·refine sk (.i 6 (vi 0) (.i 7 (vi 6) .n)) ?_
   refine q3 ?_
   have h := si h
   subst h
   exact DoneS.ret Sees.refl rfl rfl
  refine q2 ?_
  refine q1 ?_
  refine q1 ?_
  refine ts (.k4 (.k .n)) ?_
  refine TriE.draw (by kernel_rfl) ?_
  refine dk 2 (.i 36 (vi v6) (.i 35 (eS 2 eWantedPart a0) .a)) ?_
  obtain ⟨c7, h⟩ := ck h
  refine dp 37 (.iaddr 2 35 36) (ok_iaddr_m (j := v6) rfl rfl rfl c7) ?_
  refine dp 38 (.load true 2 37) (ok_load_fm (v := .agg [vt ((ix a0 v6).Name), eS 2 eRange ((ix a0 v6).Ranges)]) rfl c7 rfl) ?_
  refine dk 3 (.i 41 (vi v6) (.i 40 (.own 0 a3 a4) (.i 39 (eS 2 eOfferedPart a1) .a))) ?_
  refine dp 42 (.iaddr 1 40 41) (ok_iaddr_o (j := v6) rfl rfl rfl rfl c2) ?_
  refine dp 43 (.load false 1 42) (ok_load_pm (l := a2) (e := vi) (v := vi (ix a2 (a3 + v6))) rfl rfl c3 rfl) ?_
  obtain ⟨c8, h⟩ := ck h
  refine dp 44 (.iaddr 2 39 43) (ok_iaddr_m (j := (ix a2 (a3 + v6)).toNat) rfl rfl (inB_to c8) (inB_lt c8)) ?_
  obtain ⟨c9, h⟩ := ck h
  refine dp 45 (.load true 2 44) (ok_load_fm (v := .agg [vt ((ix a1 ((ix a2 (a3 + v6)).toNat)).Name), eS 1 vi ((ix a1 ((ix a2 (a3 + v6)).toNat)).Sizes)]) rfl c9 rfl) ?_
  obtain ⟨y8, hy8, h⟩ := bs h
  refine dc (vb y8) 0 46 [38, 45] (agrafferef08_Fits_ok n (ix a0 v6) (ix a1 ((ix a2 (a3 + v6)).toNat)) y8 hy8) [] rfl ObsRen.nil ObsRen.nil rfl (.inr ⟨rfl, rfl⟩) ?_
  refine dk 1 (.i 47 (vb (!y8)) .a) ?_
  refine dfi (.d4 (.d4 (.d4 (.d (.k4 (.k (.i 47 (vb (!y8)) .n))))))) [0] (obRen_row vi_frz rfl .nil) ?_
  refine tc h (fun c10 h => ?_) (fun c10 h => ?_)
  ·refine sk (.i 6 (vi 0) (.i 7 (vi 15) .n)) ?_
   refine q3 ?_
   have h := si h
   subst h
   exact DoneS.ret Sees.refl rfl rfl
  refine q2 ?_
  refine q1 ?_
  refine q1 ?_
  refine ts (.k4 (.k .n)) ?_
  refine TriE.draw (by kernel_rfl) ?_
  refine dk 2 (.i 49 (vi v6) (.i 48 (.own 0 a3 a4) .a)) ?_
  obtain ⟨c11, h⟩ := ck h
  refine dp 50 (.slc 1 48 none (some 49) none) (ok_slco_hi (j := v6) rfl rfl rfl rfl c11) ?_
  refine dk 2 (.i 52 (vi v6) (.i 51 (.own 0 a3 a4) .a)) ?_
  refine dp 53 (.iaddr 1 51 52) (ok_iaddr_o (j := v6) rfl rfl rfl rfl c2) ?_
  refine dp 54 (.load false 1 53) (ok_load_pm (l := a2) (e := vi) (v := vi (ix a2 (a3 + v6))) rfl rfl c3 rfl) ?_
  obtain ⟨y9, hy9, h⟩ := bs h
  refine dc (vb y9) 0 55 [50, 54] (agraffebase_Has_2_ok n a2 a3 v6 (ix a2 (a3 + v6)) y9 hy9) [0] rfl (.same (row_ren vi_frz _ _ _) .nil) (.same (row_ren vi_frz _ _ _) .nil) rfl (.inr ⟨rfl, rfl⟩) ?_
  refine dfi (.d4 (.d4 (.k4 (.k (.i 55 (vb y9) .n))))) [0] (obRen_row vi_frz rfl .nil) ?_
  refine tc h (fun c12 h => ?_) (fun c12 h => ?_)
  ·refine sk (.i 6 (vi 0) (.i 7 (vi 17) .n)) ?_
   refine q3 ?_
   have h := si h
   subst h
   exact DoneS.ret Sees.refl rfl rfl
  refine q2 ?_
  refine q6 ?_
  refine rk 1 (.k3 (.d (.k (.i 56 (vi v5) .n)))) ?_
  obtain ⟨c13, h⟩ := ck h
  refine jo 57 (.bin .add false 56 (ki 1)) (r_addn (i := v5) (j := 1) rfl rfl c13) ?_
  refine jk 1 (.d (.k4 (.i 8 (vi ((v5 + 1 : Nat) : Int)) .n))) ?_
  exact Vs.intro sy ⟨(v5 + 1), rfl, h⟩
 refine q5 ?_
 exact Vs.intro sy ⟨v5, rfl, h⟩
set_option maxHeartbeats 1000000 in
theorem agraffelaw08_RestoreMatches_ok (n : Nat) (a0 : List WantedPart) (a1 : List OfferedPart) (r : Bool) (h : agraffelaw08_RestoreMatches n a0 a1 = some r) : FnL Tryz.prog 10 [eS 2 eWantedPart a0, eS 2 eOfferedPart a1] [] (vb r) [] := by
 dsimp only [agraffelaw08_RestoreMatches] at h
 refine fo [4] Tryz.call10 Tryz.func10 rfl ?_
 refine sk .a ?_
 refine q1 ?_
 refine sj ?_
 obtain ⟨y1, hy1, h⟩ := bs h
 refine jc 21 [] (agraffelaw08_awake_ok n y1 hy1) ?_
 refine jk 1 (.d (.k2 (.i 22 (vb (!y1)) .n))) ?_
 refine tc h (fun c1 h => ?_) (fun c1 h => ?_)
 ·refine sk (.i 4 (vb false) .n) ?_
  refine q3 ?_
  have h := si h
  subst h
  exact DoneS.ret Sees.refl rfl rfl
 refine q2 ?_
 refine q1 ?_
 refine sj ?_
 refine rk 2 (.k2 (.i 23 (eS 2 eWantedPart a0) (.i 24 (eS 2 eOfferedPart a1) .n))) ?_
 obtain ⟨y2, hy2, h⟩ := bs h
 refine jc 25 [23, 24] (agraffelaw08_places_ok n a0 a1 y2 hy2) ?_
 refine jk 1 (.d (.k2 (.i 26 (vb (!y2)) .n))) ?_
 refine tc h (fun c2 h => ?_) (fun c2 h => ?_)
 ·refine sk (.i 4 (vb true) .n) ?_
  refine q3 ?_
  have h := si h
  subst h
  exact DoneS.ret Sees.refl rfl rfl
 refine q2 ?_
 refine TriE.seqK h (fun (_ : Unit) => St.mk [(0, eS 2 eWantedPart a0), (1, eS 2 eOfferedPart a1)] []) ?_ ?_
 ·rintro ⟨⟩ h
  refine TriE.seqK2 h (fun (v13 : Int) => St.mk [(0, eS 2 eWantedPart a0), (1, eS 2 eOfferedPart a1), (9, .ptr 0 0 0), (8, .emp), (10, vi v13)] [some (.row 2 [.agg [.emp, .emp]])]) (fun (t : Nat × (List Int) × (List Int) × (List Int)) => match t with | (v27, v28, v29, v30) => St.mk [(0, eS 2 eWantedPart a0), (1, eS 2 eOfferedPart a1), (9, .ptr 1 0 0), (8, .own 0 0 v27), (10, vi 0)] [some (.row 1 (List.map vi v30)), some (.row 2 [.agg [eS 1 vi v28, eS 1 vi v29]])]) ?_ ?_ ?_
  ·rintro v13 h
   refine q1 ?_
   refine sj ?_
   refine rk 2 (.k4 (.k (.i 86 (eS 2 eWantedPart a0) (.i 87 (eS 2 eOfferedPart a1) .n)))) ?_
   obtain ⟨y14, hy14, h⟩ := bs h
   refine jc 88 [86, 87] (agrafferef08_CheckBoth_ok n a0 a1 y14 hy14) ?_
   refine jk 1 (.d (.k4 (.k (.i 11 (vi y14) .n)))) ?_
   refine sk (.k4 (.k2 (.i 90 (vb (y14 != (0 : Int))) .n))) ?_
   refine tc h (fun c13 h => ?_) (fun c13 h => ?_)
   ·refine sj ?_
    refine rk 4 (.d2 (.k2 (.i 94 (vb (v13 == y14)) .n))) ?_
    refine gj .emp 95 (.mov 8) 94 true rfl ?_
    refine gk (vi 0) 96 (.len 0 95) 94 true rfl (fun hg => (.cons hg .nil)) ?_
    refine gj (.ptr 0 0 0) 97 (.aaddr 2 1 9 (ki 0)) 94 true rfl ?_
    refine gk .emp 98 (.load false 1 97) 94 true rfl (fun hg => (.cons hg .nil)) ?_
    refine gk (vi 0) 99 (.len 0 98) 94 true rfl (fun hg => (.cons hg .nil)) ?_
    obtain ⟨c14, h⟩ := ck h
    refine gv 100 (.bin .add false 96 99) 94 true rfl (fun hg => (r_addn (i := 0) (j := 0) rfl rfl (gor c14 hg))) (fun hg => (.cons hg (.cons hg .nil))) ?_
    refine gj (.ptr 0 0 1) 101 (.aaddr 2 1 9 (ki 1)) 94 true rfl ?_
    refine gk .emp 102 (.load false 1 101) 94 true rfl (fun hg => (.cons hg .nil)) ?_
    refine gk (vi 0) 103 (.len 0 102) 94 true rfl (fun hg => (.cons hg .nil)) ?_
    obtain ⟨c15, h⟩ := ck h
    refine gv 104 (.bin .add false 100 103) 94 true rfl (fun hg => (r_addn (i := 0 + 0) (j := 0) rfl rfl (gor c15 hg))) (fun hg => (.cons hg (.cons hg .nil))) ?_
    refine gv 105 (.bin .eql false 104 (ki 0)) 94 true rfl (fun hg => (n_eql (i := 0 + 0 + 0) (j := 0) rfl rfl)) (fun hg => (.cons hg (.cons rfl .nil))) ?_
    refine pa 106 94 105 rfl rfl ?_
    refine jk 1 (.i 4 (vb ((v13 == y14) && (decide ((0 + 0 + 0) = 0)))) .n) ?_
    refine q3 ?_
    have h := si h
    subst h
    exact DoneS.ret (S' := ⟨[(4, vb ((v13 == y14) && (decide ((0 + 0 + 0) = 0))))], []⟩) (sc [] (by decide) (by kernel_rfl) ObRen.nil rfl rfl) rfl rfl
   refine q2 ?_
   refine sj ?_
   refine rk 1 (.k4 (.k (.i 108 (eS 2 eWantedPart a0) .n))) ?_
   obtain ⟨y15, hy15, h⟩ := bs h
   refine jc 109 [108] (agraffelaw08_wanted_ok n a0 y15 hy15) ?_
   refine rk 1 (.d (.k4 (.k (.i 109 (eS 2 eWantedPart y15) (.i 110 (eS 2 eOfferedPart a1) .n))))) ?_
   obtain ⟨y16, hy16, h⟩ := bs h
   refine jc 111 [110] (agraffelaw08_offered_ok n a1 y16 hy16) ?_
   refine rk 1 (.d (.k4 (.k2 (.i 111 (eS 2 eOfferedPart y16) (.i 112 .emp .n))))) ?_
   obtain ⟨y17, hy17, h⟩ := bs h
   refine jco (.own 1 0 (([] : List Int).length)) 113 [112] (FnL.co (.cons .sl .nil) (agraffebase_CopyInts_ok n ([] : List Int) y17 hy17)) [] rfl ObsRen.nil (.same (row_ren vi_frz _ _ _) .nil) rfl ?_
   refine RegJ.sees (Sees.freeze 1 (fr' := [(0, eS 2 eWantedPart a0), (1, eS 2 eOfferedPart a1), (9, .ptr 0 0 0), (8, .emp), (10, vi v13), (109, eS 2 eWantedPart y15), (111, eS 2 eOfferedPart y16), (112, .emp), (113, eS 1 vi ([] : List Int))]) (ob' := [some (.row 2 [.agg [.emp, .emp]]), none]) rfl (frz_row vi_frzE _) (.cons (.refl _) (.cons (.refl _) (.cons (.refl _) (.cons (.refl _) (.cons (.refl _) (.cons (.refl _) (.cons (.refl _) (.cons (.refl _) (.cons (frz_full rfl) .nil))))))))) rfl) ?_
   obtain ⟨y18, hy18, h⟩ := bs h
   refine jc 114 [109, 111, 113] (restore_CheckMatch_ok n y15 y16 ([] : List Int) y18 hy18) ?_
   refine jk 5 (.d (.k4 (.k (.i 12 (vi y18.2) (.i 13 (vi y18.1) .n))))) ?_
   refine q1 ?_
   refine ts .a ?_
   refine TriE.draw (by kernel_rfl) ?_
   refine dk 1 (.i 118 (eS 2 eWantedPart a0) .a) ?_
   obtain ⟨y19, hy19, h⟩ := bs h
   refine dc (eS 2 eWantedPart y19) 0 119 [118] (agraffelaw08_wanted_ok n a0 y19 hy19) [] rfl ObsRen.nil ObsRen.nil rfl (.inr ⟨rfl, rfl⟩) ?_
   refine dk 1 (.i 120 (eS 2 eOfferedPart a1) .a) ?_
   obtain ⟨y20, hy20, h⟩ := bs h
   refine dc (eS 2 eOfferedPart y20) 0 121 [120] (agraffelaw08_offered_ok n a1 y20 hy20) [] rfl ObsRen.nil ObsRen.nil rfl (.inr ⟨rfl, rfl⟩) ?_
   refine dk 2 (.i 123 .emp (.i 122 (.ptr 0 0 0) .a)) ?_
   obtain ⟨y21, hy21, h⟩ := bs h
   refine dc (eS 1 vi ([] : List Int)) 0 124 [123] (FnL.co (.cons .sl .nil) (agraffebase_CopyInts_2_ok n ([] : List Int) y21 hy21)) [] rfl ObsRen.nil ObsRen.nil rfl (.inr ⟨rfl, rfl⟩) ?_
   refine dk 2 (.i 126 .emp (.i 125 (.ptr 0 0 1) .a)) ?_
   obtain ⟨y22, hy22, h⟩ := bs h
   refine dc (eS 1 vi ([] : List Int)) 0 127 [126] (FnL.co (.cons .sl .nil) (agraffebase_CopyInts_2_ok n ([] : List Int) y22 hy22)) [] rfl ObsRen.nil ObsRen.nil rfl (.inr ⟨rfl, rfl⟩) ?_
   refine dk 1 (.i 128 (.agg [eS 1 vi ([] : List Int), eS 1 vi ([] : List Int)]) .a) ?_
   obtain ⟨y23, hy23, h⟩ := bs h
   refine dc (.tup [vi y23.2, vi y23.1]) 0 129 [119, 121, 128] (restore_CheckCover_ok n y19 y20 (Arr2_ListInt.mk ([] : List Int) ([] : List Int)) y23 hy23) [] rfl ObsRen.nil ObsRen.nil rfl (.inr ⟨rfl, rfl⟩) ?_
   refine dk 5 (.i 15 (vi y23.1) (.i 14 (vi y23.2) (.i 131 (vi y23.1) (.i 130 (vi y23.2) (.i 117 (.tup [vi y23.2, vi y23.1]) .a))))) ?_
   refine dfi (ob' := [some (.row 2 [.agg [.emp, .emp]])]) (.d4 (.d4 (.d4 (.d4 (.d (.k4 (.k3 (.i 14 (vi y23.2) (.i 15 (vi y23.1) .n))))))))) [0] (.cons rfl .nil) ?_
   refine sj ?_
   refine rk 3 (.k3 (.d (.k4 (.k (.i 133 (eS 2 eWantedPart a0) (.i 134 (eS 2 eOfferedPart a1) (.i 135 .emp .n))))))) ?_
   obtain ⟨y24, hy24, h⟩ := bs h
   refine jc 136 [133, 134, 135] (FnL.co (.cons .same (.cons .same (.cons .sl .nil))) (agrafferef08_CheckMatch_ok n a0 a1 ([] : List Int) y24 hy24)) ?_
   refine jk 5 (.d (.k4 (.k4 (.i 16 (vi y24.2) (.i 17 (vi y24.1) .n))))) ?_
   refine sj ?_
   refine rk 3 (.k2 (.d (.k4 (.k3 (.i 140 (eS 2 eWantedPart a0) (.i 141 (eS 2 eOfferedPart a1) (.i 142 (.agg [.emp, .emp]) .n))))))) ?_
   obtain ⟨y25, hy25, h⟩ := bs h
   refine jc 143 [140, 141, 142] (FnL.co (.cons .same (.cons .same (.cons (.aggs (.cons .sl (.cons .sl .nil))) .nil))) (agrafferef08_CheckCover_ok n a0 a1 (Arr2_ListInt.mk ([] : List Int) ([] : List Int)) y25 hy25)) ?_
   refine jk 5 (.d (.k4 (.k4 (.k (.i 18 (vi y25.2) (.i 19 (vi y25.1) .n)))))) ?_
   refine sj ?_
   refine rk 2 (.d2 (.k4 (.k4 (.k (.i 146 (eS 2 eWantedPart a0) (.i 147 (eS 2 eOfferedPart a1) .n)))))) ?_
   obtain ⟨y26, hy26, h⟩ := bs h
   refine jc 148 [146, 147] (agrafferef08_Most_ok n a0 a1 y26 hy26) ?_
   refine jk 1 (.d (.k4 (.k4 (.k (.i 20 (vi y26) .n))))) ?_
   refine sj ?_
   refine rk 3 (.d (.k4 (.k4 (.k (.i 151 (vb (v13 == (0 : Int))) .n))))) ?_
   refine gj (vi y18.1) 152 (.mov 13) 151 true rfl ?_
   refine gk (vb (y18.1 == (0 : Int))) 153 (.bin .eql false 152 (ki 0)) 151 true rfl (fun hg => (.cons hg (.cons rfl .nil))) ?_
   refine pa 154 151 153 rfl rfl ?_
   refine rk 1 (.d3 (.k (.d (.k4 (.k3 (.i 155 (vb ((v13 == (0 : Int)) && (y18.1 == (0 : Int)))) .n)))))) ?_
   refine gj (vi y23.1) 156 (.mov 15) 155 true rfl ?_
   refine gk (vb (y23.1 == (0 : Int))) 157 (.bin .eql false 156 (ki 0)) 155 true rfl (fun hg => (.cons hg (.cons rfl .nil))) ?_
   refine pa 158 155 157 rfl rfl ?_
   refine rk 1 (.d3 (.k2 (.d (.k4 (.k (.i 159 (vb (((v13 == (0 : Int)) && (y18.1 == (0 : Int))) && (y23.1 == (0 : Int)))) .n)))))) ?_
   refine gj (vi y24.1) 160 (.mov 17) 159 true rfl ?_
   refine gk (vb (y24.1 == (0 : Int))) 161 (.bin .eql false 160 (ki 0)) 159 true rfl (fun hg => (.cons hg (.cons rfl .nil))) ?_
   refine pa 162 159 161 rfl rfl ?_
   refine rk 1 (.d3 (.k3 (.d (.k3 (.i 163 (vb ((((v13 == (0 : Int)) && (y18.1 == (0 : Int))) && (y23.1 == (0 : Int))) && (y24.1 == (0 : Int)))) .n))))) ?_
   refine gj (vi y25.1) 164 (.mov 19) 163 true rfl ?_
   refine gk (vb (y25.1 == (0 : Int))) 165 (.bin .eql false 164 (ki 0)) 163 true rfl (fun hg => (.cons hg (.cons rfl .nil))) ?_
   refine pa 166 163 165 rfl rfl ?_
   refine rk 1 (.d3 (.k4 (.d (.k (.i 167 (vb (((((v13 == (0 : Int)) && (y18.1 == (0 : Int))) && (y23.1 == (0 : Int))) && (y24.1 == (0 : Int))) && (y25.1 == (0 : Int)))) .n))))) ?_
   refine gj (vi y18.2) 168 (.mov 12) 167 true rfl ?_
   refine gj (vi y26) 169 (.mov 20) 167 true rfl ?_
   refine gk (vb (y18.2 == y26)) 170 (.bin .eql false 168 169) 167 true rfl (fun hg => (.cons hg (.cons hg .nil))) ?_
   refine pa 171 167 170 rfl rfl ?_
   refine rk 1 (.d4 (.d (.k4 (.i 172 (vb ((((((v13 == (0 : Int)) && (y18.1 == (0 : Int))) && (y23.1 == (0 : Int))) && (y24.1 == (0 : Int))) && (y25.1 == (0 : Int))) && (y18.2 == y26))) .n)))) ?_
   refine gj (vi y23.2) 173 (.mov 14) 172 true rfl ?_
   refine gj (vi y26) 174 (.mov 20) 172 true rfl ?_
   refine gk (vb (y23.2 == y26)) 175 (.bin .eql false 173 174) 172 true rfl (fun hg => (.cons hg (.cons hg .nil))) ?_
   refine pa 176 172 175 rfl rfl ?_
   refine rk 1 (.d4 (.d (.k3 (.i 177 (vb (((((((v13 == (0 : Int)) && (y18.1 == (0 : Int))) && (y23.1 == (0 : Int))) && (y24.1 == (0 : Int))) && (y25.1 == (0 : Int))) && (y18.2 == y26)) && (y23.2 == y26))) .n)))) ?_
   refine gj (vi y24.2) 178 (.mov 16) 177 true rfl ?_
   refine gj (vi y26) 179 (.mov 20) 177 true rfl ?_
   refine gk (vb (y24.2 == y26)) 180 (.bin .eql false 178 179) 177 true rfl (fun hg => (.cons hg (.cons hg .nil))) ?_
   refine pa 181 177 180 rfl rfl ?_
   refine rk 1 (.d4 (.d (.k2 (.i 182 (vb ((((((((v13 == (0 : Int)) && (y18.1 == (0 : Int))) && (y23.1 == (0 : Int))) && (y24.1 == (0 : Int))) && (y25.1 == (0 : Int))) && (y18.2 == y26)) && (y23.2 == y26)) && (y24.2 == y26))) .n)))) ?_
   refine gj (vi y25.2) 183 (.mov 18) 182 true rfl ?_
   refine gj (vi y26) 184 (.mov 20) 182 true rfl ?_
   refine gk (vb (y25.2 == y26)) 185 (.bin .eql false 183 184) 182 true rfl (fun hg => (.cons hg (.cons hg .nil))) ?_
   refine pa 186 182 185 rfl rfl ?_
   refine jk 1 (.i 4 (vb (((((((((v13 == (0 : Int)) && (y18.1 == (0 : Int))) && (y23.1 == (0 : Int))) && (y24.1 == (0 : Int))) && (y25.1 == (0 : Int))) && (y18.2 == y26)) && (y23.2 == y26)) && (y24.2 == y26)) && (y25.2 == y26))) .n) ?_
   refine q3 ?_
   have h := si h
   subst h
   exact DoneS.ret (S' := ⟨[(4, vb (((((((((v13 == (0 : Int)) && (y18.1 == (0 : Int))) && (y23.1 == (0 : Int))) && (y24.1 == (0 : Int))) && (y25.1 == (0 : Int))) && (y18.2 == y26)) && (y23.2 == y26)) && (y24.2 == y26)) && (y25.2 == y26)))], []⟩) (sc [] (by decide) (by kernel_rfl) ObRen.nil rfl rfl) rfl rfl
  ·rintro ⟨v27, v28, v29, v30⟩ h
   refine q1 ?_
   refine sj ?_
   refine rk 2 (.k4 (.k (.i 86 (eS 2 eWantedPart a0) (.i 87 (eS 2 eOfferedPart a1) .n)))) ?_
   obtain ⟨y31, hy31, h⟩ := bs h
   refine jc 88 [86, 87] (agrafferef08_CheckBoth_ok n a0 a1 y31 hy31) ?_
   refine jk 1 (.d (.k4 (.k (.i 11 (vi y31) .n)))) ?_
   refine sk (.k4 (.k2 (.i 90 (vb (y31 != (0 : Int))) .n))) ?_
   refine tc h (fun c16 h => ?_) (fun c16 h => ?_)
   ·refine sj ?_
    refine rk 4 (.d2 (.k2 (.i 94 (vb ((0 : Int) == y31)) .n))) ?_
    refine gj (.own 0 0 v27) 95 (.mov 8) 94 true rfl ?_
    refine gk (vi v27) 96 (.len 0 95) 94 true rfl (fun hg => (.cons hg .nil)) ?_
    refine gj (.ptr 1 0 0) 97 (.aaddr 2 1 9 (ki 0)) 94 true rfl ?_
    refine gk (eS 1 vi v28) 98 (.load false 1 97) 94 true rfl (fun hg => (.cons hg .nil)) ?_
    refine gv 99 (.len 0 98) 94 true rfl (fun hg => (ok_len_m rfl)) (fun hg => (.cons hg .nil)) ?_
    obtain ⟨c17, h⟩ := ck h
    refine gv 100 (.bin .add false 96 99) 94 true rfl (fun hg => (r_addn (i := v27) (j := v28.length) rfl rfl (gor c17 hg))) (fun hg => (.cons hg (.cons hg .nil))) ?_
    refine gj (.ptr 1 0 1) 101 (.aaddr 2 1 9 (ki 1)) 94 true rfl ?_
    refine gk (eS 1 vi v29) 102 (.load false 1 101) 94 true rfl (fun hg => (.cons hg .nil)) ?_
    refine gv 103 (.len 0 102) 94 true rfl (fun hg => (ok_len_m rfl)) (fun hg => (.cons hg .nil)) ?_
    obtain ⟨c18, h⟩ := ck h
    refine gv 104 (.bin .add false 100 103) 94 true rfl (fun hg => (r_addn (i := v27 + v28.length) (j := v29.length) rfl rfl (gor c18 hg))) (fun hg => (.cons hg (.cons hg .nil))) ?_
    refine gv 105 (.bin .eql false 104 (ki 0)) 94 true rfl (fun hg => (n_eql (i := v27 + v28.length + v29.length) (j := 0) rfl rfl)) (fun hg => (.cons hg (.cons rfl .nil))) ?_
    refine pa 106 94 105 rfl rfl ?_
    refine jk 1 (.i 4 (vb (((0 : Int) == y31) && (decide ((v27 + v28.length + v29.length) = 0)))) .n) ?_
    refine q3 ?_
    have h := si h
    subst h
    exact DoneS.ret (S' := ⟨[(4, vb (((0 : Int) == y31) && (decide ((v27 + v28.length + v29.length) = 0))))], []⟩) (sc [] (by decide) (by kernel_rfl) ObRen.nil rfl rfl) rfl rfl
   refine q2 ?_
   refine sj ?_
   refine rk 1 (.k4 (.k (.i 108 (eS 2 eWantedPart a0) .n))) ?_
   obtain ⟨y32, hy32, h⟩ := bs h
   refine jc 109 [108] (agraffelaw08_wanted_ok n a0 y32 hy32) ?_
   refine rk 1 (.d (.k4 (.k (.i 109 (eS 2 eWantedPart y32) (.i 110 (eS 2 eOfferedPart a1) .n))))) ?_
   obtain ⟨y33, hy33, h⟩ := bs h
   refine jc 111 [110] (agraffelaw08_offered_ok n a1 y33 hy33) ?_
   refine rk 1 (.d (.k4 (.k2 (.i 111 (eS 2 eOfferedPart y33) (.i 112 (.own 0 0 v27) .n))))) ?_
   obtain ⟨y34, hy34, h⟩ := bs h
   refine jco (.own 2 0 ((List.take v27 (List.drop 0 v30)).length)) 113 [112] (agraffebase_CopyInts_3_ok n v30 0 v27 y34 hy34) [0] rfl (.same (row_ren vi_frz _ _ _) .nil) (.same (row_ren vi_frz _ _ _) (.same (row_ren vi_frz _ _ _) .nil)) rfl ?_
   refine RegJ.sees (Sees.freeze 2 (fr' := [(0, eS 2 eWantedPart a0), (1, eS 2 eOfferedPart a1), (9, .ptr 1 0 0), (8, .own 0 0 v27), (10, vi 0), (109, eS 2 eWantedPart y32), (111, eS 2 eOfferedPart y33), (112, .own 0 0 v27), (113, eS 1 vi (List.take v27 (List.drop 0 v30)))]) (ob' := [some (.row 1 (List.map vi v30)), some (.row 2 [.agg [eS 1 vi v28, eS 1 vi v29]]), none]) rfl (frz_row vi_frzE _) (.cons (.refl _) (.cons (.refl _) (.cons (.refl _) (.cons (.refl _) (.cons (.refl _) (.cons (.refl _) (.cons (.refl _) (.cons (.refl _) (.cons (frz_full rfl) .nil))))))))) rfl) ?_
   obtain ⟨y35, hy35, h⟩ := bs h
   refine jc 114 [109, 111, 113] (restore_CheckMatch_ok n y32 y33 (List.take v27 (List.drop 0 v30)) y35 hy35) ?_
   refine jk 5 (.d (.k4 (.k (.i 12 (vi y35.2) (.i 13 (vi y35.1) .n))))) ?_
   refine q1 ?_
   refine ts .a ?_
   refine TriE.draw (by kernel_rfl) ?_
   refine dk 1 (.i 118 (eS 2 eWantedPart a0) .a) ?_
   obtain ⟨y36, hy36, h⟩ := bs h
   refine dc (eS 2 eWantedPart y36) 0 119 [118] (agraffelaw08_wanted_ok n a0 y36 hy36) [] rfl ObsRen.nil ObsRen.nil rfl (.inr ⟨rfl, rfl⟩) ?_
   refine dk 1 (.i 120 (eS 2 eOfferedPart a1) .a) ?_
   obtain ⟨y37, hy37, h⟩ := bs h
   refine dc (eS 2 eOfferedPart y37) 0 121 [120] (agraffelaw08_offered_ok n a1 y37 hy37) [] rfl ObsRen.nil ObsRen.nil rfl (.inr ⟨rfl, rfl⟩) ?_
   refine dk 2 (.i 123 (eS 1 vi v28) (.i 122 (.ptr 1 0 0) .a)) ?_
   obtain ⟨y38, hy38, h⟩ := bs h
   refine dc (eS 1 vi v28) 0 124 [123] (agraffebase_CopyInts_2_ok n v28 y38 hy38) [] rfl ObsRen.nil ObsRen.nil rfl (.inr ⟨rfl, rfl⟩) ?_
   refine dk 2 (.i 126 (eS 1 vi v29) (.i 125 (.ptr 1 0 1) .a)) ?_
   obtain ⟨y39, hy39, h⟩ := bs h
   refine dc (eS 1 vi v29) 0 127 [126] (agraffebase_CopyInts_2_ok n v29 y39 hy39) [] rfl ObsRen.nil ObsRen.nil rfl (.inr ⟨rfl, rfl⟩) ?_
   refine dk 1 (.i 128 (.agg [eS 1 vi v28, eS 1 vi v29]) .a) ?_
   obtain ⟨y40, hy40, h⟩ := bs h
   refine dc (.tup [vi y40.2, vi y40.1]) 0 129 [119, 121, 128] (restore_CheckCover_ok n y36 y37 (Arr2_ListInt.mk v28 v29) y40 hy40) [] rfl ObsRen.nil ObsRen.nil rfl (.inr ⟨rfl, rfl⟩) ?_
   refine dk 5 (.i 15 (vi y40.1) (.i 14 (vi y40.2) (.i 131 (vi y40.1) (.i 130 (vi y40.2) (.i 117 (.tup [vi y40.2, vi y40.1]) .a))))) ?_
   refine dfi (ob' := [some (.row 1 (List.map vi v30)), some (.row 2 [.agg [eS 1 vi v28, eS 1 vi v29]])]) (.d4 (.d4 (.d4 (.d4 (.d (.k4 (.k3 (.i 14 (vi y40.2) (.i 15 (vi y40.1) .n))))))))) [0, 1] (obRen_row vi_frz rfl (.cons rfl .nil)) ?_
   refine sj ?_
   refine rk 3 (.k3 (.d (.k4 (.k (.i 133 (eS 2 eWantedPart a0) (.i 134 (eS 2 eOfferedPart a1) (.i 135 (.own 0 0 v27) .n))))))) ?_
   obtain ⟨y41, hy41, h⟩ := bs h
   refine jco (.tup [vi y41.2, vi y41.1]) 136 [133, 134, 135] (agrafferef08_CheckMatch_2_ok n a0 a1 v30 0 v27 y41 hy41) [0] rfl (.same (row_ren vi_frz _ _ _) .nil) (.same (row_ren vi_frz _ _ _) .nil) rfl ?_
   refine jk 5 (.d (.k4 (.k4 (.i 16 (vi y41.2) (.i 17 (vi y41.1) .n))))) ?_
   refine sj ?_
   refine rk 3 (.k2 (.d (.k4 (.k3 (.i 140 (eS 2 eWantedPart a0) (.i 141 (eS 2 eOfferedPart a1) (.i 142 (.agg [eS 1 vi v28, eS 1 vi v29]) .n))))))) ?_
   obtain ⟨y42, hy42, h⟩ := bs h
   refine jc 143 [140, 141, 142] (agrafferef08_CheckCover_ok n a0 a1 (Arr2_ListInt.mk v28 v29) y42 hy42) ?_
   refine jk 5 (.d (.k4 (.k4 (.k (.i 18 (vi y42.2) (.i 19 (vi y42.1) .n)))))) ?_
   refine sj ?_
   refine rk 2 (.d2 (.k4 (.k4 (.k (.i 146 (eS 2 eWantedPart a0) (.i 147 (eS 2 eOfferedPart a1) .n)))))) ?_
   obtain ⟨y43, hy43, h⟩ := bs h
   refine jc 148 [146, 147] (agrafferef08_Most_ok n a0 a1 y43 hy43) ?_
   refine jk 1 (.d (.k4 (.k4 (.k (.i 20 (vi y43) .n))))) ?_
   refine sj ?_
   refine rk 3 (.d (.k4 (.k4 (.k (.i 151 (vb true) .n))))) ?_
   refine gj (vi y35.1) 152 (.mov 13) 151 true rfl ?_
   refine gk (vb (y35.1 == (0 : Int))) 153 (.bin .eql false 152 (ki 0)) 151 true rfl (fun hg => (.cons hg (.cons rfl .nil))) ?_
   refine pa 154 151 153 rfl rfl ?_
   refine rk 1 (.d3 (.k (.d (.k4 (.k3 (.i 155 (vb (true && (y35.1 == (0 : Int)))) .n)))))) ?_
   refine gj (vi y40.1) 156 (.mov 15) 155 true rfl ?_
   refine gk (vb (y40.1 == (0 : Int))) 157 (.bin .eql false 156 (ki 0)) 155 true rfl (fun hg => (.cons hg (.cons rfl .nil))) ?_
   refine pa 158 155 157 rfl rfl ?_
   refine rk 1 (.d3 (.k2 (.d (.k4 (.k (.i 159 (vb ((true && (y35.1 == (0 : Int))) && (y40.1 == (0 : Int)))) .n)))))) ?_
   refine gj (vi y41.1) 160 (.mov 17) 159 true rfl ?_
   refine gk (vb (y41.1 == (0 : Int))) 161 (.bin .eql false 160 (ki 0)) 159 true rfl (fun hg => (.cons hg (.cons rfl .nil))) ?_
   refine pa 162 159 161 rfl rfl ?_
   refine rk 1 (.d3 (.k3 (.d (.k3 (.i 163 (vb (((true && (y35.1 == (0 : Int))) && (y40.1 == (0 : Int))) && (y41.1 == (0 : Int)))) .n))))) ?_
   refine gj (vi y42.1) 164 (.mov 19) 163 true rfl ?_
   refine gk (vb (y42.1 == (0 : Int))) 165 (.bin .eql false 164 (ki 0)) 163 true rfl (fun hg => (.cons hg (.cons rfl .nil))) ?_
   refine pa 166 163 165 rfl rfl ?_
   refine rk 1 (.d3 (.k4 (.d (.k (.i 167 (vb ((((true && (y35.1 == (0 : Int))) && (y40.1 == (0 : Int))) && (y41.1 == (0 : Int))) && (y42.1 == (0 : Int)))) .n))))) ?_
   refine gj (vi y35.2) 168 (.mov 12) 167 true rfl ?_
   refine gj (vi y43) 169 (.mov 20) 167 true rfl ?_
   refine gk (vb (y35.2 == y43)) 170 (.bin .eql false 168 169) 167 true rfl (fun hg => (.cons hg (.cons hg .nil))) ?_
   refine pa 171 167 170 rfl rfl ?_
   refine rk 1 (.d4 (.d (.k4 (.i 172 (vb (((((true && (y35.1 == (0 : Int))) && (y40.1 == (0 : Int))) && (y41.1 == (0 : Int))) && (y42.1 == (0 : Int))) && (y35.2 == y43))) .n)))) ?_
   refine gj (vi y40.2) 173 (.mov 14) 172 true rfl ?_
   refine gj (vi y43) 174 (.mov 20) 172 true rfl ?_
   refine gk (vb (y40.2 == y43)) 175 (.bin .eql false 173 174) 172 true rfl (fun hg => (.cons hg (.cons hg .nil))) ?_
   refine pa 176 172 175 rfl rfl ?_
   refine rk 1 (.d4 (.d (.k3 (.i 177 (vb ((((((true && (y35.1 == (0 : Int))) && (y40.1 == (0 : Int))) && (y41.1 == (0 : Int))) && (y42.1 == (0 : Int))) && (y35.2 == y43)) && (y40.2 == y43))) .n)))) ?_
   refine gj (vi y41.2) 178 (.mov 16) 177 true rfl ?_
   refine gj (vi y43) 179 (.mov 20) 177 true rfl ?_
   refine gk (vb (y41.2 == y43)) 180 (.bin .eql false 178 179) 177 true rfl (fun hg => (.cons hg (.cons hg .nil))) ?_
   refine pa 181 177 180 rfl rfl ?_
   refine rk 1 (.d4 (.d (.k2 (.i 182 (vb (((((((true && (y35.1 == (0 : Int))) && (y40.1 == (0 : Int))) && (y41.1 == (0 : Int))) && (y42.1 == (0 : Int))) && (y35.2 == y43)) && (y40.2 == y43)) && (y41.2 == y43))) .n)))) ?_
   refine gj (vi y42.2) 183 (.mov 18) 182 true rfl ?_
   refine gj (vi y43) 184 (.mov 20) 182 true rfl ?_
   refine gk (vb (y42.2 == y43)) 185 (.bin .eql false 183 184) 182 true rfl (fun hg => (.cons hg (.cons hg .nil))) ?_
   refine pa 186 182 185 rfl rfl ?_
   refine jk 1 (.i 4 (vb ((((((((true && (y35.1 == (0 : Int))) && (y40.1 == (0 : Int))) && (y41.1 == (0 : Int))) && (y42.1 == (0 : Int))) && (y35.2 == y43)) && (y40.2 == y43)) && (y41.2 == y43)) && (y42.2 == y43))) .n) ?_
   refine q3 ?_
   have h := si h
   subst h
   exact DoneS.ret (S' := ⟨[(4, vb ((((((((true && (y35.1 == (0 : Int))) && (y40.1 == (0 : Int))) && (y41.1 == (0 : Int))) && (y42.1 == (0 : Int))) && (y35.2 == y43)) && (y40.2 == y43)) && (y41.2 == y43)) && (y42.2 == y43)))], []⟩) (sc [] (by decide) (by kernel_rfl) ObRen.nil rfl rfl) rfl rfl
  intro k2 k3 h
  refine q6 ?_
  refine rk 1 (.k2 (.i 78 (eS 2 eWantedPart a0) .n)) ?_
  obtain ⟨y8, hy8, h⟩ := bs h
  refine jc 79 [78] (agraffelaw08_wanted_ok n a0 y8 hy8) ?_
  refine rk 1 (.d (.k2 (.i 79 (eS 2 eWantedPart y8) (.i 80 (eS 2 eOfferedPart a1) .n)))) ?_
  obtain ⟨y9, hy9, h⟩ := bs h
  refine jc 81 [80] (agraffelaw08_offered_ok n a1 y9 hy9) ?_
  obtain ⟨y10, hy10, h⟩ := bs h
  rcases y10 with y10 | y10
  ·dsimp only at h
   refine jc 82 [79, 81] (restore_Match_ok n y8 y9 (Sum.inl y10) hy10) ?_
   refine jko 8 (.d2 (.k2 (.i 9 (.ptr 0 0 0) (.i 8 .emp (.i 10 (vi y10) .n))))) [some (.row 2 [.agg [.emp, .emp]])] ?_
   exact Vs.intro Sees.refl (.inl ⟨y10, rfl, h⟩)
  dsimp only at h
  refine jco (.tup [.own 0 0 y10.1, .agg [eS 1 vi y10.2.1, eS 1 vi y10.2.2.1], vi 0]) 82 [79, 81] (restore_Match_ok n y8 y9 (Sum.inr y10) hy10) [] rfl ObsRen.nil (.same (row_ren vi_frz _ _ _) .nil) rfl ?_
  refine jko 8 (.d2 (.k2 (.i 9 (.ptr 1 0 0) (.i 8 (.own 0 0 y10.1) (.i 10 (vi 0) .n))))) [some (.row 1 (List.map vi y10.2.2.2)), some (.row 2 [.agg [eS 1 vi y10.2.1, eS 1 vi y10.2.2.1]])] ?_
  exact Vs.intro Sees.refl (.inr ⟨(y10.1, y10.2.1, y10.2.2.1, y10.2.2.2), rfl, h⟩)
 intro k1 h
 refine sj ?_
 refine rk 1 (.k2 (.i 27 (eS 2 eWantedPart a0) .n)) ?_
 refine jo 28 (.len 0 27) (ok_len_m rfl) ?_
 refine jo 29 (.bin .gtr false 28 (ki 0)) (n_gtr (i := a0.length) (j := 0) rfl rfl) ?_
 refine rk 1 (.d2 (.k2 (.i 30 (vb (decide (0 < a0.length))) .n))) ?_
 refine gj (eS 2 eOfferedPart a1) 31 (.mov 1) 30 true rfl ?_
 refine gv 32 (.len 0 31) 30 true rfl (fun hg => (ok_len_m rfl)) (fun hg => (.cons hg .nil)) ?_
 refine gv 33 (.bin .gtr false 32 (ki 0)) 30 true rfl (fun hg => (n_gtr (i := a1.length) (j := 0) rfl rfl)) (fun hg => (.cons hg (.cons rfl .nil))) ?_
 refine pa 34 30 33 rfl rfl ?_
 refine jf (.d4 (.k2 (.i 34 (vb ((decide (0 < a0.length)) && (decide (0 < a1.length)))) .n))) ?_
 refine tc h (fun c3 h => ?_) (fun c3 h => ?_)
 ·refine q1 ?_
  refine ts (.k2 .n) ?_
  refine TriE.draw (by kernel_rfl) ?_
  refine dk 1 (.i 36 (eS 2 eWantedPart a0) .a) ?_
  obtain ⟨y3, hy3, h⟩ := bs h
  refine dc (eS 2 eWantedPart y3) 0 37 [36] (agraffelaw08_wanted_ok n a0 y3 hy3) [] rfl ObsRen.nil ObsRen.nil rfl (.inr ⟨rfl, rfl⟩) ?_
  obtain ⟨c4, h⟩ := ck h
  refine dp 38 (.iaddr 2 37 (ki 0)) (ok_iaddr_m (j := 0) rfl rfl rfl c4) ?_
  refine dp 39 (.load true 2 38) (ok_load_fm (v := .agg [vt ((ix y3 0).Name), eS 2 eRange ((ix y3 0).Ranges)]) rfl c4 rfl) ?_
  refine dk 1 (.i 40 (eS 2 eOfferedPart a1) .a) ?_
  obtain ⟨y4, hy4, h⟩ := bs h
  refine dc (eS 2 eOfferedPart y4) 0 41 [40] (agraffelaw08_offered_ok n a1 y4 hy4) [] rfl ObsRen.nil ObsRen.nil rfl (.inr ⟨rfl, rfl⟩) ?_
  obtain ⟨c5, h⟩ := ck h
  refine dp 42 (.iaddr 2 41 (ki 0)) (ok_iaddr_m (j := 0) rfl rfl rfl c5) ?_
  refine dp 43 (.load true 2 42) (ok_load_fm (v := .agg [vt ((ix y4 0).Name), eS 1 vi ((ix y4 0).Sizes)]) rfl c5 rfl) ?_
  obtain ⟨y5, hy5, h⟩ := bs h
  refine dc (.tup [vb y5.2, vi y5.1]) 0 44 [39, 43] (restore_Fits_ok n (ix y3 0) (ix y4 0) y5 hy5) [] rfl ObsRen.nil ObsRen.nil rfl (.inr ⟨rfl, rfl⟩) ?_
  refine dk 5 (.i 6 (vi y5.1) (.i 5 (vb y5.2) (.i 46 (vi y5.1) (.i 45 (vb y5.2) (.i 35 (.tup [vb y5.2, vi y5.1]) .a))))) ?_
  refine dfi (.d4 (.d4 (.d4 (.d2 (.k2 (.i 5 (vb y5.2) (.i 6 (vi y5.1) .n))))))) [] ObRen.nil ?_
  refine q1 ?_
  refine ts .a ?_
  refine TriE.draw (by kernel_rfl) ?_
  refine dk 1 (.i 47 (eS 2 eWantedPart a0) .a) ?_
  obtain ⟨c6, h⟩ := ck h
  refine dp 48 (.slc 2 47 none (some (ki 1)) none) (ok_slc_hi (j := 1) rfl rfl rfl c6) ?_
  refine dk 1 (.i 49 (eS 2 eOfferedPart a1) .a) ?_
  obtain ⟨c7, h⟩ := ck h
  refine dp 50 (.slc 2 49 none (some (ki 1)) none) (ok_slc_hi (j := 1) rfl rfl rfl c7) ?_
  obtain ⟨y6, hy6, h⟩ := bs h
  refine dc (vi y6) 0 51 [48, 50] (agrafferef08_CheckBoth_ok n (List.take 1 a0) (List.take 1 a1) y6 hy6) [] rfl ObsRen.nil ObsRen.nil rfl (.inr ⟨rfl, rfl⟩) ?_
  refine dk 1 (.i 7 (vi y6) .a) ?_
  refine dfi (.d4 (.d2 (.k4 (.i 7 (vi y6) .n)))) [] ObRen.nil ?_
  refine q1 ?_
  refine ts .a ?_
  refine TriE.draw (by kernel_rfl) ?_
  refine dk 4 (.i 55 (vb (y5.1 != y6)) (.i 54 (vb (y5.1 != y6)) (.i 53 (vi y6) (.i 52 (vi y5.1) .a)))) ?_
  refine gd (!(y5.1 != y6)) (vi y6) 56 (.mov 7) 55 false rfl (fun hg => (.cons rfl .nil)) ?_
  refine gd (!(y5.1 != y6)) (vb (y6 != (0 : Int))) 57 (.bin .neq false 56 (ki 0)) 55 false rfl (fun hg => (.cons hg (.cons rfl .nil))) ?_
  refine gd (!(y5.1 != y6)) (vb (y6 != (0 : Int))) 58 (.mov 57) 55 false rfl (fun hg => (.cons hg .nil)) ?_
  refine gd ((!(y5.1 != y6)) && (y6 != (0 : Int))) (vb y5.2) 59 (.mov 5) 58 true rfl (fun hg => (.cons rfl .nil)) ?_
  refine RegD.op (OpD.andg (g := !(y5.1 != y6)) (cy (IG 60 (.pick 58 59 (.c (.p (.bool false)))) 55 false)) rfl rfl rfl (fun hg => by first | exact hokA2 hg | exact hokA3 hg | exact hokA1 | exact hokA0 | (rw [hg]; simp) | simp_all)) ?_
  refine RegD.op (OpD.or (cy (I0 61 (.pick 55 (.c (.p (.bool true))) 60))) rfl rfl (by first | exact hokO1 | exact hokO0 | simp)) ?_
  refine dk 1 (.i 62 (vb ((y5.1 != y6) || ((y6 != (0 : Int)) && y5.2))) (.i 61 (vb ((y5.1 != y6) || ((y6 != (0 : Int)) && y5.2))) (.i 60 (.cond (!(y5.1 != y6)) (vb ((y6 != (0 : Int)) && y5.2))) (.d2 .a)))) ?_
  refine gd (!((y5.1 != y6) || ((y6 != (0 : Int)) && y5.2))) (vi y6) 63 (.mov 7) 62 false rfl (fun hg => (.cons rfl .nil)) ?_
  refine gd (!((y5.1 != y6) || ((y6 != (0 : Int)) && y5.2))) (vb (y6 == (0 : Int))) 64 (.bin .eql false 63 (ki 0)) 62 false rfl (fun hg => (.cons hg (.cons rfl .nil))) ?_
  refine gd (!((y5.1 != y6) || ((y6 != (0 : Int)) && y5.2))) (vb (y6 == (0 : Int))) 65 (.mov 64) 62 false rfl (fun hg => (.cons hg .nil)) ?_
  refine gd ((!((y5.1 != y6) || ((y6 != (0 : Int)) && y5.2))) && (y6 == (0 : Int))) (vb y5.2) 66 (.mov 5) 65 true rfl (fun hg => (.cons rfl .nil)) ?_
  refine gd ((!((y5.1 != y6) || ((y6 != (0 : Int)) && y5.2))) && (y6 == (0 : Int))) (eS 2 eWantedPart a0) 67 (.mov 0) 65 true rfl (fun hg => (.cons rfl .nil)) ?_
  obtain ⟨c8, h⟩ := ck h
  refine gu ((!((y5.1 != y6) || ((y6 != (0 : Int)) && y5.2))) && (y6 == (0 : Int))) 68 (.iaddr 2 67 (ki 0)) 65 true rfl (fun hg => (ok_iaddr_m (j := 0) rfl rfl rfl (gor c8 hg))) (fun hg => (.cons hg (.cons rfl .nil))) ?_
  obtain ⟨c9, h⟩ := ck h
  refine gu ((!((y5.1 != y6) || ((y6 != (0 : Int)) && y5.2))) && (y6 == (0 : Int))) 69 (.load true 2 68) 65 true rfl (fun hg => (ok_load_fm (v := .agg [vt ((ix a0 0).Name), eS 2 eRange ((ix a0 0).Ranges)]) rfl (gor c9 hg) rfl)) (fun hg => (.cons hg .nil)) ?_
  refine gd ((!((y5.1 != y6) || ((y6 != (0 : Int)) && y5.2))) && (y6 == (0 : Int))) (eS 2 eOfferedPart a1) 70 (.mov 1) 65 true rfl (fun hg => (.cons rfl .nil)) ?_
  obtain ⟨c10, h⟩ := ck h
  refine gu ((!((y5.1 != y6) || ((y6 != (0 : Int)) && y5.2))) && (y6 == (0 : Int))) 71 (.iaddr 2 70 (ki 0)) 65 true rfl (fun hg => (ok_iaddr_m (j := 0) rfl rfl rfl (gor c10 hg))) (fun hg => (.cons hg (.cons rfl .nil))) ?_
  obtain ⟨c11, h⟩ := ck h
  refine gu ((!((y5.1 != y6) || ((y6 != (0 : Int)) && y5.2))) && (y6 == (0 : Int))) 72 (.load true 2 71) 65 true rfl (fun hg => (ok_load_fm (v := .agg [vt ((ix a1 0).Name), eS 1 vi ((ix a1 0).Sizes)]) rfl (gor c11 hg) rfl)) (fun hg => (.cons hg .nil)) ?_
  obtain ⟨y7, hy7, h⟩ := bs h
  refine du ((!((y5.1 != y6) || ((y6 != (0 : Int)) && y5.2))) && (y6 == (0 : Int))) 73 [69, 72] 65 true rfl (fun hg => agrafferef08_Fits_ok n (ix a0 0) (ix a1 0) y7 (gcall_some hy7 hg)) (fun hg => (.cons rfl (.cons hg (.cons hg .nil)))) (fun hg => by kernel_rfl) ?_
  refine gd ((!((y5.1 != y6) || ((y6 != (0 : Int)) && y5.2))) && (y6 == (0 : Int))) (vb (!(y5.2 == y7))) 74 (.bin .neq true 66 73) 65 true rfl (fun hg => (.cons hg (.cons hg .nil))) ?_
  refine RegD.op (OpD.andg (g := !((y5.1 != y6) || ((y6 != (0 : Int)) && y5.2))) (cy (IG 75 (.pick 65 74 (.c (.p (.bool false)))) 62 false)) rfl rfl rfl (fun hg => by first | exact hokA2 hg | exact hokA3 hg | exact hokA1 | exact hokA0 | (rw [hg]; simp) | simp_all)) ?_
  refine RegD.op (OpD.or (cy (I0 76 (.pick 62 (.c (.p (.bool true))) 75))) rfl rfl (by first | exact hokO1 | exact hokO0 | simp)) ?_
  refine dfi (.d4 (.d4 (.d4 (.d4 (.d4 (.d4 (.d (.k2 (.i 76 (vb (((y5.1 != y6) || ((y6 != (0 : Int)) && y5.2)) || ((y6 == (0 : Int)) && (!(y5.2 == y7))))) .n))))))))) [] ObRen.nil ?_
  refine tc h (fun c12 h => ?_) (fun c12 h => ?_)
  ·refine sk (.i 4 (vb false) .n) ?_
   refine q3 ?_
   have h := si h
   subst h
   exact DoneS.ret Sees.refl rfl rfl
  refine q2 ?_
  exact Vs.intro sy ⟨(), rfl, h⟩
 refine q2 ?_
 exact Vs.intro sy ⟨(), rfl, h⟩
end Go.Proofs.YtifabpmjiphhdaaGreat.As
