/- The code computes what the plain functions say, part 3: no condition. -/
import Derived.Test.YtcdcpambkdlhjaaGreatWalk2
namespace Go.Proofs.YtcdcpambkdlhjaaGreat.As
open Go Go.Proofs
set_option maxRecDepth 4000
theorem agraffelaw08_wire_ok (n : Nat) (a0 : List Coil) (a1 : List WirePiece) (r : Bool) (h : agraffelaw08_wire n a0 a1 = some r) : FnL Tryz.prog 27 [eS 3 eCoil a0, eS 3 eWirePiece a1] [] (vb r) [] := by
  dsimp only [agraffelaw08_wire] at h
  refine FnL.ofS (ts := [4]) Tryz.call27 Tryz.func27 rfl rfl (Nat.le_of_ble_eq_true rfl) (Nat.le_of_ble_eq_true rfl) (fun j h => absurd h (Nat.not_lt_zero j)) ?_
  refine sr [(0, eS 3 eCoil a0), (1, eS 3 eWirePiece a1)] [] ?_
  refine TriE.seq ?_
  refine sj ?_
  refine rn 1 [(0, eS 3 eCoil a0), (1, eS 3 eWirePiece a1), (6, eS 3 eCoil a0)] [] ?_
  refine jv (vi (a0.length : Int)) (cy (I0 7 (.len 0 (.t 6)))) (ok_len_m rfl) rfl ?_
  refine jv (vb (decide (6 < a0.length))) (cy (I0 8 (.bin .gtr false (.t 7) (.c (.p (.int .i64 6)))))) (n_gtr (i := a0.length) (j := 6) rfl rfl) rfl ?_
  refine rn 1 [(0, eS 3 eCoil a0), (1, eS 3 eWirePiece a1), (9, vb (decide (6 < a0.length)))] [] ?_
  refine RegJ.op (Op1.valk (v := eS 3 eCoil a0) _ _ (cy (IG 10 (.mov (.t 0)) 9 true)) rfl (by kernel_rfl) (fun hg => (.cons rfl .nil))) ?_
  refine RegJ.op (Op1.valg (v := vi (a0.length : Int)) _ _ (cy (IG 11 (.len 0 (.t 10)) 9 true)) rfl (fun hg => (ok_len_m rfl)) (fun hg => (.cons hg .nil))) ?_
  refine RegJ.op (Op1.valg (v := vb (decide (a0.length ≤ 40))) _ _ (cy (IG 12 (.bin .leq false (.t 11) (.c (.p (.int .i64 40)))) 9 true)) rfl (fun hg => (n_leq (i := a0.length) (j := 40) rfl rfl)) (fun hg => (.cons hg (.cons rfl .nil)))) ?_
  refine RegJ.op (Op1.and (cy (I0 13 (.pick (.t 9) (.t 12) (.c (.p (.bool false)))))) rfl rfl (by first | exact hokA1 | exact hokA0 | simp)) ?_
  refine rn 1 [(0, eS 3 eCoil a0), (1, eS 3 eWirePiece a1), (14, vb ((decide (6 < a0.length)) && (decide (a0.length ≤ 40))))] [] ?_
  refine RegJ.op (Op1.valk (v := eS 3 eCoil a0) _ _ (cy (IG 15 (.mov (.t 0)) 14 false)) rfl (by kernel_rfl) (fun hg => (.cons rfl .nil))) ?_
  refine RegJ.op (Op1.valg (v := vi (a0.length : Int)) _ _ (cy (IG 16 (.len 0 (.t 15)) 14 false)) rfl (fun hg => (ok_len_m rfl)) (fun hg => (.cons hg .nil))) ?_
  refine RegJ.op (Op1.valg (v := vb (decide (43 < a0.length))) _ _ (cy (IG 17 (.bin .gtr false (.t 16) (.c (.p (.int .i64 43)))) 14 false)) rfl (fun hg => (n_gtr (i := a0.length) (j := 43) rfl rfl)) (fun hg => (.cons hg (.cons rfl .nil)))) ?_
  refine RegJ.op (Op1.or (cy (I0 18 (.pick (.t 14) (.c (.p (.bool true))) (.t 17)))) rfl rfl (by first | exact hokO1 | exact hokO0 | simp)) ?_
  refine rn 1 [(0, eS 3 eCoil a0), (1, eS 3 eWirePiece a1), (19, vb (((decide (6 < a0.length)) && (decide (a0.length ≤ 40))) || (decide (43 < a0.length))))] [] ?_
  refine RegJ.op (Op1.valk (v := eS 3 eWirePiece a1) _ _ (cy (IG 20 (.mov (.t 1)) 19 false)) rfl (by kernel_rfl) (fun hg => (.cons rfl .nil))) ?_
  refine RegJ.op (Op1.valg (v := vi (a1.length : Int)) _ _ (cy (IG 21 (.len 0 (.t 20)) 19 false)) rfl (fun hg => (ok_len_m rfl)) (fun hg => (.cons hg .nil))) ?_
  refine RegJ.op (Op1.valg (v := vb (decide (6 < a1.length))) _ _ (cy (IG 22 (.bin .gtr false (.t 21) (.c (.p (.int .i64 6)))) 19 false)) rfl (fun hg => (n_gtr (i := a1.length) (j := 6) rfl rfl)) (fun hg => (.cons hg (.cons rfl .nil)))) ?_
  refine RegJ.op (Op1.valk (v := vb (decide (6 < a1.length))) _ _ (cy (IG 23 (.mov (.t 22)) 19 false)) rfl (by kernel_rfl) (fun hg => (.cons hg .nil))) ?_
  refine RegJ.op (Op1.valk (v := eS 3 eWirePiece a1) _ _ (cy (IG 24 (.mov (.t 1)) 23 true)) rfl (by kernel_rfl) (fun hg => (.cons rfl .nil))) ?_
  refine RegJ.op (Op1.valg (v := vi (a1.length : Int)) _ _ (cy (IG 25 (.len 0 (.t 24)) 23 true)) rfl (fun hg => (ok_len_m rfl)) (fun hg => (.cons hg .nil))) ?_
  refine RegJ.op (Op1.valg (v := vb (decide (a1.length ≤ 60))) _ _ (cy (IG 26 (.bin .leq false (.t 25) (.c (.p (.int .i64 60)))) 23 true)) rfl (fun hg => (n_leq (i := a1.length) (j := 60) rfl rfl)) (fun hg => (.cons hg (.cons rfl .nil)))) ?_
  refine RegJ.op (Op1.andg (g := !(((decide (6 < a0.length)) && (decide (a0.length ≤ 40))) || (decide (43 < a0.length)))) (cy (IG 27 (.pick (.t 23) (.t 26) (.c (.p (.bool false)))) 19 false)) rfl rfl rfl (fun hg => by first | exact hokA2 hg | exact hokA3 hg | exact hokA1 | exact hokA0 | (rw [hg]; simp) | simp_all)) ?_
  refine RegJ.op (Op1.or (cy (I0 28 (.pick (.t 19) (.c (.p (.bool true))) (.t 27)))) rfl rfl (by first | exact hokO1 | exact hokO0 | simp)) ?_
  refine rn 1 [(0, eS 3 eCoil a0), (1, eS 3 eWirePiece a1), (29, vb ((((decide (6 < a0.length)) && (decide (a0.length ≤ 40))) || (decide (43 < a0.length))) || ((decide (6 < a1.length)) && (decide (a1.length ≤ 60)))))] [] ?_
  refine RegJ.op (Op1.valk (v := eS 3 eWirePiece a1) _ _ (cy (IG 30 (.mov (.t 1)) 29 false)) rfl (by kernel_rfl) (fun hg => (.cons rfl .nil))) ?_
  refine RegJ.op (Op1.valg (v := vi (a1.length : Int)) _ _ (cy (IG 31 (.len 0 (.t 30)) 29 false)) rfl (fun hg => (ok_len_m rfl)) (fun hg => (.cons hg .nil))) ?_
  refine RegJ.op (Op1.valg (v := vb (decide (63 < a1.length))) _ _ (cy (IG 32 (.bin .gtr false (.t 31) (.c (.p (.int .i64 63)))) 29 false)) rfl (fun hg => (n_gtr (i := a1.length) (j := 63) rfl rfl)) (fun hg => (.cons hg (.cons rfl .nil)))) ?_
  refine RegJ.op (Op1.or (cy (I0 33 (.pick (.t 29) (.c (.p (.bool true))) (.t 32)))) rfl rfl (by first | exact hokO1 | exact hokO0 | simp)) ?_
  refine jp [(0, eS 3 eCoil a0), (33, vb (((((decide (6 < a0.length)) && (decide (a0.length ≤ 40))) || (decide (43 < a0.length))) || ((decide (6 < a1.length)) && (decide (a1.length ≤ 60)))) || (decide (63 < a1.length))))] ?_
  refine TriE.cond (b := ((((decide (6 < a0.length)) && (decide (a0.length ≤ 40))) || (decide (43 < a0.length))) || ((decide (6 < a1.length)) && (decide (a1.length ≤ 60)))) || (decide (63 < a1.length))) rfl (fun c1 => ?_) (fun c1 => ?_)
  · have h := cond_t h c1
    refine sr [(4, vb false)] [] ?_
    refine TriE.ret ?_
    have h := Option.some.inj h
    subst h
    exact DoneS.ret (S' := ⟨[(4, vb false)], []⟩) Sees.refl rfl rfl
  have h := cond_f h c1
  refine TriE.skip ?_
  refine TriE.seqK h (fun (_ : Unit) => St.mk [] []) ?_ ?_
  · rintro ⟨⟩ h
    refine sr [(4, vb true)] [] ?_
    refine TriE.ret ?_
    have h := Option.some.inj h
    subst h
    exact DoneS.ret (S' := ⟨[(4, vb true)], []⟩) Sees.refl rfl rfl
  intro k1 h
  refine sr [(0, eS 3 eCoil a0), (5, vi 0)] [] ?_
  refine TriE.block ?_
  refine TriE.sees (S' := ⟨[(0, eS 3 eCoil a0), (5, vi 0)], []⟩) sy ?_
  refine TriE.loopN h (fun (v1 : Nat) => St.mk [(0, eS 3 eCoil a0), (5, vi v1)] []) rfl ?_
  clear h
  rintro back v1 h
  dsimp only [agraffelaw08_wire_L1] at h
  refine TriE.seq ?_
  refine sj ?_
  refine rn 2 [(0, eS 3 eCoil a0), (5, vi v1), (34, vi v1), (35, eS 3 eCoil a0)] [] ?_
  refine jv (vi (a0.length : Int)) (cy (I0 36 (.len 0 (.t 35)))) (ok_len_m rfl) rfl ?_
  refine jv (vb (decide (v1 < a0.length))) (cy (I0 37 (.bin .lss false (.t 34) (.t 36)))) (n_lss (i := v1) (j := a0.length) rfl rfl) rfl ?_
  refine jp [(0, eS 3 eCoil a0), (5, vi v1), (37, vb (decide (v1 < a0.length)))] ?_
  refine TriE.cond (b := decide (v1 < a0.length)) rfl (fun c2 => ?_) (fun c2 => ?_)
  · have h := cond_t h c2
    refine TriE.skip ?_
    refine TriE.seq ?_
    refine TriE.block ?_
    refine sj ?_
    refine rn 2 [(0, eS 3 eCoil a0), (5, vi v1), (40, eS 3 eCoil a0), (41, vi v1)] [] ?_
    refine jv (.fptr 3 (List.map eCoil a0) v1 0) (cy (I0 42 (.iaddr 3 (.t 40) (.t 41)))) (ok_iaddr_m (j := v1) rfl rfl rfl c2) rfl ?_
    refine rn 1 [(0, eS 3 eCoil a0), (5, vi v1), (43, .fptr 3 (List.map eCoil a0) v1 0)] [] ?_
    refine jv (vt ((ix a0 v1).Name)) (cy (I0 44 (.load false 1 (.t 43)))) (ok_load_fm (v := vt ((ix a0 v1).Name)) rfl c2 rfl) rfl ?_
    refine jv (vi ((((ix a0 v1).Name).length : Nat) : Int)) (cy (I0 45 (.len 1 (.t 44)))) (ok_len_t rfl) rfl ?_
    refine jv (vb (decide (20 < (((ix a0 v1).Name).length)))) (cy (I0 46 (.bin .gtr false (.t 45) (.c (.p (.int .i64 20)))))) (n_gtr (i := ((ix a0 v1).Name).length) (j := 20) rfl rfl) rfl ?_
    refine jp [(0, eS 3 eCoil a0), (5, vi v1), (46, vb (decide (20 < (((ix a0 v1).Name).length))))] ?_
    refine TriE.cond (b := decide (20 < (((ix a0 v1).Name).length))) rfl (fun c3 => ?_) (fun c3 => ?_)
    · have h := cond_t h c3
      refine sr [(4, vb false)] [] ?_
      refine TriE.ret ?_
      have h := Option.some.inj h
      subst h
      exact DoneS.ret (S' := ⟨[(4, vb false)], []⟩) Sees.refl rfl rfl
    have h := cond_f h c3
    refine TriE.skip ?_
    refine TriE.regJ ?_
    refine rn 1 [(0, eS 3 eCoil a0), (38, vi v1)] [] ?_
    obtain ⟨c4, h⟩ := chk_some h
    refine jv (vi ((v1 + 1 : Nat) : Int)) (cy (I0 39 (.bin .add false (.t 38) (.c (.p (.int .i64 1)))))) (r_addn (i := v1) (j := 1) rfl rfl c4) rfl ?_
    refine jq 1 [(0, eS 3 eCoil a0), (5, vi ((v1 + 1 : Nat) : Int))] [] ?_
    exact Vs.intro sy ⟨(v1 + 1), rfl, h⟩
  have h := cond_f h c2
  refine TriE.exit ?_
  exact Vs.intro sy ⟨(), rfl, h⟩
theorem agraffebase_CopyInts_ok (n : Nat) (a0 : List Int) (r : Unit) (h : agraffebase_CopyInts n a0 = some r) : FnL Tryz.prog 28 [eS 1 vi a0] [] (.own 0 0 a0.length) [some (.row 1 (List.map vi a0))] := by
  dsimp only [agraffebase_CopyInts] at h
  refine FnL.ofS (ts := [2]) Tryz.call28 Tryz.func28 rfl rfl (Nat.le_of_ble_eq_true rfl) (Nat.le_of_ble_eq_true rfl) (fun j h => absurd h (Nat.not_lt_zero j)) ?_
  refine sr [(0, eS 1 vi a0)] [] ?_
  refine sj ?_
  refine rn 2 [(3, .emp), (4, eS 1 vi a0)] [] ?_
  obtain ⟨c1, h⟩ := chk_some h
  refine je (.own 0 0 a0.length) [some (.row 1 (List.map vi a0))] (cy (I0 5 (.app 1 8 (.t 3) (.t 4)))) (ok_app_emp (e := vi) (l := a0) (u := eS 1 vi a0) rfl rfl els_sl c1) rfl rfl rfl ?_
  refine jq 1 [(2, .own 0 0 a0.length)] [some (.row 1 (List.map vi a0))] ?_
  refine TriE.ret ?_
  have h := Option.some.inj h
  subst h
  exact DoneS.ret (S' := ⟨[(2, .own 0 0 a0.length)], [some (.row 1 (List.map vi a0))]⟩) Sees.refl rfl rfl
theorem restore_CheckCuts_ok (n : Nat) (a0 : List Coil) (a1 : List WirePiece) (a2 : List (List Int)) (r : Int × (List Int)) (h : restore_CheckCuts n a0 a1 a2 = some r) : FnL Tryz.prog 30 [eS 3 eCoil a0, eS 3 eWirePiece a1, eS 1 (eS 1 vi) a2] [] (.tup [eS 1 vi r.2, vi r.1]) [] := by
  dsimp only [restore_CheckCuts] at h
  refine FnL.ofS (ts := [6, 7]) Tryz.call30 Tryz.func30 rfl rfl (Nat.le_of_ble_eq_true rfl) (Nat.le_of_ble_eq_true rfl) (fun j h => absurd h (Nat.not_lt_zero j)) ?_
  refine sr [(0, eS 3 eCoil a0), (1, eS 3 eWirePiece a1), (2, eS 1 (eS 1 vi) a2)] [] ?_
  refine TriE.seq ?_
  refine sj ?_
  refine rn 2 [(0, eS 3 eCoil a0), (1, eS 3 eWirePiece a1), (2, eS 1 (eS 1 vi) a2), (18, eS 3 eCoil a0), (19, eS 3 eWirePiece a1)] [] ?_
  obtain ⟨y1, hy1, h⟩ := bind_some h
  refine RegJ.op (Op1.call (y' := vi y1) (obx := []) (oby := []) (ob2 := []) _ _ (cy (I0 20 (.call 98 [(.t 18), (.t 19)]))) rfl (restore_checkWire_ok n a0 a1 y1 hy1) [] (by kernel_rfl) (.cons rfl (.cons rfl (.cons rfl .nil))) (by kernel_rfl) (by kernel_rfl) ObsRen.nil (by kernel_rfl) ObsRen.nil (by kernel_rfl)) ?_
  refine jq 1 [(0, eS 3 eCoil a0), (1, eS 3 eWirePiece a1), (2, eS 1 (eS 1 vi) a2), (8, vi y1)] [] ?_
  refine sr [(0, eS 3 eCoil a0), (1, eS 3 eWirePiece a1), (2, eS 1 (eS 1 vi) a2), (8, vi y1), (22, vb (y1 != (0 : Int)))] [] ?_
  refine TriE.cond (b := (y1 != (0 : Int))) rfl (fun c1 => ?_) (fun c1 => ?_)
  · have h := cond_t h c1
    refine sr [(6, .emp), (7, vi y1)] [] ?_
    refine TriE.ret ?_
    have h := Option.some.inj h
    subst h
    exact DoneS.ret (S' := ⟨[(6, eS 1 vi ([] : List Int)), (7, vi y1)], []⟩) (Sees.trans (Sees.vco (fr' := [(6, eS 1 vi ([] : List Int)), (7, vi y1)]) (.cons .sl (.cons .same .nil))) sy) rfl rfl
  have h := cond_f h c1
  refine TriE.skip ?_
  refine TriE.seq ?_
  refine sj ?_
  refine rn 1 [(0, eS 3 eCoil a0), (1, eS 3 eWirePiece a1), (2, eS 1 (eS 1 vi) a2), (24, eS 1 (eS 1 vi) a2)] [] ?_
  refine jv (vi (a2.length : Int)) (cy (I0 25 (.len 0 (.t 24)))) (ok_len_m rfl) rfl ?_
  refine rn 1 [(0, eS 3 eCoil a0), (1, eS 3 eWirePiece a1), (2, eS 1 (eS 1 vi) a2), (25, vi (a2.length : Int)), (26, eS 3 eWirePiece a1)] [] ?_
  refine jv (vi (a1.length : Int)) (cy (I0 27 (.len 0 (.t 26)))) (ok_len_m rfl) rfl ?_
  refine jv (vb (!decide (a2.length = a1.length))) (cy (I0 28 (.bin .neq false (.t 25) (.t 27)))) (n_neq (i := a2.length) (j := a1.length) rfl rfl) rfl ?_
  refine jp [(0, eS 3 eCoil a0), (1, eS 3 eWirePiece a1), (2, eS 1 (eS 1 vi) a2), (28, vb (!decide (a2.length = a1.length)))] ?_
  refine TriE.cond (b := !decide (a2.length = a1.length)) rfl (fun c2 => ?_) (fun c2 => ?_)
  · have h := cond_t h c2
    refine sr [(6, .emp), (7, vi 10)] [] ?_
    refine TriE.ret ?_
    have h := Option.some.inj h
    subst h
    exact DoneS.ret (S' := ⟨[(6, eS 1 vi ([] : List Int)), (7, vi 10)], []⟩) (Sees.trans (Sees.vco (fr' := [(6, eS 1 vi ([] : List Int)), (7, vi 10)]) (.cons .sl (.cons .same .nil))) sy) rfl rfl
  have h := cond_f h c2
  refine TriE.skip ?_
  refine TriE.seqK h (fun (_ : Unit) => St.mk [(0, eS 3 eCoil a0), (1, eS 3 eWirePiece a1), (2, eS 1 (eS 1 vi) a2)] []) ?_ ?_
  · rintro ⟨⟩ h
    refine sr [(0, eS 3 eCoil a0), (1, eS 3 eWirePiece a1), (2, eS 1 (eS 1 vi) a2), (11, .emp)] [] ?_
    refine TriE.seqK h (fun (v5 : (List Int)) => St.mk [(0, eS 3 eCoil a0), (1, eS 3 eWirePiece a1), (2, eS 1 (eS 1 vi) a2), (11, .own 0 0 v5.length)] [some (.row 1 (List.map vi v5))]) ?_ ?_
    · rintro v5 h
      refine TriE.seqK h (fun (v18 : (List Int)) => St.mk [(11, .own 0 0 v18.length)] [some (.row 1 (List.map vi v18))]) ?_ ?_
      · rintro v18 h
        refine sr [(6, .own 0 0 v18.length), (7, vi 0)] [some (.row 1 (List.map vi v18))] ?_
        refine TriE.ret ?_
        have h := Option.some.inj h
        subst h
        exact DoneS.ret (S' := ⟨[(6, eS 1 vi v18), (7, vi 0)], []⟩) (Sees.trans (Sees.freeze 0 (fr' := [(6, eS 1 vi v18), (7, vi 0)]) (ob' := [none]) rfl (frz_row vi_frzE _) (.cons (frz_full rfl) (.cons (.refl _) .nil)) rfl) (sc [] (by decide) (by kernel_rfl) ObRen.nil rfl rfl)) rfl rfl
      intro k4 h
      refine sj ?_
      refine rn 1 [(0, eS 3 eCoil a0), (2, eS 1 (eS 1 vi) a2), (11, .own 0 0 v5.length), (57, eS 3 eWirePiece a1)] [some (.row 1 (List.map vi v5))] ?_
      refine jv (vi (a1.length : Int)) (cy (I0 58 (.len 0 (.t 57)))) (ok_len_m rfl) rfl ?_
      refine jq 1 [(0, eS 3 eCoil a0), (2, eS 1 (eS 1 vi) a2), (11, .own 0 0 v5.length), (57, eS 3 eWirePiece a1), (58, vi (a1.length : Int)), (59, vi 0)] [some (.row 1 (List.map vi v5))] ?_
      refine TriE.block ?_
      refine TriE.sees (S' := ⟨[(0, eS 3 eCoil a0), (2, eS 1 (eS 1 vi) a2), (11, .own 0 0 v5.length), (57, eS 3 eWirePiece a1), (58, vi (a1.length : Int)), (59, vi 0)], [some (.row 1 (List.map vi v5))]⟩) sy ?_
      refine TriE.loopN h (fun (t : Nat × (List Int)) => match t with | (v11, v12) => St.mk [(0, eS 3 eCoil a0), (2, eS 1 (eS 1 vi) a2), (11, .own 0 0 v12.length), (57, eS 3 eWirePiece a1), (58, vi (a1.length : Int)), (59, vi v11)] [some (.row 1 (List.map vi v12))]) rfl ?_
      clear h
      rintro back ⟨v11, v12⟩ h
      dsimp only [restore_CheckCuts_L4] at h
      refine sj ?_
      refine jv (vb (decide (v11 < a1.length))) (cy (I0 60 (.bin .lss false (.t 59) (.t 58)))) (n_lss (i := v11) (j := a1.length) rfl rfl) rfl ?_
      refine jp [(0, eS 3 eCoil a0), (2, eS 1 (eS 1 vi) a2), (11, .own 0 0 v12.length), (57, eS 3 eWirePiece a1), (58, vi (a1.length : Int)), (59, vi v11), (60, vb (decide (v11 < a1.length)))] ?_
      refine TriE.seq ?_
      refine TriE.cond (b := decide (v11 < a1.length)) rfl (fun c10 => ?_) (fun c10 => ?_)
      · have h := cond_t h c10
        refine TriE.skip ?_
        refine TriE.seqK h (fun (v17 : (List Int)) => St.mk [(0, eS 3 eCoil a0), (2, eS 1 (eS 1 vi) a2), (11, .own 0 0 v17.length), (57, eS 3 eWirePiece a1), (58, vi (a1.length : Int)), (59, vi v11)] [some (.row 1 (List.map vi v17))]) ?_ ?_
        · rintro v17 h
          refine TriE.regJ ?_
          obtain ⟨c24, h⟩ := chk_some h
          refine jv (vi ((v11 + 1 : Nat) : Int)) (cy (I0 106 (.bin .add false (.t 59) (.c (.p (.int .i64 1)))))) (r_addn (i := v11) (j := 1) rfl rfl c24) rfl ?_
          refine jq 1 [(0, eS 3 eCoil a0), (2, eS 1 (eS 1 vi) a2), (11, .own 0 0 v17.length), (57, eS 3 eWirePiece a1), (58, vi (a1.length : Int)), (59, vi ((v11 + 1 : Nat) : Int))] [some (.row 1 (List.map vi v17))] ?_
          exact Vs.intro sy ⟨(v11 + 1, v17), rfl, h⟩
        intro k3 h
        refine TriE.block ?_
        refine sj ?_
        refine rn 1 [(0, eS 3 eCoil a0), (2, eS 1 (eS 1 vi) a2), (11, .own 0 0 v12.length), (57, eS 3 eWirePiece a1), (58, vi (a1.length : Int)), (59, vi v11), (61, vi v11)] [some (.row 1 (List.map vi v12))] ?_
        refine jv (.fptr 3 (List.map eWirePiece a1) v11 0) (cy (I0 62 (.iaddr 3 (.t 57) (.t 59)))) (ok_iaddr_m (j := v11) rfl rfl rfl c10) rfl ?_
        refine jv (.agg [vi ((ix a1 v11).Gauge), vi ((ix a1 v11).Length), vi ((ix a1 v11).Count)]) (cy (I0 63 (.load true 3 (.t 62)))) (ok_load_fm (v := .agg [vi ((ix a1 v11).Gauge), vi ((ix a1 v11).Length), vi ((ix a1 v11).Count)]) rfl c10 rfl) rfl ?_
        refine jq 3 [(0, eS 3 eCoil a0), (2, eS 1 (eS 1 vi) a2), (11, .own 0 0 v12.length), (57, eS 3 eWirePiece a1), (58, vi (a1.length : Int)), (59, vi v11), (15, .ptr 1 0 0), (14, vi v11)] [some (.row 1 (List.map vi v12)), some (.row 3 [.agg [vi ((ix a1 v11).Gauge), vi ((ix a1 v11).Length), vi ((ix a1 v11).Count)]])] ?_
        refine sj ?_
        refine rn 2 [(0, eS 3 eCoil a0), (2, eS 1 (eS 1 vi) a2), (11, .own 0 0 v12.length), (57, eS 3 eWirePiece a1), (58, vi (a1.length : Int)), (59, vi v11), (15, .ptr 1 0 0), (64, eS 1 (eS 1 vi) a2), (65, vi v11)] [some (.row 1 (List.map vi v12)), some (.row 3 [.agg [vi ((ix a1 v11).Gauge), vi ((ix a1 v11).Length), vi ((ix a1 v11).Count)]])] ?_
        obtain ⟨c11, h⟩ := chk_some h
        refine jv (.fptr 1 (List.map (eS 1 vi) a2) v11 0) (cy (I0 66 (.iaddr 1 (.t 64) (.t 65)))) (ok_iaddr_m (j := v11) rfl rfl rfl c11) rfl ?_
        refine jv (eS 1 vi (ix a2 v11)) (cy (I0 67 (.load false 1 (.t 66)))) (ok_load_fm (v := eS 1 vi (ix a2 v11)) rfl c11 rfl) rfl ?_
        refine jv (vi (((ix a2 v11).length : Nat) : Int)) (cy (I0 68 (.len 0 (.t 67)))) (ok_len_m rfl) rfl ?_
        refine jq 1 [(0, eS 3 eCoil a0), (2, eS 1 (eS 1 vi) a2), (11, .own 0 0 v12.length), (57, eS 3 eWirePiece a1), (58, vi (a1.length : Int)), (59, vi v11), (15, .ptr 1 0 0), (67, eS 1 vi (ix a2 v11)), (68, vi (((ix a2 v11).length : Nat) : Int)), (69, vi 0)] [some (.row 1 (List.map vi v12)), some (.row 3 [.agg [vi ((ix a1 v11).Gauge), vi ((ix a1 v11).Length), vi ((ix a1 v11).Count)]])] ?_
        refine TriE.block ?_
        refine TriE.sees (S' := ⟨[(0, eS 3 eCoil a0), (2, eS 1 (eS 1 vi) a2), (11, .own 0 0 v12.length), (57, eS 3 eWirePiece a1), (58, vi (a1.length : Int)), (59, vi v11), (15, .ptr 1 0 0), (67, eS 1 vi (ix a2 v11)), (68, vi (((ix a2 v11).length : Nat) : Int)), (69, vi 0)], [some (.row 1 (List.map vi v12)), some (.row 3 [.agg [vi ((ix a1 v11).Gauge), vi ((ix a1 v11).Length), vi ((ix a1 v11).Count)]])]⟩) sy ?_
        refine TriE.loopN h (fun (t : Nat × (List Int)) => match t with | (v14, v15) => St.mk [(0, eS 3 eCoil a0), (2, eS 1 (eS 1 vi) a2), (11, .own 0 0 v15.length), (57, eS 3 eWirePiece a1), (58, vi (a1.length : Int)), (59, vi v11), (15, .ptr 1 0 0), (67, eS 1 vi (ix a2 v11)), (68, vi (((ix a2 v11).length : Nat) : Int)), (69, vi v14)] [some (.row 1 (List.map vi v15)), some (.row 3 [.agg [vi ((ix a1 v11).Gauge), vi ((ix a1 v11).Length), vi ((ix a1 v11).Count)]])]) rfl ?_
        clear h
        rintro back ⟨v14, v15⟩ h
        dsimp only [restore_CheckCuts_L3] at h
        refine sj ?_
        refine jv (vb (decide (v14 < ((ix a2 v11).length)))) (cy (I0 70 (.bin .lss false (.t 69) (.t 68)))) (n_lss (i := v14) (j := (ix a2 v11).length) rfl rfl) rfl ?_
        refine jp [(0, eS 3 eCoil a0), (2, eS 1 (eS 1 vi) a2), (11, .own 0 0 v15.length), (57, eS 3 eWirePiece a1), (58, vi (a1.length : Int)), (59, vi v11), (15, .ptr 1 0 0), (67, eS 1 vi (ix a2 v11)), (68, vi (((ix a2 v11).length : Nat) : Int)), (69, vi v14), (70, vb (decide (v14 < ((ix a2 v11).length))))] ?_
        refine TriE.seq ?_
        refine TriE.cond (b := decide (v14 < ((ix a2 v11).length))) rfl (fun c12 => ?_) (fun c12 => ?_)
        · have h := cond_t h c12
          refine TriE.skip ?_
          refine TriE.seq ?_
          refine TriE.block ?_
          refine sj ?_
          obtain ⟨c13, h⟩ := chk_some h
          refine jv (.fptr 1 (List.map vi (ix a2 v11)) v14 0) (cy (I0 71 (.iaddr 1 (.t 67) (.t 69)))) (ok_iaddr_m (j := v14) rfl rfl rfl c13) rfl ?_
          refine jv (vi (ix (ix a2 v11) v14)) (cy (I0 72 (.load false 1 (.t 71)))) (ok_load_fm (v := vi (ix (ix a2 v11) v14)) rfl c13 rfl) rfl ?_
          refine jq 1 [(0, eS 3 eCoil a0), (2, eS 1 (eS 1 vi) a2), (11, .own 0 0 v15.length), (57, eS 3 eWirePiece a1), (58, vi (a1.length : Int)), (59, vi v11), (15, .ptr 1 0 0), (67, eS 1 vi (ix a2 v11)), (68, vi (((ix a2 v11).length : Nat) : Int)), (69, vi v14), (17, vi (ix (ix a2 v11) v14))] [some (.row 1 (List.map vi v15)), some (.row 3 [.agg [vi ((ix a1 v11).Gauge), vi ((ix a1 v11).Length), vi ((ix a1 v11).Count)]])] ?_
          refine TriE.seq ?_
          refine TriE.block ?_
          refine sj ?_
          refine rn 2 [(0, eS 3 eCoil a0), (2, eS 1 (eS 1 vi) a2), (11, .own 0 0 v15.length), (57, eS 3 eWirePiece a1), (58, vi (a1.length : Int)), (59, vi v11), (15, .ptr 1 0 0), (67, eS 1 vi (ix a2 v11)), (68, vi (((ix a2 v11).length : Nat) : Int)), (69, vi v14), (17, vi (ix (ix a2 v11) v14)), (74, vi (ix (ix a2 v11) v14)), (75, eS 3 eCoil a0)] [some (.row 1 (List.map vi v15)), some (.row 3 [.agg [vi ((ix a1 v11).Gauge), vi ((ix a1 v11).Length), vi ((ix a1 v11).Count)]])] ?_
          refine jv (vi (a0.length : Int)) (cy (I0 76 (.len 0 (.t 75)))) (ok_len_m rfl) rfl ?_
          obtain ⟨c14, h⟩ := chk_some h
          refine jv (vi ((a0.length : Int) - 1)) (cy (I0 77 (.bin .sub false (.t 76) (.c (.p (.int .i64 1)))))) (r_sub rfl rfl c14) rfl ?_
          obtain ⟨y16, hy16, h⟩ := bind_some h
          refine RegJ.op (Op1.call (y' := vb ((decide (0 ≤ (ix (ix a2 v11) v14))) && (decide ((ix (ix a2 v11) v14) ≤ ((a0.length : Int) - 1))))) (obx := []) (oby := []) (ob2 := [some (.row 1 (List.map vi v15)), some (.row 3 [.agg [vi ((ix a1 v11).Gauge), vi ((ix a1 v11).Length), vi ((ix a1 v11).Count)]])]) _ _ (cy (I0 78 (.call 91 [(.t 74), (.c (.p (.int .i64 0))), (.t 77)]))) rfl (restore_within_ok n (ix (ix a2 v11) v14) 0 ((a0.length : Int) - 1) y16 hy16) [] (by kernel_rfl) (.cons rfl (.cons rfl (.cons rfl (.cons rfl .nil)))) (by kernel_rfl) (by kernel_rfl) ObsRen.nil (by kernel_rfl) ObsRen.nil (by kernel_rfl)) ?_
          refine jq 2 [(0, eS 3 eCoil a0), (2, eS 1 (eS 1 vi) a2), (11, .own 0 0 v15.length), (57, eS 3 eWirePiece a1), (58, vi (a1.length : Int)), (59, vi v11), (15, .ptr 1 0 0), (67, eS 1 vi (ix a2 v11)), (68, vi (((ix a2 v11).length : Nat) : Int)), (69, vi v14), (17, vi (ix (ix a2 v11) v14)), (73, vb (!((decide (0 ≤ (ix (ix a2 v11) v14))) && (decide ((ix (ix a2 v11) v14) ≤ ((a0.length : Int) - 1))))))] [some (.row 1 (List.map vi v15)), some (.row 3 [.agg [vi ((ix a1 v11).Gauge), vi ((ix a1 v11).Length), vi ((ix a1 v11).Count)]])] ?_
          refine TriE.cond (b := !((decide (0 ≤ (ix (ix a2 v11) v14))) && (decide ((ix (ix a2 v11) v14) ≤ ((a0.length : Int) - 1))))) rfl (fun c15 => ?_) (fun c15 => ?_)
          · have h := cond_t h c15
            refine sr [(6, .emp), (7, vi 6)] [some (.row 1 (List.map vi v15)), some (.row 3 [.agg [vi ((ix a1 v11).Gauge), vi ((ix a1 v11).Length), vi ((ix a1 v11).Count)]])] ?_
            refine TriE.ret ?_
            have h := Option.some.inj h
            subst h
            exact DoneS.ret (S' := ⟨[(6, eS 1 vi ([] : List Int)), (7, vi 6)], []⟩) (Sees.trans (Sees.vco (fr' := [(6, eS 1 vi ([] : List Int)), (7, vi 6)]) (.cons .sl (.cons .same .nil))) (sc [] (by decide) (by kernel_rfl) ObRen.nil rfl rfl)) rfl rfl
          have h := cond_f h c15
          refine TriE.seq ?_
          refine TriE.sees (Sees.less (fr' := [(0, eS 3 eCoil a0), (2, eS 1 (eS 1 vi) a2), (11, .own 0 0 v15.length), (57, eS 3 eWirePiece a1), (58, vi (a1.length : Int)), (59, vi v11), (15, .ptr 1 0 0), (67, eS 1 vi (ix a2 v11)), (68, vi (((ix a2 v11).length : Nat) : Int)), (69, vi v14), (17, vi (ix (ix a2 v11) v14))]) (.cons rfl (.cons rfl (.cons rfl (.cons rfl (.cons rfl (.cons rfl (.cons rfl (.cons rfl (.cons rfl (.cons rfl (.cons rfl .nil)))))))))))) ?_
          refine TriE.draw (by kernel_rfl) ?_
          refine RegD.run 2 [(82, vi (ix (ix a2 v11) v14)), (81, eS 3 eCoil a0), (0, eS 3 eCoil a0), (2, eS 1 (eS 1 vi) a2), (11, .own 0 0 v15.length), (57, eS 3 eWirePiece a1), (58, vi (a1.length : Int)), (59, vi v11), (15, .ptr 1 0 0), (67, eS 1 vi (ix a2 v11)), (68, vi (((ix a2 v11).length : Nat) : Int)), (69, vi v14), (17, vi (ix (ix a2 v11) v14))] [some (.row 1 (List.map vi v15)), some (.row 3 [.agg [vi ((ix a1 v11).Gauge), vi ((ix a1 v11).Length), vi ((ix a1 v11).Count)]]), none, none] (by kernel_rfl) ?_
          obtain ⟨c16, h⟩ := chk_some h
          refine dv (.fptr 3 (List.map eCoil a0) ((ix (ix a2 v11) v14).toNat) 0) (cy (I0 83 (.iaddr 3 (.t 81) (.t 82)))) (ok_iaddr_m (j := (ix (ix a2 v11) v14).toNat) rfl rfl (inB_to c16) (inB_lt c16)) rfl ?_
          refine RegD.run 1 [(84, .fptr 3 (List.map eCoil a0) ((ix (ix a2 v11) v14).toNat) 1), (83, .fptr 3 (List.map eCoil a0) ((ix (ix a2 v11) v14).toNat) 0), (82, vi (ix (ix a2 v11) v14)), (81, eS 3 eCoil a0), (0, eS 3 eCoil a0), (2, eS 1 (eS 1 vi) a2), (11, .own 0 0 v15.length), (57, eS 3 eWirePiece a1), (58, vi (a1.length : Int)), (59, vi v11), (15, .ptr 1 0 0), (67, eS 1 vi (ix a2 v11)), (68, vi (((ix a2 v11).length : Nat) : Int)), (69, vi v14), (17, vi (ix (ix a2 v11) v14))] [some (.row 1 (List.map vi v15)), some (.row 3 [.agg [vi ((ix a1 v11).Gauge), vi ((ix a1 v11).Length), vi ((ix a1 v11).Count)]]), none, none, none, none] (by kernel_rfl) ?_
          obtain ⟨c17, h⟩ := chk_some h
          refine dv (vi ((ix a0 ((ix (ix a2 v11) v14).toNat)).Gauge)) (cy (I0 85 (.load false 1 (.t 84)))) (ok_load_fm (v := vi ((ix a0 ((ix (ix a2 v11) v14).toNat)).Gauge)) rfl c17 rfl) rfl ?_
          refine RegD.run 4 [(80, vb (((ix a0 ((ix (ix a2 v11) v14).toNat)).Gauge) != ((ix a1 v11).Gauge))), (88, vb (((ix a0 ((ix (ix a2 v11) v14).toNat)).Gauge) != ((ix a1 v11).Gauge))), (87, vi ((ix a1 v11).Gauge)), (86, .ptr 1 0 0), (85, vi ((ix a0 ((ix (ix a2 v11) v14).toNat)).Gauge)), (84, .fptr 3 (List.map eCoil a0) ((ix (ix a2 v11) v14).toNat) 1), (83, .fptr 3 (List.map eCoil a0) ((ix (ix a2 v11) v14).toNat) 0), (82, vi (ix (ix a2 v11) v14)), (81, eS 3 eCoil a0), (0, eS 3 eCoil a0), (2, eS 1 (eS 1 vi) a2), (11, .own 0 0 v15.length), (57, eS 3 eWirePiece a1), (58, vi (a1.length : Int)), (59, vi v11), (15, .ptr 1 0 0), (67, eS 1 vi (ix a2 v11)), (68, vi (((ix a2 v11).length : Nat) : Int)), (69, vi v14), (17, vi (ix (ix a2 v11) v14))] [some (.row 1 (List.map vi v15)), some (.row 3 [.agg [vi ((ix a1 v11).Gauge), vi ((ix a1 v11).Length), vi ((ix a1 v11).Count)]]), none, none, none, none, none, none, none, none, none] (by kernel_rfl) ?_
          refine RegD.done rfl (by kernel_rfl) (S' := ⟨[(0, eS 3 eCoil a0), (2, eS 1 (eS 1 vi) a2), (11, .own 0 0 v15.length), (57, eS 3 eWirePiece a1), (58, vi (a1.length : Int)), (59, vi v11), (15, .ptr 1 0 0), (67, eS 1 vi (ix a2 v11)), (68, vi (((ix a2 v11).length : Nat) : Int)), (69, vi v14), (17, vi (ix (ix a2 v11) v14)), (80, vb (((ix a0 ((ix (ix a2 v11) v14).toNat)).Gauge) != ((ix a1 v11).Gauge)))], [some (.row 1 (List.map vi v15)), some (.row 3 [.agg [vi ((ix a1 v11).Gauge), vi ((ix a1 v11).Length), vi ((ix a1 v11).Count)]])]⟩) (sc [0, 1] (by decide) (by kernel_rfl) (obRen_row vi_frz rfl (.cons rfl .nil)) rfl rfl) ?_
          refine TriE.cond (b := (((ix a0 ((ix (ix a2 v11) v14).toNat)).Gauge) != ((ix a1 v11).Gauge))) rfl (fun c18 => ?_) (fun c18 => ?_)
          · have h := cond_t h c18
            refine sr [(6, .emp), (7, vi 15)] [some (.row 1 (List.map vi v15)), some (.row 3 [.agg [vi ((ix a1 v11).Gauge), vi ((ix a1 v11).Length), vi ((ix a1 v11).Count)]])] ?_
            refine TriE.ret ?_
            have h := Option.some.inj h
            subst h
            exact DoneS.ret (S' := ⟨[(6, eS 1 vi ([] : List Int)), (7, vi 15)], []⟩) (Sees.trans (Sees.vco (fr' := [(6, eS 1 vi ([] : List Int)), (7, vi 15)]) (.cons .sl (.cons .same .nil))) (sc [] (by decide) (by kernel_rfl) ObRen.nil rfl rfl)) rfl rfl
          have h := cond_f h c18
          refine TriE.seq ?_
          refine TriE.sees (Sees.less (fr' := [(0, eS 3 eCoil a0), (2, eS 1 (eS 1 vi) a2), (11, .own 0 0 v15.length), (57, eS 3 eWirePiece a1), (58, vi (a1.length : Int)), (59, vi v11), (15, .ptr 1 0 0), (67, eS 1 vi (ix a2 v11)), (68, vi (((ix a2 v11).length : Nat) : Int)), (69, vi v14), (17, vi (ix (ix a2 v11) v14))]) (.cons rfl (.cons rfl (.cons rfl (.cons rfl (.cons rfl (.cons rfl (.cons rfl (.cons rfl (.cons rfl (.cons rfl (.cons rfl .nil)))))))))))) ?_
          refine TriE.draw (by kernel_rfl) ?_
          refine RegD.run 2 [(91, vi (ix (ix a2 v11) v14)), (90, .own 0 0 v15.length), (0, eS 3 eCoil a0), (2, eS 1 (eS 1 vi) a2), (11, .own 0 0 v15.length), (57, eS 3 eWirePiece a1), (58, vi (a1.length : Int)), (59, vi v11), (15, .ptr 1 0 0), (67, eS 1 vi (ix a2 v11)), (68, vi (((ix a2 v11).length : Nat) : Int)), (69, vi v14), (17, vi (ix (ix a2 v11) v14))] [some (.row 1 (List.map vi v15)), some (.row 3 [.agg [vi ((ix a1 v11).Gauge), vi ((ix a1 v11).Length), vi ((ix a1 v11).Count)]]), none, none] (by kernel_rfl) ?_
          obtain ⟨c19, h⟩ := chk_some h
          refine dv (.ptr 0 ((ix (ix a2 v11) v14).toNat) 0) (cy (I0 92 (.iaddr 1 (.t 90) (.t 91)))) (ok_iaddr_o0 (j := (ix (ix a2 v11) v14).toNat) rfl rfl rfl (inB_to c19) (inB_lt c19)) rfl ?_
          obtain ⟨c20, h⟩ := chk_some h
          refine dv (vi (ix v15 ((ix (ix a2 v11) v14).toNat))) (cy (I0 93 (.load false 1 (.t 92)))) (ok_load_pm (l := v15) (e := vi) (v := vi (ix v15 ((ix (ix a2 v11) v14).toNat))) rfl rfl c20 rfl) rfl ?_
          refine RegD.run 4 [(89, vb (decide ((ix v15 ((ix (ix a2 v11) v14).toNat)) < ((ix a1 v11).Length)))), (96, vb (decide ((ix v15 ((ix (ix a2 v11) v14).toNat)) < ((ix a1 v11).Length)))), (95, vi ((ix a1 v11).Length)), (94, .ptr 1 0 1), (93, vi (ix v15 ((ix (ix a2 v11) v14).toNat))), (92, .ptr 0 ((ix (ix a2 v11) v14).toNat) 0), (91, vi (ix (ix a2 v11) v14)), (90, .own 0 0 v15.length), (0, eS 3 eCoil a0), (2, eS 1 (eS 1 vi) a2), (11, .own 0 0 v15.length), (57, eS 3 eWirePiece a1), (58, vi (a1.length : Int)), (59, vi v11), (15, .ptr 1 0 0), (67, eS 1 vi (ix a2 v11)), (68, vi (((ix a2 v11).length : Nat) : Int)), (69, vi v14), (17, vi (ix (ix a2 v11) v14))] [some (.row 1 (List.map vi v15)), some (.row 3 [.agg [vi ((ix a1 v11).Gauge), vi ((ix a1 v11).Length), vi ((ix a1 v11).Count)]]), none, none, none, none, none, none, none, none] (by kernel_rfl) ?_
          refine RegD.done rfl (by kernel_rfl) (S' := ⟨[(0, eS 3 eCoil a0), (2, eS 1 (eS 1 vi) a2), (11, .own 0 0 v15.length), (57, eS 3 eWirePiece a1), (58, vi (a1.length : Int)), (59, vi v11), (15, .ptr 1 0 0), (67, eS 1 vi (ix a2 v11)), (68, vi (((ix a2 v11).length : Nat) : Int)), (69, vi v14), (17, vi (ix (ix a2 v11) v14)), (89, vb (decide ((ix v15 ((ix (ix a2 v11) v14).toNat)) < ((ix a1 v11).Length))))], [some (.row 1 (List.map vi v15)), some (.row 3 [.agg [vi ((ix a1 v11).Gauge), vi ((ix a1 v11).Length), vi ((ix a1 v11).Count)]])]⟩) (sc [0, 1] (by decide) (by kernel_rfl) (obRen_row vi_frz rfl (.cons rfl .nil)) rfl rfl) ?_
          refine TriE.cond (b := decide ((ix v15 ((ix (ix a2 v11) v14).toNat)) < ((ix a1 v11).Length))) rfl (fun c21 => ?_) (fun c21 => ?_)
          · have h := cond_t h c21
            refine sr [(6, .emp), (7, vi 20)] [some (.row 1 (List.map vi v15)), some (.row 3 [.agg [vi ((ix a1 v11).Gauge), vi ((ix a1 v11).Length), vi ((ix a1 v11).Count)]])] ?_
            refine TriE.ret ?_
            have h := Option.some.inj h
            subst h
            exact DoneS.ret (S' := ⟨[(6, eS 1 vi ([] : List Int)), (7, vi 20)], []⟩) (Sees.trans (Sees.vco (fr' := [(6, eS 1 vi ([] : List Int)), (7, vi 20)]) (.cons .sl (.cons .same .nil))) (sc [] (by decide) (by kernel_rfl) ObRen.nil rfl rfl)) rfl rfl
          have h := cond_f h c21
          refine TriE.skip ?_
          refine TriE.sees (Sees.less (fr' := [(0, eS 3 eCoil a0), (2, eS 1 (eS 1 vi) a2), (11, .own 0 0 v15.length), (57, eS 3 eWirePiece a1), (58, vi (a1.length : Int)), (59, vi v11), (15, .ptr 1 0 0), (67, eS 1 vi (ix a2 v11)), (68, vi (((ix a2 v11).length : Nat) : Int)), (69, vi v14), (17, vi (ix (ix a2 v11) v14))]) (.cons rfl (.cons rfl (.cons rfl (.cons rfl (.cons rfl (.cons rfl (.cons rfl (.cons rfl (.cons rfl (.cons rfl (.cons rfl .nil)))))))))))) ?_
          refine TriE.draw (by kernel_rfl) ?_
          refine RegD.run 2 [(98, vi (ix (ix a2 v11) v14)), (97, .own 0 0 v15.length), (0, eS 3 eCoil a0), (2, eS 1 (eS 1 vi) a2), (11, .own 0 0 v15.length), (57, eS 3 eWirePiece a1), (58, vi (a1.length : Int)), (59, vi v11), (15, .ptr 1 0 0), (67, eS 1 vi (ix a2 v11)), (68, vi (((ix a2 v11).length : Nat) : Int)), (69, vi v14), (17, vi (ix (ix a2 v11) v14))] [some (.row 1 (List.map vi v15)), some (.row 3 [.agg [vi ((ix a1 v11).Gauge), vi ((ix a1 v11).Length), vi ((ix a1 v11).Count)]]), none, none] (by kernel_rfl) ?_
          refine dv (.ptr 0 ((ix (ix a2 v11) v14).toNat) 0) (cy (I0 99 (.iaddr 1 (.t 97) (.t 98)))) (ok_iaddr_o0 (j := (ix (ix a2 v11) v14).toNat) rfl rfl rfl (inB_to c19) (inB_lt c19)) rfl ?_
          refine dv (vi (ix v15 ((ix (ix a2 v11) v14).toNat))) (cy (I0 100 (.load false 1 (.t 99)))) (ok_load_pm (l := v15) (e := vi) (v := vi (ix v15 ((ix (ix a2 v11) v14).toNat))) rfl rfl c20 rfl) rfl ?_
          refine RegD.run 2 [(102, vi ((ix a1 v11).Length)), (101, .ptr 1 0 1), (100, vi (ix v15 ((ix (ix a2 v11) v14).toNat))), (99, .ptr 0 ((ix (ix a2 v11) v14).toNat) 0), (98, vi (ix (ix a2 v11) v14)), (97, .own 0 0 v15.length), (0, eS 3 eCoil a0), (2, eS 1 (eS 1 vi) a2), (11, .own 0 0 v15.length), (57, eS 3 eWirePiece a1), (58, vi (a1.length : Int)), (59, vi v11), (15, .ptr 1 0 0), (67, eS 1 vi (ix a2 v11)), (68, vi (((ix a2 v11).length : Nat) : Int)), (69, vi v14), (17, vi (ix (ix a2 v11) v14))] [some (.row 1 (List.map vi v15)), some (.row 3 [.agg [vi ((ix a1 v11).Gauge), vi ((ix a1 v11).Length), vi ((ix a1 v11).Count)]]), none, none, none, none, none, none] (by kernel_rfl) ?_
          obtain ⟨c22, h⟩ := chk_some h
          refine dv (vi ((ix v15 ((ix (ix a2 v11) v14).toNat)) - ((ix a1 v11).Length))) (cy (I0 103 (.bin .sub false (.t 100) (.t 102)))) (r_sub rfl rfl c22) rfl ?_
          refine dv (.ptr 0 ((ix (ix a2 v11) v14).toNat) 0) (cy (I0 104 (.iaddr 1 (.t 97) (.t 98)))) (ok_iaddr_o0 (j := (ix (ix a2 v11) v14).toNat) rfl rfl rfl (inB_to c19) (inB_lt c19)) rfl ?_
          refine de (.undef) [some (.row 1 (List.map vi (List.set v15 ((ix (ix a2 v11) v14).toNat) ((ix v15 ((ix (ix a2 v11) v14).toNat)) - ((ix a1 v11).Length))))), some (.row 3 [.agg [vi ((ix a1 v11).Gauge), vi ((ix a1 v11).Length), vi ((ix a1 v11).Count)]]), none, none, none, none, none, none, none, none, none] (cy (IN (.store 1 (.t 104) (.t 103)))) (ok_store_m (l := v15) (e := vi) (x' := (ix v15 ((ix (ix a2 v11) v14).toNat)) - ((ix a1 v11).Length)) (u := vi ((ix v15 ((ix (ix a2 v11) v14).toNat)) - ((ix a1 v11).Length))) rfl rfl rfl c20 rfl rfl) rfl rfl rfl ?_
          refine RegD.done rfl (by kernel_rfl) (S' := ⟨[(0, eS 3 eCoil a0), (2, eS 1 (eS 1 vi) a2), (11, .own 0 0 v15.length), (57, eS 3 eWirePiece a1), (58, vi (a1.length : Int)), (59, vi v11), (15, .ptr 1 0 0), (67, eS 1 vi (ix a2 v11)), (68, vi (((ix a2 v11).length : Nat) : Int)), (69, vi v14)], [some (.row 1 (List.map vi (List.set v15 ((ix (ix a2 v11) v14).toNat) ((ix v15 ((ix (ix a2 v11) v14).toNat)) - ((ix a1 v11).Length))))), some (.row 3 [.agg [vi ((ix a1 v11).Gauge), vi ((ix a1 v11).Length), vi ((ix a1 v11).Count)]])]⟩) (sc [0, 1] (by decide) (by kernel_rfl) (obRen_row vi_frz rfl (.cons rfl .nil)) rfl rfl) ?_
          refine TriE.regJ ?_
          obtain ⟨c23, h⟩ := chk_some h
          refine jv (vi ((v14 + 1 : Nat) : Int)) (cy (I0 105 (.bin .add false (.t 69) (.c (.p (.int .i64 1)))))) (r_addn (i := v14) (j := 1) rfl rfl c23) rfl ?_
          refine jq 1 [(0, eS 3 eCoil a0), (2, eS 1 (eS 1 vi) a2), (11, .own 0 0 v15.length), (57, eS 3 eWirePiece a1), (58, vi (a1.length : Int)), (59, vi v11), (15, .ptr 1 0 0), (67, eS 1 vi (ix a2 v11)), (68, vi (((ix a2 v11).length : Nat) : Int)), (69, vi ((v14 + 1 : Nat) : Int))] [some (.row 1 (List.map vi (List.set v15 ((ix (ix a2 v11) v14).toNat) ((ix v15 ((ix (ix a2 v11) v14).toNat)) - ((ix a1 v11).Length))))), some (.row 3 [.agg [vi ((ix a1 v11).Gauge), vi ((ix a1 v11).Length), vi ((ix a1 v11).Count)]])] ?_
          exact Vs.intro (Sees.less (.cons rfl (.cons rfl (.cons (by simp only [List.length_set]; rfl) (.cons rfl (.cons rfl (.cons rfl (.cons rfl (.cons rfl (.cons rfl (.cons rfl .nil))))))))))) ⟨(v14 + 1, (List.set v15 ((ix (ix a2 v11) v14).toNat) ((ix v15 ((ix (ix a2 v11) v14).toNat)) - ((ix a1 v11).Length)))), rfl, h⟩
        have h := cond_f h c12
        refine TriE.exit ?_
        exact Vs.intro (sc [0] (by decide) (by kernel_rfl) (obRen_row vi_frz rfl .nil) rfl rfl) ⟨v15, rfl, h⟩
      have h := cond_f h c10
      refine TriE.exit ?_
      exact Vs.intro sy ⟨v12, rfl, h⟩
    intro k2 h
    refine sj ?_
    refine rn 1 [(0, eS 3 eCoil a0), (1, eS 3 eWirePiece a1), (2, eS 1 (eS 1 vi) a2), (11, .emp), (45, eS 3 eCoil a0)] [] ?_
    refine jv (vi (a0.length : Int)) (cy (I0 46 (.len 0 (.t 45)))) (ok_len_m rfl) rfl ?_
    refine jq 1 [(0, eS 3 eCoil a0), (1, eS 3 eWirePiece a1), (2, eS 1 (eS 1 vi) a2), (11, .emp), (45, eS 3 eCoil a0), (46, vi (a0.length : Int)), (47, vi 0)] [] ?_
    refine TriE.block ?_
    refine TriE.sees (S' := ⟨[(0, eS 3 eCoil a0), (1, eS 3 eWirePiece a1), (2, eS 1 (eS 1 vi) a2), (11, .own 0 0 ([] : List Int).length), (45, eS 3 eCoil a0), (46, vi (a0.length : Int)), (47, vi 0)], [some (.row 1 (List.map vi ([] : List Int)))]⟩) (Sees.trans (Sees.co (fr' := [(0, eS 3 eCoil a0), (1, eS 3 eWirePiece a1), (2, eS 1 (eS 1 vi) a2), (11, .own 0 0 0), (45, eS 3 eCoil a0), (46, vi (a0.length : Int)), (47, vi 0)]) (ob' := []) (.cons .same (.cons .same (.cons .same (.cons .own (.cons .same (.cons .same (.cons .same .nil))))))) ObCo.nil 1) sy) ?_
    refine TriE.loopN h (fun (t : (List Int) × Nat) => match t with | (v3, v4) => St.mk [(0, eS 3 eCoil a0), (1, eS 3 eWirePiece a1), (2, eS 1 (eS 1 vi) a2), (11, .own 0 0 v3.length), (45, eS 3 eCoil a0), (46, vi (a0.length : Int)), (47, vi v4)] [some (.row 1 (List.map vi v3))]) rfl ?_
    clear h
    rintro back ⟨v3, v4⟩ h
    dsimp only [restore_CheckCuts_L2] at h
    refine sj ?_
    refine jv (vb (decide (v4 < a0.length))) (cy (I0 48 (.bin .lss false (.t 47) (.t 46)))) (n_lss (i := v4) (j := a0.length) rfl rfl) rfl ?_
    refine jp [(0, eS 3 eCoil a0), (1, eS 3 eWirePiece a1), (2, eS 1 (eS 1 vi) a2), (11, .own 0 0 v3.length), (45, eS 3 eCoil a0), (46, vi (a0.length : Int)), (47, vi v4), (48, vb (decide (v4 < a0.length)))] ?_
    refine TriE.seq ?_
    refine TriE.cond (b := decide (v4 < a0.length)) rfl (fun c7 => ?_) (fun c7 => ?_)
    · have h := cond_t h c7
      refine TriE.skip ?_
      refine TriE.seq ?_
      refine TriE.block ?_
      refine sj ?_
      refine jv (.fptr 3 (List.map eCoil a0) v4 0) (cy (I0 49 (.iaddr 3 (.t 45) (.t 47)))) (ok_iaddr_m (j := v4) rfl rfl rfl c7) rfl ?_
      refine jv (.agg [vt ((ix a0 v4).Name), vi ((ix a0 v4).Gauge), vi ((ix a0 v4).Length)]) (cy (I0 50 (.load true 3 (.t 49)))) (ok_load_fm (v := .agg [vt ((ix a0 v4).Name), vi ((ix a0 v4).Gauge), vi ((ix a0 v4).Length)]) rfl c7 rfl) rfl ?_
      refine jq 2 [(0, eS 3 eCoil a0), (1, eS 3 eWirePiece a1), (2, eS 1 (eS 1 vi) a2), (11, .own 0 0 v3.length), (45, eS 3 eCoil a0), (46, vi (a0.length : Int)), (47, vi v4), (13, .ptr 1 0 0)] [some (.row 1 (List.map vi v3)), some (.row 3 [.agg [vt ((ix a0 v4).Name), vi ((ix a0 v4).Gauge), vi ((ix a0 v4).Length)]])] ?_
      refine TriE.regJ ?_
      refine rn 4 [(0, eS 3 eCoil a0), (1, eS 3 eWirePiece a1), (2, eS 1 (eS 1 vi) a2), (45, eS 3 eCoil a0), (46, vi (a0.length : Int)), (47, vi v4), (51, .own 0 0 v3.length), (54, .own 2 0 1)] [some (.row 1 (List.map vi v3)), some (.row 3 [.agg [vt ((ix a0 v4).Name), vi ((ix a0 v4).Gauge), vi ((ix a0 v4).Length)]]), some (.row 1 [vi ((ix a0 v4).Length)])] ?_
      obtain ⟨c8, h⟩ := chk_some h
      refine je (.own 3 0 ((v3 ++ ([(ix a0 v4).Length] : List Int)).length)) [none, some (.row 3 [.agg [vt ((ix a0 v4).Name), vi ((ix a0 v4).Gauge), vi ((ix a0 v4).Length)]]), some (.row 1 [vi ((ix a0 v4).Length)]), some (.row 1 (List.map vi (v3 ++ ([(ix a0 v4).Length] : List Int))))] (cy (I0 55 (.app 1 8 (.t 51) (.t 54)))) (ok_app_own (l := v3) (l2 := ([(ix a0 v4).Length] : List Int)) (e := vi) (u := .own 2 0 1) rfl rfl rfl rfl rfl c8) rfl rfl rfl ?_
      refine jq 1 [(0, eS 3 eCoil a0), (1, eS 3 eWirePiece a1), (2, eS 1 (eS 1 vi) a2), (45, eS 3 eCoil a0), (46, vi (a0.length : Int)), (47, vi v4), (11, .own 3 0 ((v3 ++ ([(ix a0 v4).Length] : List Int)).length))] [none, some (.row 3 [.agg [vt ((ix a0 v4).Name), vi ((ix a0 v4).Gauge), vi ((ix a0 v4).Length)]]), some (.row 1 [vi ((ix a0 v4).Length)]), some (.row 1 (List.map vi (v3 ++ ([(ix a0 v4).Length] : List Int))))] ?_
      refine TriE.regJ ?_
      obtain ⟨c9, h⟩ := chk_some h
      refine jv (vi ((v4 + 1 : Nat) : Int)) (cy (I0 56 (.bin .add false (.t 47) (.c (.p (.int .i64 1)))))) (r_addn (i := v4) (j := 1) rfl rfl c9) rfl ?_
      refine jq 1 [(0, eS 3 eCoil a0), (1, eS 3 eWirePiece a1), (2, eS 1 (eS 1 vi) a2), (45, eS 3 eCoil a0), (46, vi (a0.length : Int)), (11, .own 3 0 ((v3 ++ ([(ix a0 v4).Length] : List Int)).length)), (47, vi ((v4 + 1 : Nat) : Int))] [none, some (.row 3 [.agg [vt ((ix a0 v4).Name), vi ((ix a0 v4).Gauge), vi ((ix a0 v4).Length)]]), some (.row 1 [vi ((ix a0 v4).Length)]), some (.row 1 (List.map vi (v3 ++ ([(ix a0 v4).Length] : List Int))))] ?_
      exact Vs.intro (sc [3] (by decide) (by kernel_rfl) (obRen_row vi_frz rfl .nil) rfl rfl) ⟨((v3 ++ ([(ix a0 v4).Length] : List Int)), v4 + 1), rfl, h⟩
    have h := cond_f h c7
    refine TriE.exit ?_
    exact Vs.intro sy ⟨v3, rfl, h⟩
  intro k1 h
  refine sj ?_
  refine rn 1 [(0, eS 3 eCoil a0), (1, eS 3 eWirePiece a1), (2, eS 1 (eS 1 vi) a2), (29, eS 3 eWirePiece a1)] [] ?_
  refine jv (vi (a1.length : Int)) (cy (I0 30 (.len 0 (.t 29)))) (ok_len_m rfl) rfl ?_
  refine jq 1 [(0, eS 3 eCoil a0), (1, eS 3 eWirePiece a1), (2, eS 1 (eS 1 vi) a2), (29, eS 3 eWirePiece a1), (30, vi (a1.length : Int)), (31, vi 0)] [] ?_
  refine TriE.block ?_
  refine TriE.sees (S' := ⟨[(0, eS 3 eCoil a0), (1, eS 3 eWirePiece a1), (2, eS 1 (eS 1 vi) a2), (29, eS 3 eWirePiece a1), (30, vi (a1.length : Int)), (31, vi 0)], []⟩) sy ?_
  refine TriE.loopN h (fun (v2 : Nat) => St.mk [(0, eS 3 eCoil a0), (1, eS 3 eWirePiece a1), (2, eS 1 (eS 1 vi) a2), (29, eS 3 eWirePiece a1), (30, vi (a1.length : Int)), (31, vi v2)] []) rfl ?_
  clear h
  rintro back v2 h
  dsimp only [restore_CheckCuts_L1] at h
  refine sj ?_
  refine jv (vb (decide (v2 < a1.length))) (cy (I0 32 (.bin .lss false (.t 31) (.t 30)))) (n_lss (i := v2) (j := a1.length) rfl rfl) rfl ?_
  refine jp [(0, eS 3 eCoil a0), (1, eS 3 eWirePiece a1), (2, eS 1 (eS 1 vi) a2), (29, eS 3 eWirePiece a1), (30, vi (a1.length : Int)), (31, vi v2), (32, vb (decide (v2 < a1.length)))] ?_
  refine TriE.seq ?_
  refine TriE.cond (b := decide (v2 < a1.length)) rfl (fun c3 => ?_) (fun c3 => ?_)
  · have h := cond_t h c3
    refine TriE.skip ?_
    refine TriE.seq ?_
    refine TriE.block ?_
    refine sj ?_
    refine rn 1 [(0, eS 3 eCoil a0), (1, eS 3 eWirePiece a1), (2, eS 1 (eS 1 vi) a2), (29, eS 3 eWirePiece a1), (30, vi (a1.length : Int)), (31, vi v2), (33, vi v2)] [] ?_
    refine jv (.fptr 3 (List.map eWirePiece a1) v2 0) (cy (I0 34 (.iaddr 3 (.t 29) (.t 31)))) (ok_iaddr_m (j := v2) rfl rfl rfl c3) rfl ?_
    refine jv (.agg [vi ((ix a1 v2).Gauge), vi ((ix a1 v2).Length), vi ((ix a1 v2).Count)]) (cy (I0 35 (.load true 3 (.t 34)))) (ok_load_fm (v := .agg [vi ((ix a1 v2).Gauge), vi ((ix a1 v2).Length), vi ((ix a1 v2).Count)]) rfl c3 rfl) rfl ?_
    refine jq 3 [(0, eS 3 eCoil a0), (1, eS 3 eWirePiece a1), (2, eS 1 (eS 1 vi) a2), (29, eS 3 eWirePiece a1), (30, vi (a1.length : Int)), (31, vi v2), (10, .ptr 0 0 0), (9, vi v2)] [some (.row 3 [.agg [vi ((ix a1 v2).Gauge), vi ((ix a1 v2).Length), vi ((ix a1 v2).Count)]])] ?_
    refine TriE.seq ?_
    refine TriE.sees (Sees.less (fr' := [(0, eS 3 eCoil a0), (1, eS 3 eWirePiece a1), (2, eS 1 (eS 1 vi) a2), (29, eS 3 eWirePiece a1), (30, vi (a1.length : Int)), (31, vi v2), (10, .ptr 0 0 0), (9, vi v2)]) (.cons rfl (.cons rfl (.cons rfl (.cons rfl (.cons rfl (.cons rfl (.cons rfl (.cons rfl .nil))))))))) ?_
    refine TriE.draw (by kernel_rfl) ?_
    refine RegD.run 2 [(37, vi v2), (36, eS 1 (eS 1 vi) a2), (0, eS 3 eCoil a0), (1, eS 3 eWirePiece a1), (2, eS 1 (eS 1 vi) a2), (29, eS 3 eWirePiece a1), (30, vi (a1.length : Int)), (31, vi v2), (10, .ptr 0 0 0), (9, vi v2)] [some (.row 3 [.agg [vi ((ix a1 v2).Gauge), vi ((ix a1 v2).Length), vi ((ix a1 v2).Count)]]), none, none] (by kernel_rfl) ?_
    obtain ⟨c4, h⟩ := chk_some h
    refine dv (.fptr 1 (List.map (eS 1 vi) a2) v2 0) (cy (I0 38 (.iaddr 1 (.t 36) (.t 37)))) (ok_iaddr_m (j := v2) rfl rfl rfl c4) rfl ?_
    refine dv (eS 1 vi (ix a2 v2)) (cy (I0 39 (.load false 1 (.t 38)))) (ok_load_fm (v := eS 1 vi (ix a2 v2)) rfl c4 rfl) rfl ?_
    refine dv (vi (((ix a2 v2).length : Nat) : Int)) (cy (I0 40 (.len 0 (.t 39)))) (ok_len_m rfl) rfl ?_
    refine RegD.run 3 [(43, vb ((((ix a2 v2).length : Nat) : Int) != ((ix a1 v2).Count))), (42, vi ((ix a1 v2).Count)), (41, .ptr 0 0 2), (40, vi (((ix a2 v2).length : Nat) : Int)), (39, eS 1 vi (ix a2 v2)), (38, .fptr 1 (List.map (eS 1 vi) a2) v2 0), (37, vi v2), (36, eS 1 (eS 1 vi) a2), (0, eS 3 eCoil a0), (1, eS 3 eWirePiece a1), (2, eS 1 (eS 1 vi) a2), (29, eS 3 eWirePiece a1), (30, vi (a1.length : Int)), (31, vi v2), (10, .ptr 0 0 0), (9, vi v2)] [some (.row 3 [.agg [vi ((ix a1 v2).Gauge), vi ((ix a1 v2).Length), vi ((ix a1 v2).Count)]]), none, none, none, none, none, none, none, none] (by kernel_rfl) ?_
    refine RegD.done rfl (by kernel_rfl) (S' := ⟨[(0, eS 3 eCoil a0), (1, eS 3 eWirePiece a1), (2, eS 1 (eS 1 vi) a2), (29, eS 3 eWirePiece a1), (30, vi (a1.length : Int)), (31, vi v2), (43, vb ((((ix a2 v2).length : Nat) : Int) != ((ix a1 v2).Count)))], []⟩) (sc [] (by decide) (by kernel_rfl) ObRen.nil rfl rfl) ?_
    refine TriE.cond (b := ((((ix a2 v2).length : Nat) : Int) != ((ix a1 v2).Count))) rfl (fun c5 => ?_) (fun c5 => ?_)
    · have h := cond_t h c5
      refine sr [(6, .emp), (7, vi 10)] [] ?_
      refine TriE.ret ?_
      have h := Option.some.inj h
      subst h
      exact DoneS.ret (S' := ⟨[(6, eS 1 vi ([] : List Int)), (7, vi 10)], []⟩) (Sees.trans (Sees.vco (fr' := [(6, eS 1 vi ([] : List Int)), (7, vi 10)]) (.cons .sl (.cons .same .nil))) sy) rfl rfl
    have h := cond_f h c5
    refine TriE.skip ?_
    refine TriE.regJ ?_
    obtain ⟨c6, h⟩ := chk_some h
    refine jv (vi ((v2 + 1 : Nat) : Int)) (cy (I0 44 (.bin .add false (.t 31) (.c (.p (.int .i64 1)))))) (r_addn (i := v2) (j := 1) rfl rfl c6) rfl ?_
    refine jq 1 [(0, eS 3 eCoil a0), (1, eS 3 eWirePiece a1), (2, eS 1 (eS 1 vi) a2), (29, eS 3 eWirePiece a1), (30, vi (a1.length : Int)), (31, vi ((v2 + 1 : Nat) : Int))] [] ?_
    exact Vs.intro sy ⟨(v2 + 1), rfl, h⟩
  have h := cond_f h c3
  refine TriE.exit ?_
  exact Vs.intro sy ⟨(), rfl, h⟩
theorem agraffebase_isLetter_ok (n : Nat) (a0 : Int) (r : Unit) (h : agraffebase_isLetter n a0 = some r) : FnL Tryz.prog 159 [vk .u8 a0] [] (vb (((decide ((97 : Int) ≤ a0)) && (decide (a0 ≤ (122 : Int)))) || ((decide ((65 : Int) ≤ a0)) && (decide (a0 ≤ (90 : Int)))))) [] := by
  dsimp only [agraffebase_isLetter] at h
  refine FnL.ofS (ts := [2]) Tryz.call159 Tryz.func159 rfl rfl (Nat.le_of_ble_eq_true rfl) (Nat.le_of_ble_eq_true rfl) (fun j h => absurd h (Nat.not_lt_zero j)) ?_
  refine sr [(0, vk .u8 a0)] [] ?_
  refine sj ?_
  refine rn 3 [(0, vk .u8 a0), (5, vb (decide ((97 : Int) ≤ a0)))] [] ?_
  refine RegJ.op (Op1.valk (v := vk .u8 a0) _ _ (cy (IG 6 (.mov (.t 0)) 5 true)) rfl (by kernel_rfl) (fun hg => (.cons rfl .nil))) ?_
  refine RegJ.op (Op1.valk (v := vb (decide (a0 ≤ (122 : Int)))) _ _ (cy (IG 7 (.bin .leq false (.t 6) (.c (.p (.int .u8 122)))) 5 true)) rfl (by kernel_rfl) (fun hg => (.cons hg (.cons rfl .nil)))) ?_
  refine RegJ.op (Op1.and (cy (I0 8 (.pick (.t 5) (.t 7) (.c (.p (.bool false)))))) rfl rfl (by first | exact hokA1 | exact hokA0 | simp)) ?_
  refine rn 1 [(0, vk .u8 a0), (9, vb ((decide ((97 : Int) ≤ a0)) && (decide (a0 ≤ (122 : Int)))))] [] ?_
  refine RegJ.op (Op1.valk (v := vk .u8 a0) _ _ (cy (IG 10 (.mov (.t 0)) 9 false)) rfl (by kernel_rfl) (fun hg => (.cons rfl .nil))) ?_
  refine RegJ.op (Op1.valk (v := vb (decide ((65 : Int) ≤ a0))) _ _ (cy (IG 11 (.bin .geq false (.t 10) (.c (.p (.int .u8 65)))) 9 false)) rfl (by kernel_rfl) (fun hg => (.cons hg (.cons rfl .nil)))) ?_
  refine RegJ.op (Op1.valk (v := vb (decide ((65 : Int) ≤ a0))) _ _ (cy (IG 12 (.mov (.t 11)) 9 false)) rfl (by kernel_rfl) (fun hg => (.cons hg .nil))) ?_
  refine RegJ.op (Op1.valk (v := vk .u8 a0) _ _ (cy (IG 13 (.mov (.t 0)) 12 true)) rfl (by kernel_rfl) (fun hg => (.cons rfl .nil))) ?_
  refine RegJ.op (Op1.valk (v := vb (decide (a0 ≤ (90 : Int)))) _ _ (cy (IG 14 (.bin .leq false (.t 13) (.c (.p (.int .u8 90)))) 12 true)) rfl (by kernel_rfl) (fun hg => (.cons hg (.cons rfl .nil)))) ?_
  refine RegJ.op (Op1.andg (g := !((decide ((97 : Int) ≤ a0)) && (decide (a0 ≤ (122 : Int))))) (cy (IG 15 (.pick (.t 12) (.t 14) (.c (.p (.bool false)))) 9 false)) rfl rfl rfl (fun hg => by first | exact hokA2 hg | exact hokA3 hg | exact hokA1 | exact hokA0 | (rw [hg]; simp) | simp_all)) ?_
  refine RegJ.op (Op1.or (cy (I0 16 (.pick (.t 9) (.c (.p (.bool true))) (.t 15)))) rfl rfl (by first | exact hokO1 | exact hokO0 | simp)) ?_
  refine jq 1 [(2, vb (((decide ((97 : Int) ≤ a0)) && (decide (a0 ≤ (122 : Int)))) || ((decide ((65 : Int) ≤ a0)) && (decide (a0 ≤ (90 : Int))))))] [] ?_
  refine TriE.ret ?_
  have h := Option.some.inj h
  subst h
  exact DoneS.ret (S' := ⟨[(2, vb (((decide ((97 : Int) ≤ a0)) && (decide (a0 ≤ (122 : Int)))) || ((decide ((65 : Int) ≤ a0)) && (decide (a0 ≤ (90 : Int))))))], []⟩) Sees.refl rfl rfl
theorem agraffebase_isDigit_ok (n : Nat) (a0 : Int) (r : Unit) (h : agraffebase_isDigit n a0 = some r) : FnL Tryz.prog 160 [vk .u8 a0] [] (vb ((decide ((48 : Int) ≤ a0)) && (decide (a0 ≤ (57 : Int))))) [] := by
  dsimp only [agraffebase_isDigit] at h
  refine FnL.ofS (ts := [2]) Tryz.call160 Tryz.func160 rfl rfl (Nat.le_of_ble_eq_true rfl) (Nat.le_of_ble_eq_true rfl) (fun j h => absurd h (Nat.not_lt_zero j)) ?_
  refine sr [(0, vk .u8 a0)] [] ?_
  refine sj ?_
  refine rn 3 [(0, vk .u8 a0), (5, vb (decide ((48 : Int) ≤ a0)))] [] ?_
  refine RegJ.op (Op1.valk (v := vk .u8 a0) _ _ (cy (IG 6 (.mov (.t 0)) 5 true)) rfl (by kernel_rfl) (fun hg => (.cons rfl .nil))) ?_
  refine RegJ.op (Op1.valk (v := vb (decide (a0 ≤ (57 : Int)))) _ _ (cy (IG 7 (.bin .leq false (.t 6) (.c (.p (.int .u8 57)))) 5 true)) rfl (by kernel_rfl) (fun hg => (.cons hg (.cons rfl .nil)))) ?_
  refine RegJ.op (Op1.and (cy (I0 8 (.pick (.t 5) (.t 7) (.c (.p (.bool false)))))) rfl rfl (by first | exact hokA1 | exact hokA0 | simp)) ?_
  refine jq 1 [(2, vb ((decide ((48 : Int) ≤ a0)) && (decide (a0 ≤ (57 : Int)))))] [] ?_
  refine TriE.ret ?_
  have h := Option.some.inj h
  subst h
  exact DoneS.ret (S' := ⟨[(2, vb ((decide ((48 : Int) ≤ a0)) && (decide (a0 ≤ (57 : Int)))))], []⟩) Sees.refl rfl rfl
theorem agraffebase_IsName_ok (n : Nat) (a0 : Str) (r : Bool) (h : agraffebase_IsName n a0 = some r) : FnL Tryz.prog 92 [vt a0] [] (vb r) [] := by
  dsimp only [agraffebase_IsName] at h
  refine FnL.ofS (ts := [2]) Tryz.call92 Tryz.func92 rfl rfl (Nat.le_of_ble_eq_true rfl) (Nat.le_of_ble_eq_true rfl) (fun j h => absurd h (Nat.not_lt_zero j)) ?_
  refine sr [(0, vt a0)] [] ?_
  refine TriE.seq ?_
  refine sj ?_
  refine rn 1 [(0, vt a0), (4, vt a0)] [] ?_
  refine jv (vi (a0.length : Int)) (cy (I0 5 (.len 1 (.t 4)))) (ok_len_t rfl) rfl ?_
  refine jv (vb (decide (a0.length = 0))) (cy (I0 6 (.bin .eql false (.t 5) (.c (.p (.int .i64 0)))))) (n_eql (i := a0.length) (j := 0) rfl rfl) rfl ?_
  refine rn 1 [(0, vt a0), (7, vb (decide (a0.length = 0)))] [] ?_
  refine RegJ.op (Op1.valk (v := vt a0) _ _ (cy (IG 8 (.mov (.t 0)) 7 false)) rfl (by kernel_rfl) (fun hg => (.cons rfl .nil))) ?_
  refine RegJ.op (Op1.valg (v := vi (a0.length : Int)) _ _ (cy (IG 9 (.len 1 (.t 8)) 7 false)) rfl (fun hg => (ok_len_t rfl)) (fun hg => (.cons hg .nil))) ?_
  refine RegJ.op (Op1.valg (v := vb (decide (12 < a0.length))) _ _ (cy (IG 10 (.bin .gtr false (.t 9) (.c (.p (.int .i64 12)))) 7 false)) rfl (fun hg => (n_gtr (i := a0.length) (j := 12) rfl rfl)) (fun hg => (.cons hg (.cons rfl .nil)))) ?_
  refine RegJ.op (Op1.or (cy (I0 11 (.pick (.t 7) (.c (.p (.bool true))) (.t 10)))) rfl rfl (by first | exact hokO1 | exact hokO0 | simp)) ?_
  refine rn 1 [(0, vt a0), (12, vb ((decide (a0.length = 0)) || (decide (12 < a0.length))))] [] ?_
  refine RegJ.op (Op1.valk (v := vt a0) _ _ (cy (IG 13 (.mov (.t 0)) 12 false)) rfl (by kernel_rfl) (fun hg => (.cons rfl .nil))) ?_
  obtain ⟨c1, h⟩ := chk_some h
  refine RegJ.op (Op1.valg (v := vk .u8 (((List.getD a0 0 0).toNat : Nat) : Int)) _ _ (cy (IG 14 (.sidx (.t 13) (.c (.p (.int .i64 0)))) 12 false)) rfl (fun hg => (ok_sidx_t (j := 0) rfl rfl rfl (gor c1 hg))) (fun hg => (.cons hg (.cons rfl .nil)))) ?_
  obtain ⟨y1, hy1, h⟩ := bind_some h
  refine RegJ.op (Op1.callg (g := !((decide (a0.length = 0)) || (decide (12 < a0.length)))) (y' := vb (((decide ((97 : Int) ≤ (((List.getD a0 0 0).toNat : Nat) : Int))) && (decide ((((List.getD a0 0 0).toNat : Nat) : Int) ≤ (122 : Int)))) || ((decide ((65 : Int) ≤ (((List.getD a0 0 0).toNat : Nat) : Int))) && (decide ((((List.getD a0 0 0).toNat : Nat) : Int) ≤ (90 : Int)))))) (obx := []) _ _ (cy (IG 15 (.call 159 [(.t 14)]) 12 false)) rfl (fun hg => agraffebase_isLetter_ok n (((List.getD a0 0 0).toNat : Nat) : Int) y1 (gcall_some hy1 hg)) [] (fun hg => by kernel_rfl) (fun hg => (.cons rfl (.cons hg .nil))) (by kernel_rfl) (by kernel_rfl) ObsRen.nil (by kernel_rfl) (by kernel_rfl)) ?_
  refine RegJ.op (Op1.valk (v := vb (!(((decide ((97 : Int) ≤ (((List.getD a0 0 0).toNat : Nat) : Int))) && (decide ((((List.getD a0 0 0).toNat : Nat) : Int) ≤ (122 : Int)))) || ((decide ((65 : Int) ≤ (((List.getD a0 0 0).toNat : Nat) : Int))) && (decide ((((List.getD a0 0 0).toNat : Nat) : Int) ≤ (90 : Int))))))) _ _ (cy (IG 16 (.un .not (.t 15)) 12 false)) rfl (by kernel_rfl) (fun hg => (.cons hg .nil))) ?_
  refine RegJ.op (Op1.or (cy (I0 17 (.pick (.t 12) (.c (.p (.bool true))) (.t 16)))) rfl rfl (by first | exact hokO1 | exact hokO0 | simp)) ?_
  refine jp [(0, vt a0), (17, vb (((decide (a0.length = 0)) || (decide (12 < a0.length))) || (!(((decide ((97 : Int) ≤ (((List.getD a0 0 0).toNat : Nat) : Int))) && (decide ((((List.getD a0 0 0).toNat : Nat) : Int) ≤ (122 : Int)))) || ((decide ((65 : Int) ≤ (((List.getD a0 0 0).toNat : Nat) : Int))) && (decide ((((List.getD a0 0 0).toNat : Nat) : Int) ≤ (90 : Int))))))))] ?_
  refine TriE.cond (b := ((decide (a0.length = 0)) || (decide (12 < a0.length))) || (!(((decide ((97 : Int) ≤ (((List.getD a0 0 0).toNat : Nat) : Int))) && (decide ((((List.getD a0 0 0).toNat : Nat) : Int) ≤ (122 : Int)))) || ((decide ((65 : Int) ≤ (((List.getD a0 0 0).toNat : Nat) : Int))) && (decide ((((List.getD a0 0 0).toNat : Nat) : Int) ≤ (90 : Int))))))) rfl (fun c2 => ?_) (fun c2 => ?_)
  · have h := cond_t h c2
    refine sr [(2, vb false)] [] ?_
    refine TriE.ret ?_
    have h := Option.some.inj h
    subst h
    exact DoneS.ret (S' := ⟨[(2, vb false)], []⟩) Sees.refl rfl rfl
  have h := cond_f h c2
  refine TriE.skip ?_
  refine TriE.seqK h (fun (_ : Unit) => St.mk [] []) ?_ ?_
  · rintro ⟨⟩ h
    refine sr [(2, vb true)] [] ?_
    refine TriE.ret ?_
    have h := Option.some.inj h
    subst h
    exact DoneS.ret (S' := ⟨[(2, vb true)], []⟩) Sees.refl rfl rfl
  intro k1 h
  refine sr [(0, vt a0), (3, vi 0)] [] ?_
  refine TriE.block ?_
  refine TriE.sees (S' := ⟨[(0, vt a0), (3, vi 0)], []⟩) sy ?_
  refine TriE.loopN h (fun (v4 : Nat) => St.mk [(0, vt a0), (3, vi v4)] []) rfl ?_
  clear h
  rintro back v4 h
  dsimp only [agraffebase_IsName_L1] at h
  refine TriE.seq ?_
  refine sj ?_
  refine rn 2 [(0, vt a0), (3, vi v4), (18, vi v4), (19, vt a0)] [] ?_
  refine jv (vi (a0.length : Int)) (cy (I0 20 (.len 1 (.t 19)))) (ok_len_t rfl) rfl ?_
  refine jv (vb (decide (v4 < a0.length))) (cy (I0 21 (.bin .lss false (.t 18) (.t 20)))) (n_lss (i := v4) (j := a0.length) rfl rfl) rfl ?_
  refine jp [(0, vt a0), (3, vi v4), (21, vb (decide (v4 < a0.length)))] ?_
  refine TriE.cond (b := decide (v4 < a0.length)) rfl (fun c3 => ?_) (fun c3 => ?_)
  · have h := cond_t h c3
    refine TriE.skip ?_
    refine TriE.seq ?_
    refine TriE.block ?_
    refine sj ?_
    refine rn 2 [(0, vt a0), (3, vi v4), (24, vt a0), (25, vi v4)] [] ?_
    refine jv (vk .u8 (((List.getD a0 v4 0).toNat : Nat) : Int)) (cy (I0 26 (.sidx (.t 24) (.t 25)))) (ok_sidx_t (j := v4) rfl rfl rfl c3) rfl ?_
    obtain ⟨y5, hy5, h⟩ := bind_some h
    refine RegJ.op (Op1.call (y' := vb (((decide ((97 : Int) ≤ (((List.getD a0 v4 0).toNat : Nat) : Int))) && (decide ((((List.getD a0 v4 0).toNat : Nat) : Int) ≤ (122 : Int)))) || ((decide ((65 : Int) ≤ (((List.getD a0 v4 0).toNat : Nat) : Int))) && (decide ((((List.getD a0 v4 0).toNat : Nat) : Int) ≤ (90 : Int)))))) (obx := []) (oby := []) (ob2 := []) _ _ (cy (I0 27 (.call 159 [(.t 26)]))) rfl (agraffebase_isLetter_ok n (((List.getD a0 v4 0).toNat : Nat) : Int) y5 hy5) [] (by kernel_rfl) (.cons rfl (.cons rfl .nil)) (by kernel_rfl) (by kernel_rfl) ObsRen.nil (by kernel_rfl) ObsRen.nil (by kernel_rfl)) ?_
    refine rn 2 [(0, vt a0), (3, vi v4), (29, vb (!(((decide ((97 : Int) ≤ (((List.getD a0 v4 0).toNat : Nat) : Int))) && (decide ((((List.getD a0 v4 0).toNat : Nat) : Int) ≤ (122 : Int)))) || ((decide ((65 : Int) ≤ (((List.getD a0 v4 0).toNat : Nat) : Int))) && (decide ((((List.getD a0 v4 0).toNat : Nat) : Int) ≤ (90 : Int)))))))] [] ?_
    refine RegJ.op (Op1.valk (v := vt a0) _ _ (cy (IG 30 (.mov (.t 0)) 29 true)) rfl (by kernel_rfl) (fun hg => (.cons rfl .nil))) ?_
    refine RegJ.op (Op1.valk (v := vi v4) _ _ (cy (IG 31 (.mov (.t 3)) 29 true)) rfl (by kernel_rfl) (fun hg => (.cons rfl .nil))) ?_
    refine RegJ.op (Op1.valg (v := vk .u8 (((List.getD a0 v4 0).toNat : Nat) : Int)) _ _ (cy (IG 32 (.sidx (.t 30) (.t 31)) 29 true)) rfl (fun hg => (ok_sidx_t (j := v4) rfl rfl rfl c3)) (fun hg => (.cons hg (.cons hg .nil)))) ?_
    obtain ⟨y6, hy6, h⟩ := bind_some h
    refine RegJ.op (Op1.callg (g := !(((decide ((97 : Int) ≤ (((List.getD a0 v4 0).toNat : Nat) : Int))) && (decide ((((List.getD a0 v4 0).toNat : Nat) : Int) ≤ (122 : Int)))) || ((decide ((65 : Int) ≤ (((List.getD a0 v4 0).toNat : Nat) : Int))) && (decide ((((List.getD a0 v4 0).toNat : Nat) : Int) ≤ (90 : Int)))))) (y' := vb ((decide ((48 : Int) ≤ (((List.getD a0 v4 0).toNat : Nat) : Int))) && (decide ((((List.getD a0 v4 0).toNat : Nat) : Int) ≤ (57 : Int))))) (obx := []) _ _ (cy (IG 33 (.call 160 [(.t 32)]) 29 true)) rfl (fun hg => agraffebase_isDigit_ok n (((List.getD a0 v4 0).toNat : Nat) : Int) y6 (gcall_some hy6 hg)) [] (fun hg => by kernel_rfl) (fun hg => (.cons rfl (.cons hg .nil))) (by kernel_rfl) (by kernel_rfl) ObsRen.nil (by kernel_rfl) (by kernel_rfl)) ?_
    refine RegJ.op (Op1.valk (v := vb (!((decide ((48 : Int) ≤ (((List.getD a0 v4 0).toNat : Nat) : Int))) && (decide ((((List.getD a0 v4 0).toNat : Nat) : Int) ≤ (57 : Int)))))) _ _ (cy (IG 34 (.un .not (.t 33)) 29 true)) rfl (by kernel_rfl) (fun hg => (.cons hg .nil))) ?_
    refine RegJ.op (Op1.and (cy (I0 35 (.pick (.t 29) (.t 34) (.c (.p (.bool false)))))) rfl rfl (by first | exact hokA1 | exact hokA0 | simp)) ?_
    refine rn 1 [(0, vt a0), (3, vi v4), (30, .cond (!(((decide ((97 : Int) ≤ (((List.getD a0 v4 0).toNat : Nat) : Int))) && (decide ((((List.getD a0 v4 0).toNat : Nat) : Int) ≤ (122 : Int)))) || ((decide ((65 : Int) ≤ (((List.getD a0 v4 0).toNat : Nat) : Int))) && (decide ((((List.getD a0 v4 0).toNat : Nat) : Int) ≤ (90 : Int)))))) (vt a0)), (31, .cond (!(((decide ((97 : Int) ≤ (((List.getD a0 v4 0).toNat : Nat) : Int))) && (decide ((((List.getD a0 v4 0).toNat : Nat) : Int) ≤ (122 : Int)))) || ((decide ((65 : Int) ≤ (((List.getD a0 v4 0).toNat : Nat) : Int))) && (decide ((((List.getD a0 v4 0).toNat : Nat) : Int) ≤ (90 : Int)))))) (vi v4)), (32, .cond (!(((decide ((97 : Int) ≤ (((List.getD a0 v4 0).toNat : Nat) : Int))) && (decide ((((List.getD a0 v4 0).toNat : Nat) : Int) ≤ (122 : Int)))) || ((decide ((65 : Int) ≤ (((List.getD a0 v4 0).toNat : Nat) : Int))) && (decide ((((List.getD a0 v4 0).toNat : Nat) : Int) ≤ (90 : Int)))))) (vk .u8 (((List.getD a0 v4 0).toNat : Nat) : Int))), (33, .cond (!(((decide ((97 : Int) ≤ (((List.getD a0 v4 0).toNat : Nat) : Int))) && (decide ((((List.getD a0 v4 0).toNat : Nat) : Int) ≤ (122 : Int)))) || ((decide ((65 : Int) ≤ (((List.getD a0 v4 0).toNat : Nat) : Int))) && (decide ((((List.getD a0 v4 0).toNat : Nat) : Int) ≤ (90 : Int)))))) (vb ((decide ((48 : Int) ≤ (((List.getD a0 v4 0).toNat : Nat) : Int))) && (decide ((((List.getD a0 v4 0).toNat : Nat) : Int) ≤ (57 : Int)))))), (34, .cond (!(((decide ((97 : Int) ≤ (((List.getD a0 v4 0).toNat : Nat) : Int))) && (decide ((((List.getD a0 v4 0).toNat : Nat) : Int) ≤ (122 : Int)))) || ((decide ((65 : Int) ≤ (((List.getD a0 v4 0).toNat : Nat) : Int))) && (decide ((((List.getD a0 v4 0).toNat : Nat) : Int) ≤ (90 : Int)))))) (vb (!((decide ((48 : Int) ≤ (((List.getD a0 v4 0).toNat : Nat) : Int))) && (decide ((((List.getD a0 v4 0).toNat : Nat) : Int) ≤ (57 : Int))))))), (36, vb ((!(((decide ((97 : Int) ≤ (((List.getD a0 v4 0).toNat : Nat) : Int))) && (decide ((((List.getD a0 v4 0).toNat : Nat) : Int) ≤ (122 : Int)))) || ((decide ((65 : Int) ≤ (((List.getD a0 v4 0).toNat : Nat) : Int))) && (decide ((((List.getD a0 v4 0).toNat : Nat) : Int) ≤ (90 : Int)))))) && (!((decide ((48 : Int) ≤ (((List.getD a0 v4 0).toNat : Nat) : Int))) && (decide ((((List.getD a0 v4 0).toNat : Nat) : Int) ≤ (57 : Int)))))))] [] ?_
    refine RegJ.op (Op1.valk (v := vt a0) _ _ (cy (IG 37 (.mov (.t 0)) 36 true)) rfl (by kernel_rfl) (fun hg => (.cons rfl .nil))) ?_
    refine RegJ.op (Op1.valk (v := vi v4) _ _ (cy (IG 38 (.mov (.t 3)) 36 true)) rfl (by kernel_rfl) (fun hg => (.cons rfl .nil))) ?_
    refine RegJ.op (Op1.valg (v := vk .u8 (((List.getD a0 v4 0).toNat : Nat) : Int)) _ _ (cy (IG 39 (.sidx (.t 37) (.t 38)) 36 true)) rfl (fun hg => (ok_sidx_t (j := v4) rfl rfl rfl c3)) (fun hg => (.cons hg (.cons hg .nil)))) ?_
    refine RegJ.op (Op1.valk (v := vb ((((List.getD a0 v4 0).toNat : Nat) : Int) != (45 : Int))) _ _ (cy (IG 40 (.bin .neq false (.t 39) (.c (.p (.int .u8 45)))) 36 true)) rfl (by kernel_rfl) (fun hg => (.cons hg (.cons rfl .nil)))) ?_
    refine RegJ.op (Op1.and (cy (I0 41 (.pick (.t 36) (.t 40) (.c (.p (.bool false)))))) rfl rfl (by first | exact hokA1 | exact hokA0 | simp)) ?_
    refine jp [(0, vt a0), (3, vi v4), (41, vb (((!(((decide ((97 : Int) ≤ (((List.getD a0 v4 0).toNat : Nat) : Int))) && (decide ((((List.getD a0 v4 0).toNat : Nat) : Int) ≤ (122 : Int)))) || ((decide ((65 : Int) ≤ (((List.getD a0 v4 0).toNat : Nat) : Int))) && (decide ((((List.getD a0 v4 0).toNat : Nat) : Int) ≤ (90 : Int)))))) && (!((decide ((48 : Int) ≤ (((List.getD a0 v4 0).toNat : Nat) : Int))) && (decide ((((List.getD a0 v4 0).toNat : Nat) : Int) ≤ (57 : Int)))))) && ((((List.getD a0 v4 0).toNat : Nat) : Int) != (45 : Int))))] ?_
    refine TriE.cond (b := ((!(((decide ((97 : Int) ≤ (((List.getD a0 v4 0).toNat : Nat) : Int))) && (decide ((((List.getD a0 v4 0).toNat : Nat) : Int) ≤ (122 : Int)))) || ((decide ((65 : Int) ≤ (((List.getD a0 v4 0).toNat : Nat) : Int))) && (decide ((((List.getD a0 v4 0).toNat : Nat) : Int) ≤ (90 : Int)))))) && (!((decide ((48 : Int) ≤ (((List.getD a0 v4 0).toNat : Nat) : Int))) && (decide ((((List.getD a0 v4 0).toNat : Nat) : Int) ≤ (57 : Int)))))) && ((((List.getD a0 v4 0).toNat : Nat) : Int) != (45 : Int))) rfl (fun c4 => ?_) (fun c4 => ?_)
    · have h := cond_t h c4
      refine sr [(2, vb false)] [] ?_
      refine TriE.ret ?_
      have h := Option.some.inj h
      subst h
      exact DoneS.ret (S' := ⟨[(2, vb false)], []⟩) Sees.refl rfl rfl
    have h := cond_f h c4
    refine TriE.skip ?_
    refine TriE.regJ ?_
    refine rn 1 [(0, vt a0), (22, vi v4)] [] ?_
    obtain ⟨c5, h⟩ := chk_some h
    refine jv (vi ((v4 + 1 : Nat) : Int)) (cy (I0 23 (.bin .add false (.t 22) (.c (.p (.int .i64 1)))))) (r_addn (i := v4) (j := 1) rfl rfl c5) rfl ?_
    refine jq 1 [(0, vt a0), (3, vi ((v4 + 1 : Nat) : Int))] [] ?_
    exact Vs.intro sy ⟨(v4 + 1), rfl, h⟩
  have h := cond_f h c3
  refine TriE.exit ?_
  exact Vs.intro sy ⟨(), rfl, h⟩
theorem agraffebase_HasText_ok (n : Nat) (a0 : List Str) (a1 : Str) (r : Bool) (h : agraffebase_HasText n a0 a1 = some r) : FnL Tryz.prog 81 [eS 1 vt a0, vt a1] [] (vb r) [] := by
  dsimp only [agraffebase_HasText] at h
  refine FnL.ofS (ts := [4]) Tryz.call81 Tryz.func81 rfl rfl (Nat.le_of_ble_eq_true rfl) (Nat.le_of_ble_eq_true rfl) (fun j h => absurd h (Nat.not_lt_zero j)) ?_
  refine sr [(0, eS 1 vt a0), (1, vt a1)] [] ?_
  refine TriE.seqK h (fun (_ : Unit) => St.mk [] []) ?_ ?_
  · rintro ⟨⟩ h
    refine sr [(4, vb false)] [] ?_
    refine TriE.ret ?_
    have h := Option.some.inj h
    subst h
    exact DoneS.ret (S' := ⟨[(4, vb false)], []⟩) Sees.refl rfl rfl
  intro k1 h
  refine sr [(0, eS 1 vt a0), (1, vt a1), (5, vi 0)] [] ?_
  refine TriE.block ?_
  refine TriE.sees (S' := ⟨[(0, eS 1 vt a0), (1, vt a1), (5, vi 0)], []⟩) sy ?_
  refine TriE.loopN h (fun (v1 : Nat) => St.mk [(0, eS 1 vt a0), (1, vt a1), (5, vi v1)] []) rfl ?_
  clear h
  rintro back v1 h
  dsimp only [agraffebase_HasText_L1] at h
  refine TriE.seq ?_
  refine sj ?_
  refine rn 2 [(0, eS 1 vt a0), (1, vt a1), (5, vi v1), (6, vi v1), (7, eS 1 vt a0)] [] ?_
  refine jv (vi (a0.length : Int)) (cy (I0 8 (.len 0 (.t 7)))) (ok_len_m rfl) rfl ?_
  refine jv (vb (decide (v1 < a0.length))) (cy (I0 9 (.bin .lss false (.t 6) (.t 8)))) (n_lss (i := v1) (j := a0.length) rfl rfl) rfl ?_
  refine jp [(0, eS 1 vt a0), (1, vt a1), (5, vi v1), (9, vb (decide (v1 < a0.length)))] ?_
  refine TriE.cond (b := decide (v1 < a0.length)) rfl (fun c1 => ?_) (fun c1 => ?_)
  · have h := cond_t h c1
    refine TriE.skip ?_
    refine TriE.seq ?_
    refine TriE.block ?_
    refine sj ?_
    refine rn 2 [(0, eS 1 vt a0), (1, vt a1), (5, vi v1), (12, eS 1 vt a0), (13, vi v1)] [] ?_
    refine jv (.fptr 1 (List.map vt a0) v1 0) (cy (I0 14 (.iaddr 1 (.t 12) (.t 13)))) (ok_iaddr_m (j := v1) rfl rfl rfl c1) rfl ?_
    refine jv (vt (ix a0 v1)) (cy (I0 15 (.load false 1 (.t 14)))) (ok_load_fm (v := vt (ix a0 v1)) rfl c1 rfl) rfl ?_
    refine jq 2 [(0, eS 1 vt a0), (1, vt a1), (5, vi v1), (17, vb ((ix a0 v1) == a1))] [] ?_
    refine TriE.cond (b := ((ix a0 v1) == a1)) rfl (fun c2 => ?_) (fun c2 => ?_)
    · have h := cond_t h c2
      refine sr [(4, vb true)] [] ?_
      refine TriE.ret ?_
      have h := Option.some.inj h
      subst h
      exact DoneS.ret (S' := ⟨[(4, vb true)], []⟩) Sees.refl rfl rfl
    have h := cond_f h c2
    refine TriE.skip ?_
    refine TriE.regJ ?_
    refine rn 1 [(0, eS 1 vt a0), (1, vt a1), (10, vi v1)] [] ?_
    obtain ⟨c3, h⟩ := chk_some h
    refine jv (vi ((v1 + 1 : Nat) : Int)) (cy (I0 11 (.bin .add false (.t 10) (.c (.p (.int .i64 1)))))) (r_addn (i := v1) (j := 1) rfl rfl c3) rfl ?_
    refine jq 1 [(0, eS 1 vt a0), (1, vt a1), (5, vi ((v1 + 1 : Nat) : Int))] [] ?_
    exact Vs.intro sy ⟨(v1 + 1), rfl, h⟩
  have h := cond_f h c1
  refine TriE.exit ?_
  exact Vs.intro sy ⟨(), rfl, h⟩
theorem agraffebase_Within_ok (n : Nat) (a0 : Int) (a1 : Int) (a2 : Int) (r : Unit) (h : agraffebase_Within n a0 a1 a2 = some r) : FnL Tryz.prog 93 [vi a0, vi a1, vi a2] [] (vb ((decide (a1 ≤ a0)) && (decide (a0 ≤ a2)))) [] := by
  dsimp only [agraffebase_Within] at h
  refine FnL.ofS (ts := [6]) Tryz.call93 Tryz.func93 rfl rfl (Nat.le_of_ble_eq_true rfl) (Nat.le_of_ble_eq_true rfl) (fun j h => absurd h (Nat.not_lt_zero j)) ?_
  refine sr [(0, vi a0), (1, vi a1), (2, vi a2)] [] ?_
  refine sj ?_
  refine rn 4 [(0, vi a0), (2, vi a2), (10, vb (decide (a1 ≤ a0)))] [] ?_
  refine RegJ.op (Op1.valk (v := vi a0) _ _ (cy (IG 11 (.mov (.t 0)) 10 true)) rfl (by kernel_rfl) (fun hg => (.cons rfl .nil))) ?_
  refine RegJ.op (Op1.valk (v := vi a2) _ _ (cy (IG 12 (.mov (.t 2)) 10 true)) rfl (by kernel_rfl) (fun hg => (.cons rfl .nil))) ?_
  refine RegJ.op (Op1.valk (v := vb (decide (a0 ≤ a2))) _ _ (cy (IG 13 (.bin .leq false (.t 11) (.t 12)) 10 true)) rfl (by kernel_rfl) (fun hg => (.cons hg (.cons hg .nil)))) ?_
  refine RegJ.op (Op1.and (cy (I0 14 (.pick (.t 10) (.t 13) (.c (.p (.bool false)))))) rfl rfl (by first | exact hokA1 | exact hokA0 | simp)) ?_
  refine jq 1 [(6, vb ((decide (a1 ≤ a0)) && (decide (a0 ≤ a2))))] [] ?_
  refine TriE.ret ?_
  have h := Option.some.inj h
  subst h
  exact DoneS.ret (S' := ⟨[(6, vb ((decide (a1 ≤ a0)) && (decide (a0 ≤ a2))))], []⟩) Sees.refl rfl rfl
theorem agraffebase_HasText_2_ok (n : Nat) (a0 : List Str) (a1 : Str) (r : Bool) (h : agraffebase_HasText_2 n a0 a1 = some r) : FnL Tryz.prog 81 [.own 0 0 a0.length, vt a1] [some (.row 1 (List.map vt a0))] (vb r) [some (.row 1 (List.map vt a0))] := by
  dsimp only [agraffebase_HasText_2] at h
  refine FnL.ofS (ts := [4]) Tryz.call81 Tryz.func81 rfl rfl (Nat.le_of_ble_eq_true rfl) (Nat.le_of_ble_eq_true rfl) (hall_of (.cons rfl .nil)) ?_
  refine sr [(0, .own 0 0 a0.length), (1, vt a1)] [some (.row 1 (List.map vt a0))] ?_
  refine TriE.seqK h (fun (_ : Unit) => St.mk [] [some (.row 1 (List.map vt a0))]) ?_ ?_
  · rintro ⟨⟩ h
    refine sr [(4, vb false)] [some (.row 1 (List.map vt a0))] ?_
    refine TriE.ret ?_
    have h := Option.some.inj h
    subst h
    exact DoneS.ret (S' := ⟨[(4, vb false)], [some (.row 1 (List.map vt a0))]⟩) Sees.refl rfl rfl
  intro k1 h
  refine sr [(0, .own 0 0 a0.length), (1, vt a1), (5, vi 0)] [some (.row 1 (List.map vt a0))] ?_
  refine TriE.block ?_
  refine TriE.sees (S' := ⟨[(0, .own 0 0 a0.length), (1, vt a1), (5, vi 0)], [some (.row 1 (List.map vt a0))]⟩) sy ?_
  refine TriE.loopN h (fun (v1 : Nat) => St.mk [(0, .own 0 0 a0.length), (1, vt a1), (5, vi v1)] [some (.row 1 (List.map vt a0))]) rfl ?_
  clear h
  rintro back v1 h
  dsimp only [agraffebase_HasText_2_L1] at h
  refine TriE.seq ?_
  refine sj ?_
  refine rn 3 [(0, .own 0 0 a0.length), (1, vt a1), (5, vi v1), (6, vi v1), (8, vi (a0.length : Int))] [some (.row 1 (List.map vt a0))] ?_
  refine jv (vb (decide (v1 < a0.length))) (cy (I0 9 (.bin .lss false (.t 6) (.t 8)))) (n_lss (i := v1) (j := a0.length) rfl rfl) rfl ?_
  refine jp [(0, .own 0 0 a0.length), (1, vt a1), (5, vi v1), (9, vb (decide (v1 < a0.length)))] ?_
  refine TriE.cond (b := decide (v1 < a0.length)) rfl (fun c1 => ?_) (fun c1 => ?_)
  · have h := cond_t h c1
    refine TriE.skip ?_
    refine TriE.seq ?_
    refine TriE.block ?_
    refine sj ?_
    refine rn 2 [(0, .own 0 0 a0.length), (1, vt a1), (5, vi v1), (12, .own 0 0 a0.length), (13, vi v1)] [some (.row 1 (List.map vt a0))] ?_
    refine jv (.ptr 0 v1 0) (cy (I0 14 (.iaddr 1 (.t 12) (.t 13)))) (ok_iaddr_o0 (j := v1) rfl rfl rfl rfl c1) rfl ?_
    refine jv (vt (ix a0 v1)) (cy (I0 15 (.load false 1 (.t 14)))) (ok_load_pm (l := a0) (e := vt) (v := vt (ix a0 v1)) rfl rfl c1 rfl) rfl ?_
    refine jq 2 [(0, .own 0 0 a0.length), (1, vt a1), (5, vi v1), (17, vb ((ix a0 v1) == a1))] [some (.row 1 (List.map vt a0))] ?_
    refine TriE.cond (b := ((ix a0 v1) == a1)) rfl (fun c2 => ?_) (fun c2 => ?_)
    · have h := cond_t h c2
      refine sr [(4, vb true)] [some (.row 1 (List.map vt a0))] ?_
      refine TriE.ret ?_
      have h := Option.some.inj h
      subst h
      exact DoneS.ret (S' := ⟨[(4, vb true)], [some (.row 1 (List.map vt a0))]⟩) Sees.refl rfl rfl
    have h := cond_f h c2
    refine TriE.skip ?_
    refine TriE.regJ ?_
    refine rn 1 [(0, .own 0 0 a0.length), (1, vt a1), (10, vi v1)] [some (.row 1 (List.map vt a0))] ?_
    obtain ⟨c3, h⟩ := chk_some h
    refine jv (vi ((v1 + 1 : Nat) : Int)) (cy (I0 11 (.bin .add false (.t 10) (.c (.p (.int .i64 1)))))) (r_addn (i := v1) (j := 1) rfl rfl c3) rfl ?_
    refine jq 1 [(0, .own 0 0 a0.length), (1, vt a1), (5, vi ((v1 + 1 : Nat) : Int))] [some (.row 1 (List.map vt a0))] ?_
    exact Vs.intro sy ⟨(v1 + 1), rfl, h⟩
  have h := cond_f h c1
  refine TriE.exit ?_
  exact Vs.intro sy ⟨(), rfl, h⟩
theorem agrafferef08_CheckWire_ok (n : Nat) (a0 : List Coil) (a1 : List WirePiece) (r : Int) (h : agrafferef08_CheckWire n a0 a1 = some r) : FnL Tryz.prog 31 [eS 3 eCoil a0, eS 3 eWirePiece a1] [] (vi r) [] := by
  dsimp only [agrafferef08_CheckWire] at h
  refine FnL.ofS (ts := [4]) Tryz.call31 Tryz.func31 rfl rfl (Nat.le_of_ble_eq_true rfl) (Nat.le_of_ble_eq_true rfl) (fun j h => absurd h (Nat.not_lt_zero j)) ?_
  refine sr [(0, eS 3 eCoil a0), (1, eS 3 eWirePiece a1)] [] ?_
  refine TriE.seq ?_
  refine sj ?_
  refine rn 1 [(0, eS 3 eCoil a0), (1, eS 3 eWirePiece a1), (8, eS 3 eCoil a0)] [] ?_
  refine jv (vi (a0.length : Int)) (cy (I0 9 (.len 0 (.t 8)))) (ok_len_m rfl) rfl ?_
  refine jv (vb (decide (40 < a0.length))) (cy (I0 10 (.bin .gtr false (.t 9) (.c (.p (.int .i64 40)))))) (n_gtr (i := a0.length) (j := 40) rfl rfl) rfl ?_
  refine jp [(0, eS 3 eCoil a0), (1, eS 3 eWirePiece a1), (10, vb (decide (40 < a0.length)))] ?_
  refine TriE.cond (b := decide (40 < a0.length)) rfl (fun c1 => ?_) (fun c1 => ?_)
  · have h := cond_t h c1
    refine sr [(4, vi 8)] [] ?_
    refine TriE.ret ?_
    have h := Option.some.inj h
    subst h
    exact DoneS.ret (S' := ⟨[(4, vi 8)], []⟩) Sees.refl rfl rfl
  have h := cond_f h c1
  refine TriE.skip ?_
  refine sr [(0, eS 3 eCoil a0), (1, eS 3 eWirePiece a1), (5, .emp)] [] ?_
  refine TriE.seqK h (fun (_ : Unit) => St.mk [(1, eS 3 eWirePiece a1)] []) ?_ ?_
  · rintro ⟨⟩ h
    refine TriE.seq ?_
    refine sj ?_
    refine rn 1 [(1, eS 3 eWirePiece a1), (55, eS 3 eWirePiece a1)] [] ?_
    refine jv (vi (a1.length : Int)) (cy (I0 56 (.len 0 (.t 55)))) (ok_len_m rfl) rfl ?_
    refine jv (vb (decide (60 < a1.length))) (cy (I0 57 (.bin .gtr false (.t 56) (.c (.p (.int .i64 60)))))) (n_gtr (i := a1.length) (j := 60) rfl rfl) rfl ?_
    refine jp [(1, eS 3 eWirePiece a1), (57, vb (decide (60 < a1.length)))] ?_
    refine TriE.cond (b := decide (60 < a1.length)) rfl (fun c8 => ?_) (fun c8 => ?_)
    · have h := cond_t h c8
      refine sr [(4, vi 8)] [] ?_
      refine TriE.ret ?_
      have h := Option.some.inj h
      subst h
      exact DoneS.ret (S' := ⟨[(4, vi 8)], []⟩) Sees.refl rfl rfl
    have h := cond_f h c8
    refine TriE.skip ?_
    refine TriE.seqK h (fun (_ : Unit) => St.mk [] []) ?_ ?_
    · rintro ⟨⟩ h
      refine sr [(4, vi 0)] [] ?_
      refine TriE.ret ?_
      have h := Option.some.inj h
      subst h
      exact DoneS.ret (S' := ⟨[(4, vi 0)], []⟩) Sees.refl rfl rfl
    intro k2 h
    refine sr [(1, eS 3 eWirePiece a1), (7, vi 0)] [] ?_
    refine TriE.block ?_
    refine TriE.sees (S' := ⟨[(1, eS 3 eWirePiece a1), (7, vi 0)], []⟩) sy ?_
    refine TriE.loopN h (fun (v14 : Nat) => St.mk [(1, eS 3 eWirePiece a1), (7, vi v14)] []) rfl ?_
    clear h
    rintro back v14 h
    dsimp only [agrafferef08_CheckWire_L2] at h
    refine TriE.seq ?_
    refine sj ?_
    refine rn 2 [(1, eS 3 eWirePiece a1), (7, vi v14), (58, vi v14), (59, eS 3 eWirePiece a1)] [] ?_
    refine jv (vi (a1.length : Int)) (cy (I0 60 (.len 0 (.t 59)))) (ok_len_m rfl) rfl ?_
    refine jv (vb (decide (v14 < a1.length))) (cy (I0 61 (.bin .lss false (.t 58) (.t 60)))) (n_lss (i := v14) (j := a1.length) rfl rfl) rfl ?_
    refine jp [(1, eS 3 eWirePiece a1), (7, vi v14), (61, vb (decide (v14 < a1.length)))] ?_
    refine TriE.cond (b := decide (v14 < a1.length)) rfl (fun c9 => ?_) (fun c9 => ?_)
    · have h := cond_t h c9
      refine TriE.skip ?_
      refine TriE.seq ?_
      refine TriE.block ?_
      refine sj ?_
      refine rn 2 [(1, eS 3 eWirePiece a1), (7, vi v14), (64, eS 3 eWirePiece a1), (65, vi v14)] [] ?_
      refine jv (.fptr 3 (List.map eWirePiece a1) v14 0) (cy (I0 66 (.iaddr 3 (.t 64) (.t 65)))) (ok_iaddr_m (j := v14) rfl rfl rfl c9) rfl ?_
      refine rn 1 [(1, eS 3 eWirePiece a1), (7, vi v14), (67, .fptr 3 (List.map eWirePiece a1) v14 0)] [] ?_
      refine jv (vi ((ix a1 v14).Gauge)) (cy (I0 68 (.load false 1 (.t 67)))) (ok_load_fm (v := vi ((ix a1 v14).Gauge)) rfl c9 rfl) rfl ?_
      obtain ⟨y15, hy15, h⟩ := bind_some h
      refine RegJ.op (Op1.call (y' := vb ((decide (100 ≤ ((ix a1 v14).Gauge))) && (decide (((ix a1 v14).Gauge) ≤ 3000)))) (obx := []) (oby := []) (ob2 := []) _ _ (cy (I0 69 (.call 93 [(.t 68), (.c (.p (.int .i64 100))), (.c (.p (.int .i64 3000)))]))) rfl (agraffebase_Within_ok n ((ix a1 v14).Gauge) 100 3000 y15 hy15) [] (by kernel_rfl) (.cons rfl (.cons rfl (.cons rfl (.cons rfl .nil)))) (by kernel_rfl) (by kernel_rfl) ObsRen.nil (by kernel_rfl) ObsRen.nil (by kernel_rfl)) ?_
      refine rn 2 [(1, eS 3 eWirePiece a1), (7, vi v14), (71, vb (!((decide (100 ≤ ((ix a1 v14).Gauge))) && (decide (((ix a1 v14).Gauge) ≤ 3000)))))] [] ?_
      refine RegJ.op (Op1.valk (v := eS 3 eWirePiece a1) _ _ (cy (IG 72 (.mov (.t 1)) 71 false)) rfl (by kernel_rfl) (fun hg => (.cons rfl .nil))) ?_
      refine RegJ.op (Op1.valk (v := vi v14) _ _ (cy (IG 73 (.mov (.t 7)) 71 false)) rfl (by kernel_rfl) (fun hg => (.cons rfl .nil))) ?_
      refine RegJ.op (Op1.valg (v := .fptr 3 (List.map eWirePiece a1) v14 0) _ _ (cy (IG 74 (.iaddr 3 (.t 72) (.t 73)) 71 false)) rfl (fun hg => (ok_iaddr_m (j := v14) rfl rfl rfl c9)) (fun hg => (.cons hg (.cons hg .nil)))) ?_
      refine RegJ.op (Op1.valk (v := .fptr 3 (List.map eWirePiece a1) v14 1) _ _ (cy (IG 75 (.faddr 1 (.t 74)) 71 false)) rfl (by kernel_rfl) (fun hg => (.cons hg .nil))) ?_
      refine RegJ.op (Op1.valg (v := vi ((ix a1 v14).Length)) _ _ (cy (IG 76 (.load false 1 (.t 75)) 71 false)) rfl (fun hg => (ok_load_fm (v := vi ((ix a1 v14).Length)) rfl c9 rfl)) (fun hg => (.cons hg .nil))) ?_
      obtain ⟨y16, hy16, h⟩ := bind_some h
      refine RegJ.op (Op1.callg (g := !(!((decide (100 ≤ ((ix a1 v14).Gauge))) && (decide (((ix a1 v14).Gauge) ≤ 3000))))) (y' := vb ((decide (1 ≤ ((ix a1 v14).Length))) && (decide (((ix a1 v14).Length) ≤ 300000)))) (obx := []) _ _ (cy (IG 77 (.call 93 [(.t 76), (.c (.p (.int .i64 1))), (.c (.p (.int .i64 300000)))]) 71 false)) rfl (fun hg => agraffebase_Within_ok n ((ix a1 v14).Length) 1 300000 y16 (gcall_some hy16 hg)) [] (fun hg => by kernel_rfl) (fun hg => (.cons rfl (.cons hg (.cons rfl (.cons rfl .nil))))) (by kernel_rfl) (by kernel_rfl) ObsRen.nil (by kernel_rfl) (by kernel_rfl)) ?_
      refine RegJ.op (Op1.valk (v := vb (!((decide (1 ≤ ((ix a1 v14).Length))) && (decide (((ix a1 v14).Length) ≤ 300000))))) _ _ (cy (IG 78 (.un .not (.t 77)) 71 false)) rfl (by kernel_rfl) (fun hg => (.cons hg .nil))) ?_
      refine RegJ.op (Op1.or (cy (I0 79 (.pick (.t 71) (.c (.p (.bool true))) (.t 78)))) rfl rfl (by first | exact hokO1 | exact hokO0 | simp)) ?_
      refine rn 1 [(1, eS 3 eWirePiece a1), (7, vi v14), (72, .cond (!(!((decide (100 ≤ ((ix a1 v14).Gauge))) && (decide (((ix a1 v14).Gauge) ≤ 3000))))) (eS 3 eWirePiece a1)), (73, .cond (!(!((decide (100 ≤ ((ix a1 v14).Gauge))) && (decide (((ix a1 v14).Gauge) ≤ 3000))))) (vi v14)), (74, .cond (!(!((decide (100 ≤ ((ix a1 v14).Gauge))) && (decide (((ix a1 v14).Gauge) ≤ 3000))))) (.fptr 3 (List.map eWirePiece a1) v14 0)), (75, .cond (!(!((decide (100 ≤ ((ix a1 v14).Gauge))) && (decide (((ix a1 v14).Gauge) ≤ 3000))))) (.fptr 3 (List.map eWirePiece a1) v14 1)), (76, .cond (!(!((decide (100 ≤ ((ix a1 v14).Gauge))) && (decide (((ix a1 v14).Gauge) ≤ 3000))))) (vi ((ix a1 v14).Length))), (77, .cond (!(!((decide (100 ≤ ((ix a1 v14).Gauge))) && (decide (((ix a1 v14).Gauge) ≤ 3000))))) (vb ((decide (1 ≤ ((ix a1 v14).Length))) && (decide (((ix a1 v14).Length) ≤ 300000))))), (78, .cond (!(!((decide (100 ≤ ((ix a1 v14).Gauge))) && (decide (((ix a1 v14).Gauge) ≤ 3000))))) (vb (!((decide (1 ≤ ((ix a1 v14).Length))) && (decide (((ix a1 v14).Length) ≤ 300000)))))), (80, vb ((!((decide (100 ≤ ((ix a1 v14).Gauge))) && (decide (((ix a1 v14).Gauge) ≤ 3000)))) || (!((decide (1 ≤ ((ix a1 v14).Length))) && (decide (((ix a1 v14).Length) ≤ 300000))))))] [] ?_
      refine RegJ.op (Op1.valk (v := eS 3 eWirePiece a1) _ _ (cy (IG 81 (.mov (.t 1)) 80 false)) rfl (by kernel_rfl) (fun hg => (.cons rfl .nil))) ?_
      refine RegJ.op (Op1.valk (v := vi v14) _ _ (cy (IG 82 (.mov (.t 7)) 80 false)) rfl (by kernel_rfl) (fun hg => (.cons rfl .nil))) ?_
      refine RegJ.op (Op1.valg (v := .fptr 3 (List.map eWirePiece a1) v14 0) _ _ (cy (IG 83 (.iaddr 3 (.t 81) (.t 82)) 80 false)) rfl (fun hg => (ok_iaddr_m (j := v14) rfl rfl rfl c9)) (fun hg => (.cons hg (.cons hg .nil)))) ?_
      refine RegJ.op (Op1.valk (v := .fptr 3 (List.map eWirePiece a1) v14 2) _ _ (cy (IG 84 (.faddr 2 (.t 83)) 80 false)) rfl (by kernel_rfl) (fun hg => (.cons hg .nil))) ?_
      refine RegJ.op (Op1.valg (v := vi ((ix a1 v14).Count)) _ _ (cy (IG 85 (.load false 1 (.t 84)) 80 false)) rfl (fun hg => (ok_load_fm (v := vi ((ix a1 v14).Count)) rfl c9 rfl)) (fun hg => (.cons hg .nil))) ?_
      obtain ⟨y17, hy17, h⟩ := bind_some h
      refine RegJ.op (Op1.callg (g := !((!((decide (100 ≤ ((ix a1 v14).Gauge))) && (decide (((ix a1 v14).Gauge) ≤ 3000)))) || (!((decide (1 ≤ ((ix a1 v14).Length))) && (decide (((ix a1 v14).Length) ≤ 300000)))))) (y' := vb ((decide (1 ≤ ((ix a1 v14).Count))) && (decide (((ix a1 v14).Count) ≤ 100)))) (obx := []) _ _ (cy (IG 86 (.call 93 [(.t 85), (.c (.p (.int .i64 1))), (.c (.p (.int .i64 100)))]) 80 false)) rfl (fun hg => agraffebase_Within_ok n ((ix a1 v14).Count) 1 100 y17 (gcall_some hy17 hg)) [] (fun hg => by kernel_rfl) (fun hg => (.cons rfl (.cons hg (.cons rfl (.cons rfl .nil))))) (by kernel_rfl) (by kernel_rfl) ObsRen.nil (by kernel_rfl) (by kernel_rfl)) ?_
      refine RegJ.op (Op1.valk (v := vb (!((decide (1 ≤ ((ix a1 v14).Count))) && (decide (((ix a1 v14).Count) ≤ 100))))) _ _ (cy (IG 87 (.un .not (.t 86)) 80 false)) rfl (by kernel_rfl) (fun hg => (.cons hg .nil))) ?_
      refine RegJ.op (Op1.or (cy (I0 88 (.pick (.t 80) (.c (.p (.bool true))) (.t 87)))) rfl rfl (by first | exact hokO1 | exact hokO0 | simp)) ?_
      refine jp [(1, eS 3 eWirePiece a1), (7, vi v14), (88, vb (((!((decide (100 ≤ ((ix a1 v14).Gauge))) && (decide (((ix a1 v14).Gauge) ≤ 3000)))) || (!((decide (1 ≤ ((ix a1 v14).Length))) && (decide (((ix a1 v14).Length) ≤ 300000))))) || (!((decide (1 ≤ ((ix a1 v14).Count))) && (decide (((ix a1 v14).Count) ≤ 100))))))] ?_
      refine TriE.cond (b := ((!((decide (100 ≤ ((ix a1 v14).Gauge))) && (decide (((ix a1 v14).Gauge) ≤ 3000)))) || (!((decide (1 ≤ ((ix a1 v14).Length))) && (decide (((ix a1 v14).Length) ≤ 300000))))) || (!((decide (1 ≤ ((ix a1 v14).Count))) && (decide (((ix a1 v14).Count) ≤ 100))))) rfl (fun c10 => ?_) (fun c10 => ?_)
      · have h := cond_t h c10
        refine sr [(4, vi 2)] [] ?_
        refine TriE.ret ?_
        have h := Option.some.inj h
        subst h
        exact DoneS.ret (S' := ⟨[(4, vi 2)], []⟩) Sees.refl rfl rfl
      have h := cond_f h c10
      refine TriE.skip ?_
      refine TriE.regJ ?_
      refine rn 1 [(1, eS 3 eWirePiece a1), (62, vi v14)] [] ?_
      obtain ⟨c11, h⟩ := chk_some h
      refine jv (vi ((v14 + 1 : Nat) : Int)) (cy (I0 63 (.bin .add false (.t 62) (.c (.p (.int .i64 1)))))) (r_addn (i := v14) (j := 1) rfl rfl c11) rfl ?_
      refine jq 1 [(1, eS 3 eWirePiece a1), (7, vi ((v14 + 1 : Nat) : Int))] [] ?_
      exact Vs.intro sy ⟨(v14 + 1), rfl, h⟩
    have h := cond_f h c9
    refine TriE.exit ?_
    exact Vs.intro sy ⟨(), rfl, h⟩
  intro k1 h
  refine sr [(0, eS 3 eCoil a0), (1, eS 3 eWirePiece a1), (5, .emp), (6, vi 0)] [] ?_
  refine TriE.block ?_
  refine TriE.sees (S' := ⟨[(0, eS 3 eCoil a0), (1, eS 3 eWirePiece a1), (5, .own 0 0 ([] : List Str).length), (6, vi 0)], [some (.row 1 (List.map vt ([] : List Str)))]⟩) (Sees.trans (Sees.co (fr' := [(0, eS 3 eCoil a0), (1, eS 3 eWirePiece a1), (5, .own 0 0 0), (6, vi 0)]) (ob' := []) (.cons .same (.cons .same (.cons .own (.cons .same .nil)))) ObCo.nil 1) sy) ?_
  refine TriE.loopN h (fun (t : (List Str) × Nat) => match t with | (v5, v6) => St.mk [(0, eS 3 eCoil a0), (1, eS 3 eWirePiece a1), (5, .own 0 0 v5.length), (6, vi v6)] [some (.row 1 (List.map vt v5))]) rfl ?_
  clear h
  rintro back ⟨v5, v6⟩ h
  dsimp only [agrafferef08_CheckWire_L1] at h
  refine TriE.seq ?_
  refine sj ?_
  refine rn 2 [(0, eS 3 eCoil a0), (1, eS 3 eWirePiece a1), (5, .own 0 0 v5.length), (6, vi v6), (11, vi v6), (12, eS 3 eCoil a0)] [some (.row 1 (List.map vt v5))] ?_
  refine jv (vi (a0.length : Int)) (cy (I0 13 (.len 0 (.t 12)))) (ok_len_m rfl) rfl ?_
  refine jv (vb (decide (v6 < a0.length))) (cy (I0 14 (.bin .lss false (.t 11) (.t 13)))) (n_lss (i := v6) (j := a0.length) rfl rfl) rfl ?_
  refine jp [(0, eS 3 eCoil a0), (1, eS 3 eWirePiece a1), (5, .own 0 0 v5.length), (6, vi v6), (14, vb (decide (v6 < a0.length)))] ?_
  refine TriE.cond (b := decide (v6 < a0.length)) rfl (fun c2 => ?_) (fun c2 => ?_)
  · have h := cond_t h c2
    refine TriE.skip ?_
    refine TriE.seq ?_
    refine TriE.block ?_
    refine TriE.seq ?_
    refine sj ?_
    refine rn 2 [(0, eS 3 eCoil a0), (1, eS 3 eWirePiece a1), (5, .own 0 0 v5.length), (6, vi v6), (17, eS 3 eCoil a0), (18, vi v6)] [some (.row 1 (List.map vt v5))] ?_
    refine jv (.fptr 3 (List.map eCoil a0) v6 0) (cy (I0 19 (.iaddr 3 (.t 17) (.t 18)))) (ok_iaddr_m (j := v6) rfl rfl rfl c2) rfl ?_
    refine rn 1 [(0, eS 3 eCoil a0), (1, eS 3 eWirePiece a1), (5, .own 0 0 v5.length), (6, vi v6), (20, .fptr 3 (List.map eCoil a0) v6 0)] [some (.row 1 (List.map vt v5))] ?_
    refine jv (vt ((ix a0 v6).Name)) (cy (I0 21 (.load false 1 (.t 20)))) (ok_load_fm (v := vt ((ix a0 v6).Name)) rfl c2 rfl) rfl ?_
    obtain ⟨y7, hy7, h⟩ := bind_some h
    refine RegJ.op (Op1.call (y' := vb y7) (obx := []) (oby := []) (ob2 := [some (.row 1 (List.map vt v5))]) _ _ (cy (I0 22 (.call 92 [(.t 21)]))) rfl (agraffebase_IsName_ok n ((ix a0 v6).Name) y7 hy7) [] (by kernel_rfl) (.cons rfl (.cons rfl .nil)) (by kernel_rfl) (by kernel_rfl) ObsRen.nil (by kernel_rfl) ObsRen.nil (by kernel_rfl)) ?_
    refine jq 1 [(0, eS 3 eCoil a0), (1, eS 3 eWirePiece a1), (5, .own 0 0 v5.length), (6, vi v6), (23, vb (!y7))] [some (.row 1 (List.map vt v5))] ?_
    refine TriE.cond (b := !y7) rfl (fun c3 => ?_) (fun c3 => ?_)
    · have h := cond_t h c3
      refine sr [(4, vi 4)] [some (.row 1 (List.map vt v5))] ?_
      refine TriE.ret ?_
      have h := Option.some.inj h
      subst h
      exact DoneS.ret (S' := ⟨[(4, vi 4)], []⟩) (sc [] (by decide) (by kernel_rfl) ObRen.nil rfl rfl) rfl rfl
    have h := cond_f h c3
    refine TriE.skip ?_
    refine TriE.seq ?_
    refine sj ?_
    refine rn 3 [(0, eS 3 eCoil a0), (1, eS 3 eWirePiece a1), (5, .own 0 0 v5.length), (6, vi v6), (24, .own 0 0 v5.length), (25, eS 3 eCoil a0), (26, vi v6)] [some (.row 1 (List.map vt v5))] ?_
    refine jv (.fptr 3 (List.map eCoil a0) v6 0) (cy (I0 27 (.iaddr 3 (.t 25) (.t 26)))) (ok_iaddr_m (j := v6) rfl rfl rfl c2) rfl ?_
    refine rn 1 [(0, eS 3 eCoil a0), (1, eS 3 eWirePiece a1), (5, .own 0 0 v5.length), (6, vi v6), (24, .own 0 0 v5.length), (28, .fptr 3 (List.map eCoil a0) v6 0)] [some (.row 1 (List.map vt v5))] ?_
    refine jv (vt ((ix a0 v6).Name)) (cy (I0 29 (.load false 1 (.t 28)))) (ok_load_fm (v := vt ((ix a0 v6).Name)) rfl c2 rfl) rfl ?_
    obtain ⟨y8, hy8, h⟩ := bind_some h
    refine RegJ.op (Op1.call (y' := vb y8) (obx := [some (.row 1 (List.map vt v5))]) (oby := [some (.row 1 (List.map vt v5))]) (ob2 := [some (.row 1 (List.map vt v5))]) _ _ (cy (I0 30 (.call 81 [(.t 24), (.t 29)]))) rfl (agraffebase_HasText_2_ok n v5 ((ix a0 v6).Name) y8 hy8) [0] (by kernel_rfl) (.cons rfl (.cons rfl (.cons rfl .nil))) (by kernel_rfl) (by kernel_rfl) (.same (row_ren vt_frz _ _ _) .nil) (by kernel_rfl) (.same (row_ren vt_frz _ _ _) .nil) (by kernel_rfl)) ?_
    refine jp [(0, eS 3 eCoil a0), (1, eS 3 eWirePiece a1), (5, .own 0 0 v5.length), (6, vi v6), (30, vb y8)] ?_
    refine TriE.cond (b := y8) rfl (fun c4 => ?_) (fun c4 => ?_)
    · have h := cond_t h c4
      refine sr [(4, vi 5)] [some (.row 1 (List.map vt v5))] ?_
      refine TriE.ret ?_
      have h := Option.some.inj h
      subst h
      exact DoneS.ret (S' := ⟨[(4, vi 5)], []⟩) (sc [] (by decide) (by kernel_rfl) ObRen.nil rfl rfl) rfl rfl
    have h := cond_f h c4
    refine TriE.skip ?_
    refine sj ?_
    refine rn 3 [(0, eS 3 eCoil a0), (1, eS 3 eWirePiece a1), (6, vi v6), (31, .own 0 0 v5.length), (32, eS 3 eCoil a0), (33, vi v6)] [some (.row 1 (List.map vt v5))] ?_
    refine jv (.fptr 3 (List.map eCoil a0) v6 0) (cy (I0 34 (.iaddr 3 (.t 32) (.t 33)))) (ok_iaddr_m (j := v6) rfl rfl rfl c2) rfl ?_
    refine rn 1 [(0, eS 3 eCoil a0), (1, eS 3 eWirePiece a1), (6, vi v6), (31, .own 0 0 v5.length), (35, .fptr 3 (List.map eCoil a0) v6 0)] [some (.row 1 (List.map vt v5))] ?_
    refine jv (vt ((ix a0 v6).Name)) (cy (I0 36 (.load false 1 (.t 35)))) (ok_load_fm (v := vt ((ix a0 v6).Name)) rfl c2 rfl) rfl ?_
    refine rn 1 [(0, eS 3 eCoil a0), (1, eS 3 eWirePiece a1), (6, vi v6), (31, .own 0 0 v5.length), (37, .own 1 0 1)] [some (.row 1 (List.map vt v5)), some (.row 1 [vt ((ix a0 v6).Name)])] ?_
    obtain ⟨c5, h⟩ := chk_some h
    refine je (.own 2 0 ((v5 ++ ([(ix a0 v6).Name] : List Str)).length)) [none, some (.row 1 [vt ((ix a0 v6).Name)]), some (.row 1 (List.map vt (v5 ++ ([(ix a0 v6).Name] : List Str))))] (cy (I0 38 (.app 1 16 (.t 31) (.t 37)))) (ok_app_own (l := v5) (l2 := ([(ix a0 v6).Name] : List Str)) (e := vt) (u := .own 1 0 1) rfl rfl rfl rfl rfl c5) rfl rfl rfl ?_
    refine jq 1 [(0, eS 3 eCoil a0), (1, eS 3 eWirePiece a1), (6, vi v6), (5, .own 2 0 ((v5 ++ ([(ix a0 v6).Name] : List Str)).length))] [none, some (.row 1 [vt ((ix a0 v6).Name)]), some (.row 1 (List.map vt (v5 ++ ([(ix a0 v6).Name] : List Str))))] ?_
    refine sj ?_
    refine rn 2 [(0, eS 3 eCoil a0), (1, eS 3 eWirePiece a1), (6, vi v6), (5, .own 2 0 ((v5 ++ ([(ix a0 v6).Name] : List Str)).length)), (39, eS 3 eCoil a0), (40, vi v6)] [none, some (.row 1 [vt ((ix a0 v6).Name)]), some (.row 1 (List.map vt (v5 ++ ([(ix a0 v6).Name] : List Str))))] ?_
    refine jv (.fptr 3 (List.map eCoil a0) v6 0) (cy (I0 41 (.iaddr 3 (.t 39) (.t 40)))) (ok_iaddr_m (j := v6) rfl rfl rfl c2) rfl ?_
    refine rn 1 [(0, eS 3 eCoil a0), (1, eS 3 eWirePiece a1), (6, vi v6), (5, .own 2 0 ((v5 ++ ([(ix a0 v6).Name] : List Str)).length)), (42, .fptr 3 (List.map eCoil a0) v6 1)] [none, some (.row 1 [vt ((ix a0 v6).Name)]), some (.row 1 (List.map vt (v5 ++ ([(ix a0 v6).Name] : List Str))))] ?_
    refine jv (vi ((ix a0 v6).Gauge)) (cy (I0 43 (.load false 1 (.t 42)))) (ok_load_fm (v := vi ((ix a0 v6).Gauge)) rfl c2 rfl) rfl ?_
    obtain ⟨y9, hy9, h⟩ := bind_some h
    refine RegJ.op (Op1.call (y' := vb ((decide (100 ≤ ((ix a0 v6).Gauge))) && (decide (((ix a0 v6).Gauge) ≤ 3000)))) (obx := []) (oby := []) (ob2 := [none, some (.row 1 [vt ((ix a0 v6).Name)]), some (.row 1 (List.map vt (v5 ++ ([(ix a0 v6).Name] : List Str))))]) _ _ (cy (I0 44 (.call 93 [(.t 43), (.c (.p (.int .i64 100))), (.c (.p (.int .i64 3000)))]))) rfl (agraffebase_Within_ok n ((ix a0 v6).Gauge) 100 3000 y9 hy9) [] (by kernel_rfl) (.cons rfl (.cons rfl (.cons rfl (.cons rfl .nil)))) (by kernel_rfl) (by kernel_rfl) ObsRen.nil (by kernel_rfl) ObsRen.nil (by kernel_rfl)) ?_
    refine rn 2 [(0, eS 3 eCoil a0), (1, eS 3 eWirePiece a1), (6, vi v6), (5, .own 2 0 ((v5 ++ ([(ix a0 v6).Name] : List Str)).length)), (46, vb (!((decide (100 ≤ ((ix a0 v6).Gauge))) && (decide (((ix a0 v6).Gauge) ≤ 3000)))))] [none, some (.row 1 [vt ((ix a0 v6).Name)]), some (.row 1 (List.map vt (v5 ++ ([(ix a0 v6).Name] : List Str))))] ?_
    refine RegJ.op (Op1.valk (v := eS 3 eCoil a0) _ _ (cy (IG 47 (.mov (.t 0)) 46 false)) rfl (by kernel_rfl) (fun hg => (.cons rfl .nil))) ?_
    refine RegJ.op (Op1.valk (v := vi v6) _ _ (cy (IG 48 (.mov (.t 6)) 46 false)) rfl (by kernel_rfl) (fun hg => (.cons rfl .nil))) ?_
    refine RegJ.op (Op1.valg (v := .fptr 3 (List.map eCoil a0) v6 0) _ _ (cy (IG 49 (.iaddr 3 (.t 47) (.t 48)) 46 false)) rfl (fun hg => (ok_iaddr_m (j := v6) rfl rfl rfl c2)) (fun hg => (.cons hg (.cons hg .nil)))) ?_
    refine RegJ.op (Op1.valk (v := .fptr 3 (List.map eCoil a0) v6 2) _ _ (cy (IG 50 (.faddr 2 (.t 49)) 46 false)) rfl (by kernel_rfl) (fun hg => (.cons hg .nil))) ?_
    refine RegJ.op (Op1.valg (v := vi ((ix a0 v6).Length)) _ _ (cy (IG 51 (.load false 1 (.t 50)) 46 false)) rfl (fun hg => (ok_load_fm (v := vi ((ix a0 v6).Length)) rfl c2 rfl)) (fun hg => (.cons hg .nil))) ?_
    obtain ⟨y10, hy10, h⟩ := bind_some h
    refine RegJ.op (Op1.callg (g := !(!((decide (100 ≤ ((ix a0 v6).Gauge))) && (decide (((ix a0 v6).Gauge) ≤ 3000))))) (y' := vb ((decide (0 ≤ ((ix a0 v6).Length))) && (decide (((ix a0 v6).Length) ≤ 1000000000)))) (obx := []) _ _ (cy (IG 52 (.call 93 [(.t 51), (.c (.p (.int .i64 0))), (.c (.p (.int .i64 1000000000)))]) 46 false)) rfl (fun hg => agraffebase_Within_ok n ((ix a0 v6).Length) 0 1000000000 y10 (gcall_some hy10 hg)) [] (fun hg => by kernel_rfl) (fun hg => (.cons rfl (.cons hg (.cons rfl (.cons rfl .nil))))) (by kernel_rfl) (by kernel_rfl) ObsRen.nil (by kernel_rfl) (by kernel_rfl)) ?_
    refine RegJ.op (Op1.valk (v := vb (!((decide (0 ≤ ((ix a0 v6).Length))) && (decide (((ix a0 v6).Length) ≤ 1000000000))))) _ _ (cy (IG 53 (.un .not (.t 52)) 46 false)) rfl (by kernel_rfl) (fun hg => (.cons hg .nil))) ?_
    refine RegJ.op (Op1.or (cy (I0 54 (.pick (.t 46) (.c (.p (.bool true))) (.t 53)))) rfl rfl (by first | exact hokO1 | exact hokO0 | simp)) ?_
    refine jp [(0, eS 3 eCoil a0), (1, eS 3 eWirePiece a1), (6, vi v6), (5, .own 2 0 ((v5 ++ ([(ix a0 v6).Name] : List Str)).length)), (54, vb ((!((decide (100 ≤ ((ix a0 v6).Gauge))) && (decide (((ix a0 v6).Gauge) ≤ 3000)))) || (!((decide (0 ≤ ((ix a0 v6).Length))) && (decide (((ix a0 v6).Length) ≤ 1000000000))))))] ?_
    refine TriE.cond (b := (!((decide (100 ≤ ((ix a0 v6).Gauge))) && (decide (((ix a0 v6).Gauge) ≤ 3000)))) || (!((decide (0 ≤ ((ix a0 v6).Length))) && (decide (((ix a0 v6).Length) ≤ 1000000000))))) rfl (fun c6 => ?_) (fun c6 => ?_)
    · have h := cond_t h c6
      refine sr [(4, vi 2)] [none, some (.row 1 [vt ((ix a0 v6).Name)]), some (.row 1 (List.map vt (v5 ++ ([(ix a0 v6).Name] : List Str))))] ?_
      refine TriE.ret ?_
      have h := Option.some.inj h
      subst h
      exact DoneS.ret (S' := ⟨[(4, vi 2)], []⟩) (sc [] (by decide) (by kernel_rfl) ObRen.nil rfl rfl) rfl rfl
    have h := cond_f h c6
    refine TriE.skip ?_
    refine TriE.regJ ?_
    refine rn 1 [(0, eS 3 eCoil a0), (1, eS 3 eWirePiece a1), (5, .own 2 0 ((v5 ++ ([(ix a0 v6).Name] : List Str)).length)), (15, vi v6)] [none, some (.row 1 [vt ((ix a0 v6).Name)]), some (.row 1 (List.map vt (v5 ++ ([(ix a0 v6).Name] : List Str))))] ?_
    obtain ⟨c7, h⟩ := chk_some h
    refine jv (vi ((v6 + 1 : Nat) : Int)) (cy (I0 16 (.bin .add false (.t 15) (.c (.p (.int .i64 1)))))) (r_addn (i := v6) (j := 1) rfl rfl c7) rfl ?_
    refine jq 1 [(0, eS 3 eCoil a0), (1, eS 3 eWirePiece a1), (5, .own 2 0 ((v5 ++ ([(ix a0 v6).Name] : List Str)).length)), (6, vi ((v6 + 1 : Nat) : Int))] [none, some (.row 1 [vt ((ix a0 v6).Name)]), some (.row 1 (List.map vt (v5 ++ ([(ix a0 v6).Name] : List Str))))] ?_
    exact Vs.intro (sc [2] (by decide) (by kernel_rfl) (obRen_row vt_frz rfl .nil) rfl rfl) ⟨((v5 ++ ([(ix a0 v6).Name] : List Str)), v6 + 1), rfl, h⟩
  have h := cond_f h c2
  refine TriE.exit ?_
  exact Vs.intro (sc [] (by decide) (by kernel_rfl) ObRen.nil rfl rfl) ⟨(), rfl, h⟩
theorem agrafferef08_lengths_ok (n : Nat) (a0 : List Coil) (r : (List Int)) (h : agrafferef08_lengths n a0 = some r) : FnL Tryz.prog 102 [eS 3 eCoil a0] [] (.own 0 0 r.length) [some (.row 1 (List.map vi r))] := by
  dsimp only [agrafferef08_lengths] at h
  refine FnL.ofS (ts := [2]) Tryz.call102 Tryz.func102 rfl rfl (Nat.le_of_ble_eq_true rfl) (Nat.le_of_ble_eq_true rfl) (fun j h => absurd h (Nat.not_lt_zero j)) ?_
  refine sr [(0, eS 3 eCoil a0)] [] ?_
  refine sr [(0, eS 3 eCoil a0), (3, .emp)] [] ?_
  refine TriE.seqK h (fun (v3 : (List Int)) => St.mk [(3, .own 0 0 v3.length)] [some (.row 1 (List.map vi v3))]) ?_ ?_
  · rintro v3 h
    refine sr [(2, .own 0 0 v3.length)] [some (.row 1 (List.map vi v3))] ?_
    refine TriE.ret ?_
    have h := Option.some.inj h
    subst h
    exact DoneS.ret (S' := ⟨[(2, .own 0 0 v3.length)], [some (.row 1 (List.map vi v3))]⟩) Sees.refl rfl rfl
  intro k1 h
  refine sr [(0, eS 3 eCoil a0), (3, .emp), (4, vi 0)] [] ?_
  refine TriE.block ?_
  refine TriE.sees (S' := ⟨[(0, eS 3 eCoil a0), (3, .own 0 0 ([] : List Int).length), (4, vi 0)], [some (.row 1 (List.map vi ([] : List Int)))]⟩) (Sees.trans (Sees.co (fr' := [(0, eS 3 eCoil a0), (3, .own 0 0 0), (4, vi 0)]) (ob' := []) (.cons .same (.cons .own (.cons .same .nil))) ObCo.nil 1) sy) ?_
  refine TriE.loopN h (fun (t : (List Int) × Nat) => match t with | (v1, v2) => St.mk [(0, eS 3 eCoil a0), (3, .own 0 0 v1.length), (4, vi v2)] [some (.row 1 (List.map vi v1))]) rfl ?_
  clear h
  rintro back ⟨v1, v2⟩ h
  dsimp only [agrafferef08_lengths_L1] at h
  refine TriE.seq ?_
  refine sj ?_
  refine rn 2 [(0, eS 3 eCoil a0), (3, .own 0 0 v1.length), (4, vi v2), (5, vi v2), (6, eS 3 eCoil a0)] [some (.row 1 (List.map vi v1))] ?_
  refine jv (vi (a0.length : Int)) (cy (I0 7 (.len 0 (.t 6)))) (ok_len_m rfl) rfl ?_
  refine jv (vb (decide (v2 < a0.length))) (cy (I0 8 (.bin .lss false (.t 5) (.t 7)))) (n_lss (i := v2) (j := a0.length) rfl rfl) rfl ?_
  refine jp [(0, eS 3 eCoil a0), (3, .own 0 0 v1.length), (4, vi v2), (8, vb (decide (v2 < a0.length)))] ?_
  refine TriE.cond (b := decide (v2 < a0.length)) rfl (fun c1 => ?_) (fun c1 => ?_)
  · have h := cond_t h c1
    refine TriE.skip ?_
    refine TriE.seq ?_
    refine TriE.block ?_
    refine TriE.regJ ?_
    refine rn 3 [(0, eS 3 eCoil a0), (4, vi v2), (11, .own 0 0 v1.length), (12, eS 3 eCoil a0), (13, vi v2)] [some (.row 1 (List.map vi v1))] ?_
    refine jv (.fptr 3 (List.map eCoil a0) v2 0) (cy (I0 14 (.iaddr 3 (.t 12) (.t 13)))) (ok_iaddr_m (j := v2) rfl rfl rfl c1) rfl ?_
    refine rn 1 [(0, eS 3 eCoil a0), (4, vi v2), (11, .own 0 0 v1.length), (15, .fptr 3 (List.map eCoil a0) v2 2)] [some (.row 1 (List.map vi v1))] ?_
    refine jv (vi ((ix a0 v2).Length)) (cy (I0 16 (.load false 1 (.t 15)))) (ok_load_fm (v := vi ((ix a0 v2).Length)) rfl c1 rfl) rfl ?_
    refine rn 1 [(0, eS 3 eCoil a0), (4, vi v2), (11, .own 0 0 v1.length), (17, .own 1 0 1)] [some (.row 1 (List.map vi v1)), some (.row 1 [vi ((ix a0 v2).Length)])] ?_
    obtain ⟨c2, h⟩ := chk_some h
    refine je (.own 2 0 ((v1 ++ ([(ix a0 v2).Length] : List Int)).length)) [none, some (.row 1 [vi ((ix a0 v2).Length)]), some (.row 1 (List.map vi (v1 ++ ([(ix a0 v2).Length] : List Int))))] (cy (I0 18 (.app 1 8 (.t 11) (.t 17)))) (ok_app_own (l := v1) (l2 := ([(ix a0 v2).Length] : List Int)) (e := vi) (u := .own 1 0 1) rfl rfl rfl rfl rfl c2) rfl rfl rfl ?_
    refine jq 1 [(0, eS 3 eCoil a0), (4, vi v2), (3, .own 2 0 ((v1 ++ ([(ix a0 v2).Length] : List Int)).length))] [none, some (.row 1 [vi ((ix a0 v2).Length)]), some (.row 1 (List.map vi (v1 ++ ([(ix a0 v2).Length] : List Int))))] ?_
    refine TriE.regJ ?_
    refine rn 1 [(0, eS 3 eCoil a0), (3, .own 2 0 ((v1 ++ ([(ix a0 v2).Length] : List Int)).length)), (9, vi v2)] [none, some (.row 1 [vi ((ix a0 v2).Length)]), some (.row 1 (List.map vi (v1 ++ ([(ix a0 v2).Length] : List Int))))] ?_
    obtain ⟨c3, h⟩ := chk_some h
    refine jv (vi ((v2 + 1 : Nat) : Int)) (cy (I0 10 (.bin .add false (.t 9) (.c (.p (.int .i64 1)))))) (r_addn (i := v2) (j := 1) rfl rfl c3) rfl ?_
    refine jq 1 [(0, eS 3 eCoil a0), (3, .own 2 0 ((v1 ++ ([(ix a0 v2).Length] : List Int)).length)), (4, vi ((v2 + 1 : Nat) : Int))] [none, some (.row 1 [vi ((ix a0 v2).Length)]), some (.row 1 (List.map vi (v1 ++ ([(ix a0 v2).Length] : List Int))))] ?_
    exact Vs.intro (sc [2] (by decide) (by kernel_rfl) (obRen_row vi_frz rfl .nil) rfl rfl) ⟨((v1 ++ ([(ix a0 v2).Length] : List Int)), v2 + 1), rfl, h⟩
  have h := cond_f h c1
  refine TriE.exit ?_
  exact Vs.intro sy ⟨v1, rfl, h⟩
theorem agrafferef08_CheckCuts_ok (n : Nat) (a0 : List Coil) (a1 : List WirePiece) (a2 : List (List Int)) (r : Int × (List Int)) (h : agrafferef08_CheckCuts n a0 a1 a2 = some r) : FnL Tryz.prog 32 [eS 3 eCoil a0, eS 3 eWirePiece a1, eS 1 (eS 1 vi) a2] [] (.tup [eS 1 vi r.2, vi r.1]) [] := by
  dsimp only [agrafferef08_CheckCuts] at h
  refine FnL.ofS (ts := [6, 7]) Tryz.call32 Tryz.func32 rfl rfl (Nat.le_of_ble_eq_true rfl) (Nat.le_of_ble_eq_true rfl) (fun j h => absurd h (Nat.not_lt_zero j)) ?_
  refine sr [(0, eS 3 eCoil a0), (1, eS 3 eWirePiece a1), (2, eS 1 (eS 1 vi) a2)] [] ?_
  refine TriE.seq ?_
  refine sj ?_
  refine rn 1 [(0, eS 3 eCoil a0), (1, eS 3 eWirePiece a1), (2, eS 1 (eS 1 vi) a2), (13, eS 1 (eS 1 vi) a2)] [] ?_
  refine jv (vi (a2.length : Int)) (cy (I0 14 (.len 0 (.t 13)))) (ok_len_m rfl) rfl ?_
  refine rn 1 [(0, eS 3 eCoil a0), (1, eS 3 eWirePiece a1), (2, eS 1 (eS 1 vi) a2), (14, vi (a2.length : Int)), (15, eS 3 eWirePiece a1)] [] ?_
  refine jv (vi (a1.length : Int)) (cy (I0 16 (.len 0 (.t 15)))) (ok_len_m rfl) rfl ?_
  refine jv (vb (!decide (a2.length = a1.length))) (cy (I0 17 (.bin .neq false (.t 14) (.t 16)))) (n_neq (i := a2.length) (j := a1.length) rfl rfl) rfl ?_
  refine jp [(0, eS 3 eCoil a0), (1, eS 3 eWirePiece a1), (2, eS 1 (eS 1 vi) a2), (17, vb (!decide (a2.length = a1.length)))] ?_
  refine TriE.cond (b := !decide (a2.length = a1.length)) rfl (fun c1 => ?_) (fun c1 => ?_)
  · have h := cond_t h c1
    refine sr [(6, .emp), (7, vi 10)] [] ?_
    refine TriE.ret ?_
    have h := Option.some.inj h
    subst h
    exact DoneS.ret (S' := ⟨[(6, eS 1 vi ([] : List Int)), (7, vi 10)], []⟩) (Sees.trans (Sees.vco (fr' := [(6, eS 1 vi ([] : List Int)), (7, vi 10)]) (.cons .sl (.cons .same .nil))) sy) rfl rfl
  have h := cond_f h c1
  refine TriE.skip ?_
  refine TriE.seqK h (fun (_ : Unit) => St.mk [(0, eS 3 eCoil a0), (1, eS 3 eWirePiece a1), (2, eS 1 (eS 1 vi) a2)] []) ?_ ?_
  · rintro ⟨⟩ h
    refine sj ?_
    refine rn 1 [(0, eS 3 eCoil a0), (1, eS 3 eWirePiece a1), (2, eS 1 (eS 1 vi) a2), (35, eS 3 eCoil a0)] [] ?_
    obtain ⟨y2, hy2, h⟩ := bind_some h
    refine RegJ.op (Op1.call (y' := .own 0 0 y2.length) (obx := []) (oby := [some (.row 1 (List.map vi y2))]) (ob2 := [some (.row 1 (List.map vi y2))]) _ _ (cy (I0 36 (.call 102 [(.t 35)]))) rfl (agrafferef08_lengths_ok n a0 y2 hy2) [] (by kernel_rfl) (.cons rfl (.cons rfl .nil)) (by kernel_rfl) (by kernel_rfl) ObsRen.nil (by kernel_rfl) (.same (row_ren vi_frz _ _ _) .nil) (by kernel_rfl)) ?_
    refine jq 1 [(0, eS 3 eCoil a0), (1, eS 3 eWirePiece a1), (2, eS 1 (eS 1 vi) a2), (9, .own 0 0 y2.length)] [some (.row 1 (List.map vi y2))] ?_
    refine TriE.seqK h (fun (v15 : (List Int)) => St.mk [(9, .own 0 0 v15.length)] [some (.row 1 (List.map vi v15))]) ?_ ?_
    · rintro v15 h
      refine sr [(6, .own 0 0 v15.length), (7, vi 0)] [some (.row 1 (List.map vi v15))] ?_
      refine TriE.ret ?_
      have h := Option.some.inj h
      subst h
      exact DoneS.ret (S' := ⟨[(6, eS 1 vi v15), (7, vi 0)], []⟩) (Sees.trans (Sees.freeze 0 (fr' := [(6, eS 1 vi v15), (7, vi 0)]) (ob' := [none]) rfl (frz_row vi_frzE _) (.cons (frz_full rfl) (.cons (.refl _) .nil)) rfl) (sc [] (by decide) (by kernel_rfl) ObRen.nil rfl rfl)) rfl rfl
    intro k3 h
    refine sr [(0, eS 3 eCoil a0), (1, eS 3 eWirePiece a1), (2, eS 1 (eS 1 vi) a2), (9, .own 0 0 y2.length), (10, vi 0)] [some (.row 1 (List.map vi y2))] ?_
    refine TriE.block ?_
    refine TriE.sees (S' := ⟨[(0, eS 3 eCoil a0), (1, eS 3 eWirePiece a1), (2, eS 1 (eS 1 vi) a2), (9, .own 0 0 y2.length), (10, vi 0)], [some (.row 1 (List.map vi y2))]⟩) sy ?_
    refine TriE.loopN h (fun (t : Nat × (List Int)) => match t with | (v8, v9) => St.mk [(0, eS 3 eCoil a0), (1, eS 3 eWirePiece a1), (2, eS 1 (eS 1 vi) a2), (9, .own 0 0 v9.length), (10, vi v8)] [some (.row 1 (List.map vi v9))]) rfl ?_
    clear h
    rintro back ⟨v8, v9⟩ h
    dsimp only [agrafferef08_CheckCuts_L3] at h
    refine TriE.seq ?_
    refine sj ?_
    refine rn 2 [(0, eS 3 eCoil a0), (1, eS 3 eWirePiece a1), (2, eS 1 (eS 1 vi) a2), (9, .own 0 0 v9.length), (10, vi v8), (37, vi v8), (38, eS 3 eWirePiece a1)] [some (.row 1 (List.map vi v9))] ?_
    refine jv (vi (a1.length : Int)) (cy (I0 39 (.len 0 (.t 38)))) (ok_len_m rfl) rfl ?_
    refine jv (vb (decide (v8 < a1.length))) (cy (I0 40 (.bin .lss false (.t 37) (.t 39)))) (n_lss (i := v8) (j := a1.length) rfl rfl) rfl ?_
    refine jp [(0, eS 3 eCoil a0), (1, eS 3 eWirePiece a1), (2, eS 1 (eS 1 vi) a2), (9, .own 0 0 v9.length), (10, vi v8), (40, vb (decide (v8 < a1.length)))] ?_
    refine TriE.cond (b := decide (v8 < a1.length)) rfl (fun c6 => ?_) (fun c6 => ?_)
    · have h := cond_t h c6
      refine TriE.skip ?_
      refine TriE.seqK h (fun (v14 : (List Int)) => St.mk [(0, eS 3 eCoil a0), (1, eS 3 eWirePiece a1), (2, eS 1 (eS 1 vi) a2), (9, .own 0 0 v14.length), (10, vi v8)] [some (.row 1 (List.map vi v14))]) ?_ ?_
      · rintro v14 h
        refine TriE.regJ ?_
        refine rn 1 [(0, eS 3 eCoil a0), (1, eS 3 eWirePiece a1), (2, eS 1 (eS 1 vi) a2), (9, .own 0 0 v14.length), (41, vi v8)] [some (.row 1 (List.map vi v14))] ?_
        obtain ⟨c20, h⟩ := chk_some h
        refine jv (vi ((v8 + 1 : Nat) : Int)) (cy (I0 42 (.bin .add false (.t 41) (.c (.p (.int .i64 1)))))) (r_addn (i := v8) (j := 1) rfl rfl c20) rfl ?_
        refine jq 1 [(0, eS 3 eCoil a0), (1, eS 3 eWirePiece a1), (2, eS 1 (eS 1 vi) a2), (9, .own 0 0 v14.length), (10, vi ((v8 + 1 : Nat) : Int))] [some (.row 1 (List.map vi v14))] ?_
        exact Vs.intro sy ⟨(v8 + 1, v14), rfl, h⟩
      intro k2 h
      refine TriE.block ?_
      refine sr [(0, eS 3 eCoil a0), (1, eS 3 eWirePiece a1), (2, eS 1 (eS 1 vi) a2), (9, .own 0 0 v9.length), (10, vi v8), (11, vi 0)] [some (.row 1 (List.map vi v9))] ?_
      refine TriE.block ?_
      refine TriE.sees (S' := ⟨[(0, eS 3 eCoil a0), (1, eS 3 eWirePiece a1), (2, eS 1 (eS 1 vi) a2), (9, .own 0 0 v9.length), (10, vi v8), (11, vi 0)], [some (.row 1 (List.map vi v9))]⟩) sy ?_
      refine TriE.loopN h (fun (t : Nat × (List Int)) => match t with | (v11, v12) => St.mk [(0, eS 3 eCoil a0), (1, eS 3 eWirePiece a1), (2, eS 1 (eS 1 vi) a2), (9, .own 0 0 v12.length), (10, vi v8), (11, vi v11)] [some (.row 1 (List.map vi v12))]) rfl ?_
      clear h
      rintro back ⟨v11, v12⟩ h
      dsimp only [agrafferef08_CheckCuts_L2] at h
      refine TriE.seq ?_
      refine sj ?_
      refine rn 3 [(0, eS 3 eCoil a0), (1, eS 3 eWirePiece a1), (2, eS 1 (eS 1 vi) a2), (9, .own 0 0 v12.length), (10, vi v8), (11, vi v11), (43, vi v11), (44, eS 1 (eS 1 vi) a2), (45, vi v8)] [some (.row 1 (List.map vi v12))] ?_
      obtain ⟨c7, h⟩ := chk_some h
      refine jv (.fptr 1 (List.map (eS 1 vi) a2) v8 0) (cy (I0 46 (.iaddr 1 (.t 44) (.t 45)))) (ok_iaddr_m (j := v8) rfl rfl rfl c7) rfl ?_
      refine jv (eS 1 vi (ix a2 v8)) (cy (I0 47 (.load false 1 (.t 46)))) (ok_load_fm (v := eS 1 vi (ix a2 v8)) rfl c7 rfl) rfl ?_
      refine jv (vi (((ix a2 v8).length : Nat) : Int)) (cy (I0 48 (.len 0 (.t 47)))) (ok_len_m rfl) rfl ?_
      refine jv (vb (decide (v11 < ((ix a2 v8).length)))) (cy (I0 49 (.bin .lss false (.t 43) (.t 48)))) (n_lss (i := v11) (j := (ix a2 v8).length) rfl rfl) rfl ?_
      refine jp [(0, eS 3 eCoil a0), (1, eS 3 eWirePiece a1), (2, eS 1 (eS 1 vi) a2), (9, .own 0 0 v12.length), (10, vi v8), (11, vi v11), (49, vb (decide (v11 < ((ix a2 v8).length))))] ?_
      refine TriE.cond (b := decide (v11 < ((ix a2 v8).length))) rfl (fun c8 => ?_) (fun c8 => ?_)
      · have h := cond_t h c8
        refine TriE.skip ?_
        refine TriE.seq ?_
        refine TriE.block ?_
        refine sj ?_
        refine rn 2 [(0, eS 3 eCoil a0), (1, eS 3 eWirePiece a1), (2, eS 1 (eS 1 vi) a2), (9, .own 0 0 v12.length), (10, vi v8), (11, vi v11), (52, eS 1 (eS 1 vi) a2), (53, vi v8)] [some (.row 1 (List.map vi v12))] ?_
        refine jv (.fptr 1 (List.map (eS 1 vi) a2) v8 0) (cy (I0 54 (.iaddr 1 (.t 52) (.t 53)))) (ok_iaddr_m (j := v8) rfl rfl rfl c7) rfl ?_
        refine jv (eS 1 vi (ix a2 v8)) (cy (I0 55 (.load false 1 (.t 54)))) (ok_load_fm (v := eS 1 vi (ix a2 v8)) rfl c7 rfl) rfl ?_
        refine rn 1 [(0, eS 3 eCoil a0), (1, eS 3 eWirePiece a1), (2, eS 1 (eS 1 vi) a2), (9, .own 0 0 v12.length), (10, vi v8), (11, vi v11), (55, eS 1 vi (ix a2 v8)), (56, vi v11)] [some (.row 1 (List.map vi v12))] ?_
        obtain ⟨c9, h⟩ := chk_some h
        refine jv (.fptr 1 (List.map vi (ix a2 v8)) v11 0) (cy (I0 57 (.iaddr 1 (.t 55) (.t 56)))) (ok_iaddr_m (j := v11) rfl rfl rfl c9) rfl ?_
        refine jv (vi (ix (ix a2 v8) v11)) (cy (I0 58 (.load false 1 (.t 57)))) (ok_load_fm (v := vi (ix (ix a2 v8) v11)) rfl c9 rfl) rfl ?_
        refine jq 1 [(0, eS 3 eCoil a0), (1, eS 3 eWirePiece a1), (2, eS 1 (eS 1 vi) a2), (9, .own 0 0 v12.length), (10, vi v8), (11, vi v11), (12, vi (ix (ix a2 v8) v11))] [some (.row 1 (List.map vi v12))] ?_
        refine TriE.seq ?_
        refine sj ?_
        refine rn 2 [(0, eS 3 eCoil a0), (1, eS 3 eWirePiece a1), (2, eS 1 (eS 1 vi) a2), (9, .own 0 0 v12.length), (10, vi v8), (11, vi v11), (12, vi (ix (ix a2 v8) v11)), (59, vi (ix (ix a2 v8) v11)), (60, eS 3 eCoil a0)] [some (.row 1 (List.map vi v12))] ?_
        refine jv (vi (a0.length : Int)) (cy (I0 61 (.len 0 (.t 60)))) (ok_len_m rfl) rfl ?_
        obtain ⟨c10, h⟩ := chk_some h
        refine jv (vi ((a0.length : Int) - 1)) (cy (I0 62 (.bin .sub false (.t 61) (.c (.p (.int .i64 1)))))) (r_sub rfl rfl c10) rfl ?_
        obtain ⟨y13, hy13, h⟩ := bind_some h
        refine RegJ.op (Op1.call (y' := vb ((decide (0 ≤ (ix (ix a2 v8) v11))) && (decide ((ix (ix a2 v8) v11) ≤ ((a0.length : Int) - 1))))) (obx := []) (oby := []) (ob2 := [some (.row 1 (List.map vi v12))]) _ _ (cy (I0 63 (.call 93 [(.t 59), (.c (.p (.int .i64 0))), (.t 62)]))) rfl (agraffebase_Within_ok n (ix (ix a2 v8) v11) 0 ((a0.length : Int) - 1) y13 hy13) [] (by kernel_rfl) (.cons rfl (.cons rfl (.cons rfl (.cons rfl .nil)))) (by kernel_rfl) (by kernel_rfl) ObsRen.nil (by kernel_rfl) ObsRen.nil (by kernel_rfl)) ?_
        refine jq 1 [(0, eS 3 eCoil a0), (1, eS 3 eWirePiece a1), (2, eS 1 (eS 1 vi) a2), (9, .own 0 0 v12.length), (10, vi v8), (11, vi v11), (12, vi (ix (ix a2 v8) v11)), (64, vb (!((decide (0 ≤ (ix (ix a2 v8) v11))) && (decide ((ix (ix a2 v8) v11) ≤ ((a0.length : Int) - 1))))))] [some (.row 1 (List.map vi v12))] ?_
        refine TriE.cond (b := !((decide (0 ≤ (ix (ix a2 v8) v11))) && (decide ((ix (ix a2 v8) v11) ≤ ((a0.length : Int) - 1))))) rfl (fun c11 => ?_) (fun c11 => ?_)
        · have h := cond_t h c11
          refine sr [(6, .emp), (7, vi 6)] [some (.row 1 (List.map vi v12))] ?_
          refine TriE.ret ?_
          have h := Option.some.inj h
          subst h
          exact DoneS.ret (S' := ⟨[(6, eS 1 vi ([] : List Int)), (7, vi 6)], []⟩) (Sees.trans (Sees.vco (fr' := [(6, eS 1 vi ([] : List Int)), (7, vi 6)]) (.cons .sl (.cons .same .nil))) (sc [] (by decide) (by kernel_rfl) ObRen.nil rfl rfl)) rfl rfl
        have h := cond_f h c11
        refine TriE.skip ?_
        refine TriE.seq ?_
        refine TriE.seq ?_
        refine TriE.sees (Sees.less (fr' := [(0, eS 3 eCoil a0), (1, eS 3 eWirePiece a1), (2, eS 1 (eS 1 vi) a2), (9, .own 0 0 v12.length), (10, vi v8), (11, vi v11), (12, vi (ix (ix a2 v8) v11))]) (.cons rfl (.cons rfl (.cons rfl (.cons rfl (.cons rfl (.cons rfl (.cons rfl .nil)))))))) ?_
        refine TriE.draw (by kernel_rfl) ?_
        refine RegD.run 2 [(66, vi (ix (ix a2 v8) v11)), (65, eS 3 eCoil a0), (0, eS 3 eCoil a0), (1, eS 3 eWirePiece a1), (2, eS 1 (eS 1 vi) a2), (9, .own 0 0 v12.length), (10, vi v8), (11, vi v11), (12, vi (ix (ix a2 v8) v11))] [some (.row 1 (List.map vi v12)), none, none] (by kernel_rfl) ?_
        obtain ⟨c12, h⟩ := chk_some h
        refine dv (.fptr 3 (List.map eCoil a0) ((ix (ix a2 v8) v11).toNat) 0) (cy (I0 67 (.iaddr 3 (.t 65) (.t 66)))) (ok_iaddr_m (j := (ix (ix a2 v8) v11).toNat) rfl rfl (inB_to c12) (inB_lt c12)) rfl ?_
        refine RegD.run 1 [(68, .fptr 3 (List.map eCoil a0) ((ix (ix a2 v8) v11).toNat) 1), (67, .fptr 3 (List.map eCoil a0) ((ix (ix a2 v8) v11).toNat) 0), (66, vi (ix (ix a2 v8) v11)), (65, eS 3 eCoil a0), (0, eS 3 eCoil a0), (1, eS 3 eWirePiece a1), (2, eS 1 (eS 1 vi) a2), (9, .own 0 0 v12.length), (10, vi v8), (11, vi v11), (12, vi (ix (ix a2 v8) v11))] [some (.row 1 (List.map vi v12)), none, none, none, none] (by kernel_rfl) ?_
        obtain ⟨c13, h⟩ := chk_some h
        refine dv (vi ((ix a0 ((ix (ix a2 v8) v11).toNat)).Gauge)) (cy (I0 69 (.load false 1 (.t 68)))) (ok_load_fm (v := vi ((ix a0 ((ix (ix a2 v8) v11).toNat)).Gauge)) rfl c13 rfl) rfl ?_
        refine RegD.run 2 [(71, vi v8), (70, eS 3 eWirePiece a1), (69, vi ((ix a0 ((ix (ix a2 v8) v11).toNat)).Gauge)), (68, .fptr 3 (List.map eCoil a0) ((ix (ix a2 v8) v11).toNat) 1), (67, .fptr 3 (List.map eCoil a0) ((ix (ix a2 v8) v11).toNat) 0), (66, vi (ix (ix a2 v8) v11)), (65, eS 3 eCoil a0), (0, eS 3 eCoil a0), (1, eS 3 eWirePiece a1), (2, eS 1 (eS 1 vi) a2), (9, .own 0 0 v12.length), (10, vi v8), (11, vi v11), (12, vi (ix (ix a2 v8) v11))] [some (.row 1 (List.map vi v12)), none, none, none, none, none, none, none] (by kernel_rfl) ?_
        refine dv (.fptr 3 (List.map eWirePiece a1) v8 0) (cy (I0 72 (.iaddr 3 (.t 70) (.t 71)))) (ok_iaddr_m (j := v8) rfl rfl rfl c6) rfl ?_
        refine RegD.run 1 [(73, .fptr 3 (List.map eWirePiece a1) v8 0), (72, .fptr 3 (List.map eWirePiece a1) v8 0), (71, vi v8), (70, eS 3 eWirePiece a1), (69, vi ((ix a0 ((ix (ix a2 v8) v11).toNat)).Gauge)), (68, .fptr 3 (List.map eCoil a0) ((ix (ix a2 v8) v11).toNat) 1), (67, .fptr 3 (List.map eCoil a0) ((ix (ix a2 v8) v11).toNat) 0), (66, vi (ix (ix a2 v8) v11)), (65, eS 3 eCoil a0), (0, eS 3 eCoil a0), (1, eS 3 eWirePiece a1), (2, eS 1 (eS 1 vi) a2), (9, .own 0 0 v12.length), (10, vi v8), (11, vi v11), (12, vi (ix (ix a2 v8) v11))] [some (.row 1 (List.map vi v12)), none, none, none, none, none, none, none, none, none] (by kernel_rfl) ?_
        refine dv (vi ((ix a1 v8).Gauge)) (cy (I0 74 (.load false 1 (.t 73)))) (ok_load_fm (v := vi ((ix a1 v8).Gauge)) rfl c6 rfl) rfl ?_
        refine RegD.run 1 [(75, vb (((ix a0 ((ix (ix a2 v8) v11).toNat)).Gauge) != ((ix a1 v8).Gauge))), (74, vi ((ix a1 v8).Gauge)), (73, .fptr 3 (List.map eWirePiece a1) v8 0), (72, .fptr 3 (List.map eWirePiece a1) v8 0), (71, vi v8), (70, eS 3 eWirePiece a1), (69, vi ((ix a0 ((ix (ix a2 v8) v11).toNat)).Gauge)), (68, .fptr 3 (List.map eCoil a0) ((ix (ix a2 v8) v11).toNat) 1), (67, .fptr 3 (List.map eCoil a0) ((ix (ix a2 v8) v11).toNat) 0), (66, vi (ix (ix a2 v8) v11)), (65, eS 3 eCoil a0), (0, eS 3 eCoil a0), (1, eS 3 eWirePiece a1), (2, eS 1 (eS 1 vi) a2), (9, .own 0 0 v12.length), (10, vi v8), (11, vi v11), (12, vi (ix (ix a2 v8) v11))] [some (.row 1 (List.map vi v12)), none, none, none, none, none, none, none, none, none, none, none] (by kernel_rfl) ?_
        refine RegD.done rfl (by kernel_rfl) (S' := ⟨[(0, eS 3 eCoil a0), (1, eS 3 eWirePiece a1), (2, eS 1 (eS 1 vi) a2), (9, .own 0 0 v12.length), (10, vi v8), (11, vi v11), (12, vi (ix (ix a2 v8) v11)), (75, vb (((ix a0 ((ix (ix a2 v8) v11).toNat)).Gauge) != ((ix a1 v8).Gauge)))], [some (.row 1 (List.map vi v12))]⟩) (sc [0] (by decide) (by kernel_rfl) (obRen_row vi_frz rfl .nil) rfl rfl) ?_
        refine TriE.cond (b := (((ix a0 ((ix (ix a2 v8) v11).toNat)).Gauge) != ((ix a1 v8).Gauge))) rfl (fun c14 => ?_) (fun c14 => ?_)
        · have h := cond_t h c14
          refine sr [(6, .emp), (7, vi 15)] [some (.row 1 (List.map vi v12))] ?_
          refine TriE.ret ?_
          have h := Option.some.inj h
          subst h
          exact DoneS.ret (S' := ⟨[(6, eS 1 vi ([] : List Int)), (7, vi 15)], []⟩) (Sees.trans (Sees.vco (fr' := [(6, eS 1 vi ([] : List Int)), (7, vi 15)]) (.cons .sl (.cons .same .nil))) (sc [] (by decide) (by kernel_rfl) ObRen.nil rfl rfl)) rfl rfl
        have h := cond_f h c14
        refine TriE.skip ?_
        refine TriE.seq ?_
        refine TriE.seq ?_
        refine TriE.sees (Sees.less (fr' := [(0, eS 3 eCoil a0), (1, eS 3 eWirePiece a1), (2, eS 1 (eS 1 vi) a2), (9, .own 0 0 v12.length), (10, vi v8), (11, vi v11), (12, vi (ix (ix a2 v8) v11))]) (.cons rfl (.cons rfl (.cons rfl (.cons rfl (.cons rfl (.cons rfl (.cons rfl .nil)))))))) ?_
        refine TriE.draw (by kernel_rfl) ?_
        refine RegD.run 2 [(77, vi (ix (ix a2 v8) v11)), (76, .own 0 0 v12.length), (0, eS 3 eCoil a0), (1, eS 3 eWirePiece a1), (2, eS 1 (eS 1 vi) a2), (9, .own 0 0 v12.length), (10, vi v8), (11, vi v11), (12, vi (ix (ix a2 v8) v11))] [some (.row 1 (List.map vi v12)), none, none] (by kernel_rfl) ?_
        obtain ⟨c15, h⟩ := chk_some h
        refine dv (.ptr 0 ((ix (ix a2 v8) v11).toNat) 0) (cy (I0 78 (.iaddr 1 (.t 76) (.t 77)))) (ok_iaddr_o0 (j := (ix (ix a2 v8) v11).toNat) rfl rfl rfl (inB_to c15) (inB_lt c15)) rfl ?_
        obtain ⟨c16, h⟩ := chk_some h
        refine dv (vi (ix v12 ((ix (ix a2 v8) v11).toNat))) (cy (I0 79 (.load false 1 (.t 78)))) (ok_load_pm (l := v12) (e := vi) (v := vi (ix v12 ((ix (ix a2 v8) v11).toNat))) rfl rfl c16 rfl) rfl ?_
        refine RegD.run 2 [(81, vi v8), (80, eS 3 eWirePiece a1), (79, vi (ix v12 ((ix (ix a2 v8) v11).toNat))), (78, .ptr 0 ((ix (ix a2 v8) v11).toNat) 0), (77, vi (ix (ix a2 v8) v11)), (76, .own 0 0 v12.length), (0, eS 3 eCoil a0), (1, eS 3 eWirePiece a1), (2, eS 1 (eS 1 vi) a2), (9, .own 0 0 v12.length), (10, vi v8), (11, vi v11), (12, vi (ix (ix a2 v8) v11))] [some (.row 1 (List.map vi v12)), none, none, none, none, none, none] (by kernel_rfl) ?_
        refine dv (.fptr 3 (List.map eWirePiece a1) v8 0) (cy (I0 82 (.iaddr 3 (.t 80) (.t 81)))) (ok_iaddr_m (j := v8) rfl rfl rfl c6) rfl ?_
        refine RegD.run 1 [(83, .fptr 3 (List.map eWirePiece a1) v8 1), (82, .fptr 3 (List.map eWirePiece a1) v8 0), (81, vi v8), (80, eS 3 eWirePiece a1), (79, vi (ix v12 ((ix (ix a2 v8) v11).toNat))), (78, .ptr 0 ((ix (ix a2 v8) v11).toNat) 0), (77, vi (ix (ix a2 v8) v11)), (76, .own 0 0 v12.length), (0, eS 3 eCoil a0), (1, eS 3 eWirePiece a1), (2, eS 1 (eS 1 vi) a2), (9, .own 0 0 v12.length), (10, vi v8), (11, vi v11), (12, vi (ix (ix a2 v8) v11))] [some (.row 1 (List.map vi v12)), none, none, none, none, none, none, none, none] (by kernel_rfl) ?_
        refine dv (vi ((ix a1 v8).Length)) (cy (I0 84 (.load false 1 (.t 83)))) (ok_load_fm (v := vi ((ix a1 v8).Length)) rfl c6 rfl) rfl ?_
        refine RegD.run 1 [(85, vb (decide ((ix v12 ((ix (ix a2 v8) v11).toNat)) < ((ix a1 v8).Length)))), (84, vi ((ix a1 v8).Length)), (83, .fptr 3 (List.map eWirePiece a1) v8 1), (82, .fptr 3 (List.map eWirePiece a1) v8 0), (81, vi v8), (80, eS 3 eWirePiece a1), (79, vi (ix v12 ((ix (ix a2 v8) v11).toNat))), (78, .ptr 0 ((ix (ix a2 v8) v11).toNat) 0), (77, vi (ix (ix a2 v8) v11)), (76, .own 0 0 v12.length), (0, eS 3 eCoil a0), (1, eS 3 eWirePiece a1), (2, eS 1 (eS 1 vi) a2), (9, .own 0 0 v12.length), (10, vi v8), (11, vi v11), (12, vi (ix (ix a2 v8) v11))] [some (.row 1 (List.map vi v12)), none, none, none, none, none, none, none, none, none, none] (by kernel_rfl) ?_
        refine RegD.done rfl (by kernel_rfl) (S' := ⟨[(0, eS 3 eCoil a0), (1, eS 3 eWirePiece a1), (2, eS 1 (eS 1 vi) a2), (9, .own 0 0 v12.length), (10, vi v8), (11, vi v11), (12, vi (ix (ix a2 v8) v11)), (85, vb (decide ((ix v12 ((ix (ix a2 v8) v11).toNat)) < ((ix a1 v8).Length))))], [some (.row 1 (List.map vi v12))]⟩) (sc [0] (by decide) (by kernel_rfl) (obRen_row vi_frz rfl .nil) rfl rfl) ?_
        refine TriE.cond (b := decide ((ix v12 ((ix (ix a2 v8) v11).toNat)) < ((ix a1 v8).Length))) rfl (fun c17 => ?_) (fun c17 => ?_)
        · have h := cond_t h c17
          refine sr [(6, .emp), (7, vi 20)] [some (.row 1 (List.map vi v12))] ?_
          refine TriE.ret ?_
          have h := Option.some.inj h
          subst h
          exact DoneS.ret (S' := ⟨[(6, eS 1 vi ([] : List Int)), (7, vi 20)], []⟩) (Sees.trans (Sees.vco (fr' := [(6, eS 1 vi ([] : List Int)), (7, vi 20)]) (.cons .sl (.cons .same .nil))) (sc [] (by decide) (by kernel_rfl) ObRen.nil rfl rfl)) rfl rfl
        have h := cond_f h c17
        refine TriE.skip ?_
        refine TriE.sees (Sees.less (fr' := [(0, eS 3 eCoil a0), (1, eS 3 eWirePiece a1), (2, eS 1 (eS 1 vi) a2), (9, .own 0 0 v12.length), (10, vi v8), (11, vi v11), (12, vi (ix (ix a2 v8) v11))]) (.cons rfl (.cons rfl (.cons rfl (.cons rfl (.cons rfl (.cons rfl (.cons rfl .nil)))))))) ?_
        refine TriE.draw (by kernel_rfl) ?_
        refine RegD.run 4 [(89, vi (ix (ix a2 v8) v11)), (88, .own 0 0 v12.length), (87, vi (ix (ix a2 v8) v11)), (86, .own 0 0 v12.length), (0, eS 3 eCoil a0), (1, eS 3 eWirePiece a1), (2, eS 1 (eS 1 vi) a2), (9, .own 0 0 v12.length), (10, vi v8), (11, vi v11), (12, vi (ix (ix a2 v8) v11))] [some (.row 1 (List.map vi v12)), none, none, none, none] (by kernel_rfl) ?_
        refine dv (.ptr 0 ((ix (ix a2 v8) v11).toNat) 0) (cy (I0 90 (.iaddr 1 (.t 88) (.t 89)))) (ok_iaddr_o0 (j := (ix (ix a2 v8) v11).toNat) rfl rfl rfl (inB_to c15) (inB_lt c15)) rfl ?_
        refine dv (vi (ix v12 ((ix (ix a2 v8) v11).toNat))) (cy (I0 91 (.load false 1 (.t 90)))) (ok_load_pm (l := v12) (e := vi) (v := vi (ix v12 ((ix (ix a2 v8) v11).toNat))) rfl rfl c16 rfl) rfl ?_
        refine RegD.run 2 [(93, vi v8), (92, eS 3 eWirePiece a1), (91, vi (ix v12 ((ix (ix a2 v8) v11).toNat))), (90, .ptr 0 ((ix (ix a2 v8) v11).toNat) 0), (89, vi (ix (ix a2 v8) v11)), (88, .own 0 0 v12.length), (87, vi (ix (ix a2 v8) v11)), (86, .own 0 0 v12.length), (0, eS 3 eCoil a0), (1, eS 3 eWirePiece a1), (2, eS 1 (eS 1 vi) a2), (9, .own 0 0 v12.length), (10, vi v8), (11, vi v11), (12, vi (ix (ix a2 v8) v11))] [some (.row 1 (List.map vi v12)), none, none, none, none, none, none, none, none] (by kernel_rfl) ?_
        refine dv (.fptr 3 (List.map eWirePiece a1) v8 0) (cy (I0 94 (.iaddr 3 (.t 92) (.t 93)))) (ok_iaddr_m (j := v8) rfl rfl rfl c6) rfl ?_
        refine RegD.run 1 [(95, .fptr 3 (List.map eWirePiece a1) v8 1), (94, .fptr 3 (List.map eWirePiece a1) v8 0), (93, vi v8), (92, eS 3 eWirePiece a1), (91, vi (ix v12 ((ix (ix a2 v8) v11).toNat))), (90, .ptr 0 ((ix (ix a2 v8) v11).toNat) 0), (89, vi (ix (ix a2 v8) v11)), (88, .own 0 0 v12.length), (87, vi (ix (ix a2 v8) v11)), (86, .own 0 0 v12.length), (0, eS 3 eCoil a0), (1, eS 3 eWirePiece a1), (2, eS 1 (eS 1 vi) a2), (9, .own 0 0 v12.length), (10, vi v8), (11, vi v11), (12, vi (ix (ix a2 v8) v11))] [some (.row 1 (List.map vi v12)), none, none, none, none, none, none, none, none, none, none] (by kernel_rfl) ?_
        refine dv (vi ((ix a1 v8).Length)) (cy (I0 96 (.load false 1 (.t 95)))) (ok_load_fm (v := vi ((ix a1 v8).Length)) rfl c6 rfl) rfl ?_
        obtain ⟨c18, h⟩ := chk_some h
        refine dv (vi ((ix v12 ((ix (ix a2 v8) v11).toNat)) - ((ix a1 v8).Length))) (cy (I0 97 (.bin .sub false (.t 91) (.t 96)))) (r_sub rfl rfl c18) rfl ?_
        refine dv (.ptr 0 ((ix (ix a2 v8) v11).toNat) 0) (cy (I0 98 (.iaddr 1 (.t 86) (.t 87)))) (ok_iaddr_o0 (j := (ix (ix a2 v8) v11).toNat) rfl rfl rfl (inB_to c15) (inB_lt c15)) rfl ?_
        refine de (.undef) [some (.row 1 (List.map vi (List.set v12 ((ix (ix a2 v8) v11).toNat) ((ix v12 ((ix (ix a2 v8) v11).toNat)) - ((ix a1 v8).Length))))), none, none, none, none, none, none, none, none, none, none, none, none, none, none] (cy (IN (.store 1 (.t 98) (.t 97)))) (ok_store_m (l := v12) (e := vi) (x' := (ix v12 ((ix (ix a2 v8) v11).toNat)) - ((ix a1 v8).Length)) (u := vi ((ix v12 ((ix (ix a2 v8) v11).toNat)) - ((ix a1 v8).Length))) rfl rfl rfl c16 rfl rfl) rfl rfl rfl ?_
        refine RegD.done rfl (by kernel_rfl) (S' := ⟨[(0, eS 3 eCoil a0), (1, eS 3 eWirePiece a1), (2, eS 1 (eS 1 vi) a2), (9, .own 0 0 v12.length), (10, vi v8), (11, vi v11)], [some (.row 1 (List.map vi (List.set v12 ((ix (ix a2 v8) v11).toNat) ((ix v12 ((ix (ix a2 v8) v11).toNat)) - ((ix a1 v8).Length)))))]⟩) (sc [0] (by decide) (by kernel_rfl) (obRen_row vi_frz rfl .nil) rfl rfl) ?_
        refine TriE.regJ ?_
        refine rn 1 [(0, eS 3 eCoil a0), (1, eS 3 eWirePiece a1), (2, eS 1 (eS 1 vi) a2), (9, .own 0 0 v12.length), (10, vi v8), (50, vi v11)] [some (.row 1 (List.map vi (List.set v12 ((ix (ix a2 v8) v11).toNat) ((ix v12 ((ix (ix a2 v8) v11).toNat)) - ((ix a1 v8).Length)))))] ?_
        obtain ⟨c19, h⟩ := chk_some h
        refine jv (vi ((v11 + 1 : Nat) : Int)) (cy (I0 51 (.bin .add false (.t 50) (.c (.p (.int .i64 1)))))) (r_addn (i := v11) (j := 1) rfl rfl c19) rfl ?_
        refine jq 1 [(0, eS 3 eCoil a0), (1, eS 3 eWirePiece a1), (2, eS 1 (eS 1 vi) a2), (9, .own 0 0 v12.length), (10, vi v8), (11, vi ((v11 + 1 : Nat) : Int))] [some (.row 1 (List.map vi (List.set v12 ((ix (ix a2 v8) v11).toNat) ((ix v12 ((ix (ix a2 v8) v11).toNat)) - ((ix a1 v8).Length)))))] ?_
        exact Vs.intro (Sees.less (.cons rfl (.cons rfl (.cons rfl (.cons (by simp only [List.length_set]; rfl) (.cons rfl (.cons rfl .nil))))))) ⟨(v11 + 1, (List.set v12 ((ix (ix a2 v8) v11).toNat) ((ix v12 ((ix (ix a2 v8) v11).toNat)) - ((ix a1 v8).Length)))), rfl, h⟩
      have h := cond_f h c8
      refine TriE.exit ?_
      exact Vs.intro sy ⟨v12, rfl, h⟩
    have h := cond_f h c6
    refine TriE.exit ?_
    exact Vs.intro sy ⟨v9, rfl, h⟩
  intro k1 h
  refine sr [(0, eS 3 eCoil a0), (1, eS 3 eWirePiece a1), (2, eS 1 (eS 1 vi) a2), (8, vi 0)] [] ?_
  refine TriE.block ?_
  refine TriE.sees (S' := ⟨[(0, eS 3 eCoil a0), (1, eS 3 eWirePiece a1), (2, eS 1 (eS 1 vi) a2), (8, vi 0)], []⟩) sy ?_
  refine TriE.loopN h (fun (v1 : Nat) => St.mk [(0, eS 3 eCoil a0), (1, eS 3 eWirePiece a1), (2, eS 1 (eS 1 vi) a2), (8, vi v1)] []) rfl ?_
  clear h
  rintro back v1 h
  dsimp only [agrafferef08_CheckCuts_L1] at h
  refine TriE.seq ?_
  refine sj ?_
  refine rn 2 [(0, eS 3 eCoil a0), (1, eS 3 eWirePiece a1), (2, eS 1 (eS 1 vi) a2), (8, vi v1), (18, vi v1), (19, eS 3 eWirePiece a1)] [] ?_
  refine jv (vi (a1.length : Int)) (cy (I0 20 (.len 0 (.t 19)))) (ok_len_m rfl) rfl ?_
  refine jv (vb (decide (v1 < a1.length))) (cy (I0 21 (.bin .lss false (.t 18) (.t 20)))) (n_lss (i := v1) (j := a1.length) rfl rfl) rfl ?_
  refine jp [(0, eS 3 eCoil a0), (1, eS 3 eWirePiece a1), (2, eS 1 (eS 1 vi) a2), (8, vi v1), (21, vb (decide (v1 < a1.length)))] ?_
  refine TriE.cond (b := decide (v1 < a1.length)) rfl (fun c2 => ?_) (fun c2 => ?_)
  · have h := cond_t h c2
    refine TriE.skip ?_
    refine TriE.seq ?_
    refine TriE.block ?_
    refine TriE.seq ?_
    refine TriE.sees (Sees.less (fr' := [(0, eS 3 eCoil a0), (1, eS 3 eWirePiece a1), (2, eS 1 (eS 1 vi) a2), (8, vi v1)]) (.cons rfl (.cons rfl (.cons rfl (.cons rfl .nil))))) ?_
    refine TriE.draw (by kernel_rfl) ?_
    refine RegD.run 2 [(25, vi v1), (24, eS 1 (eS 1 vi) a2), (0, eS 3 eCoil a0), (1, eS 3 eWirePiece a1), (2, eS 1 (eS 1 vi) a2), (8, vi v1)] [none, none] (by kernel_rfl) ?_
    obtain ⟨c3, h⟩ := chk_some h
    refine dv (.fptr 1 (List.map (eS 1 vi) a2) v1 0) (cy (I0 26 (.iaddr 1 (.t 24) (.t 25)))) (ok_iaddr_m (j := v1) rfl rfl rfl c3) rfl ?_
    refine dv (eS 1 vi (ix a2 v1)) (cy (I0 27 (.load false 1 (.t 26)))) (ok_load_fm (v := eS 1 vi (ix a2 v1)) rfl c3 rfl) rfl ?_
    refine dv (vi (((ix a2 v1).length : Nat) : Int)) (cy (I0 28 (.len 0 (.t 27)))) (ok_len_m rfl) rfl ?_
    refine RegD.run 2 [(30, vi v1), (29, eS 3 eWirePiece a1), (28, vi (((ix a2 v1).length : Nat) : Int)), (27, eS 1 vi (ix a2 v1)), (26, .fptr 1 (List.map (eS 1 vi) a2) v1 0), (25, vi v1), (24, eS 1 (eS 1 vi) a2), (0, eS 3 eCoil a0), (1, eS 3 eWirePiece a1), (2, eS 1 (eS 1 vi) a2), (8, vi v1)] [none, none, none, none, none, none, none] (by kernel_rfl) ?_
    refine dv (.fptr 3 (List.map eWirePiece a1) v1 0) (cy (I0 31 (.iaddr 3 (.t 29) (.t 30)))) (ok_iaddr_m (j := v1) rfl rfl rfl c2) rfl ?_
    refine RegD.run 1 [(32, .fptr 3 (List.map eWirePiece a1) v1 2), (31, .fptr 3 (List.map eWirePiece a1) v1 0), (30, vi v1), (29, eS 3 eWirePiece a1), (28, vi (((ix a2 v1).length : Nat) : Int)), (27, eS 1 vi (ix a2 v1)), (26, .fptr 1 (List.map (eS 1 vi) a2) v1 0), (25, vi v1), (24, eS 1 (eS 1 vi) a2), (0, eS 3 eCoil a0), (1, eS 3 eWirePiece a1), (2, eS 1 (eS 1 vi) a2), (8, vi v1)] [none, none, none, none, none, none, none, none, none] (by kernel_rfl) ?_
    refine dv (vi ((ix a1 v1).Count)) (cy (I0 33 (.load false 1 (.t 32)))) (ok_load_fm (v := vi ((ix a1 v1).Count)) rfl c2 rfl) rfl ?_
    refine RegD.run 1 [(34, vb ((((ix a2 v1).length : Nat) : Int) != ((ix a1 v1).Count))), (33, vi ((ix a1 v1).Count)), (32, .fptr 3 (List.map eWirePiece a1) v1 2), (31, .fptr 3 (List.map eWirePiece a1) v1 0), (30, vi v1), (29, eS 3 eWirePiece a1), (28, vi (((ix a2 v1).length : Nat) : Int)), (27, eS 1 vi (ix a2 v1)), (26, .fptr 1 (List.map (eS 1 vi) a2) v1 0), (25, vi v1), (24, eS 1 (eS 1 vi) a2), (0, eS 3 eCoil a0), (1, eS 3 eWirePiece a1), (2, eS 1 (eS 1 vi) a2), (8, vi v1)] [none, none, none, none, none, none, none, none, none, none, none] (by kernel_rfl) ?_
    refine RegD.done rfl (by kernel_rfl) (S' := ⟨[(0, eS 3 eCoil a0), (1, eS 3 eWirePiece a1), (2, eS 1 (eS 1 vi) a2), (8, vi v1), (34, vb ((((ix a2 v1).length : Nat) : Int) != ((ix a1 v1).Count)))], []⟩) (sc [] (by decide) (by kernel_rfl) ObRen.nil rfl rfl) ?_
    refine TriE.cond (b := ((((ix a2 v1).length : Nat) : Int) != ((ix a1 v1).Count))) rfl (fun c4 => ?_) (fun c4 => ?_)
    · have h := cond_t h c4
      refine sr [(6, .emp), (7, vi 10)] [] ?_
      refine TriE.ret ?_
      have h := Option.some.inj h
      subst h
      exact DoneS.ret (S' := ⟨[(6, eS 1 vi ([] : List Int)), (7, vi 10)], []⟩) (Sees.trans (Sees.vco (fr' := [(6, eS 1 vi ([] : List Int)), (7, vi 10)]) (.cons .sl (.cons .same .nil))) sy) rfl rfl
    have h := cond_f h c4
    refine TriE.skip ?_
    refine TriE.regJ ?_
    refine rn 1 [(0, eS 3 eCoil a0), (1, eS 3 eWirePiece a1), (2, eS 1 (eS 1 vi) a2), (22, vi v1)] [] ?_
    obtain ⟨c5, h⟩ := chk_some h
    refine jv (vi ((v1 + 1 : Nat) : Int)) (cy (I0 23 (.bin .add false (.t 22) (.c (.p (.int .i64 1)))))) (r_addn (i := v1) (j := 1) rfl rfl c5) rfl ?_
    refine jq 1 [(0, eS 3 eCoil a0), (1, eS 3 eWirePiece a1), (2, eS 1 (eS 1 vi) a2), (8, vi ((v1 + 1 : Nat) : Int))] [] ?_
    exact Vs.intro sy ⟨(v1 + 1), rfl, h⟩
  have h := cond_f h c2
  refine TriE.exit ?_
  exact Vs.intro sy ⟨(), rfl, h⟩
theorem agrafferef08_CutFirst_ok (n : Nat) (a0 : List Coil) (a1 : List WirePiece) (r : (List (List Int)) × Bool) (h : agrafferef08_CutFirst n a0 a1 = some r) : FnL Tryz.prog 34 [eS 3 eCoil a0, eS 3 eWirePiece a1] [] (.tup [eS 1 (eS 1 vi) r.1, vb r.2]) [] := by
  dsimp only [agrafferef08_CutFirst] at h
  refine FnL.ofS (ts := [4, 5]) Tryz.call34 Tryz.func34 rfl rfl (Nat.le_of_ble_eq_true rfl) (Nat.le_of_ble_eq_true rfl) (fun j h => absurd h (Nat.not_lt_zero j)) ?_
  refine sr [(0, eS 3 eCoil a0), (1, eS 3 eWirePiece a1)] [] ?_
  refine sj ?_
  refine rn 1 [(0, eS 3 eCoil a0), (1, eS 3 eWirePiece a1), (13, eS 3 eCoil a0)] [] ?_
  obtain ⟨y1, hy1, h⟩ := bind_some h
  refine RegJ.op (Op1.call (y' := .own 0 0 y1.length) (obx := []) (oby := [some (.row 1 (List.map vi y1))]) (ob2 := [some (.row 1 (List.map vi y1))]) _ _ (cy (I0 14 (.call 102 [(.t 13)]))) rfl (agrafferef08_lengths_ok n a0 y1 hy1) [] (by kernel_rfl) (.cons rfl (.cons rfl .nil)) (by kernel_rfl) (by kernel_rfl) ObsRen.nil (by kernel_rfl) (.same (row_ren vi_frz _ _ _) .nil) (by kernel_rfl)) ?_
  refine jq 1 [(0, eS 3 eCoil a0), (1, eS 3 eWirePiece a1), (6, .own 0 0 y1.length)] [some (.row 1 (List.map vi y1))] ?_
  refine sr [(0, eS 3 eCoil a0), (1, eS 3 eWirePiece a1), (6, .own 0 0 y1.length), (7, .emp)] [some (.row 1 (List.map vi y1))] ?_
  refine TriE.seqK h (fun (v35 : (List (List Int))) => St.mk [(7, .own 0 0 v35.length)] [some (.row 1 (List.map (eS 1 vi) v35))]) ?_ ?_
  · rintro v35 h
    refine sr [(4, .own 0 0 v35.length), (5, vb true)] [some (.row 1 (List.map (eS 1 vi) v35))] ?_
    refine TriE.ret ?_
    have h := Option.some.inj h
    subst h
    exact DoneS.ret (S' := ⟨[(4, eS 1 (eS 1 vi) v35), (5, vb true)], []⟩) (Sees.trans (Sees.freeze 0 (fr' := [(4, eS 1 (eS 1 vi) v35), (5, vb true)]) (ob' := [none]) rfl (frz_row (eS_frzE 1 vi) _) (.cons (frz_full rfl) (.cons (.refl _) .nil)) rfl) (sc [] (by decide) (by kernel_rfl) ObRen.nil rfl rfl)) rfl rfl
  intro k4 h
  refine sr [(0, eS 3 eCoil a0), (1, eS 3 eWirePiece a1), (6, .own 0 0 y1.length), (7, .emp), (8, vi 0)] [some (.row 1 (List.map vi y1))] ?_
  refine TriE.block ?_
  refine TriE.sees (S' := ⟨[(0, eS 3 eCoil a0), (1, eS 3 eWirePiece a1), (6, .own 0 0 y1.length), (7, .own 1 0 ([] : List (List Int)).length), (8, vi 0)], [some (.row 1 (List.map vi y1)), some (.row 1 (List.map (eS 1 vi) ([] : List (List Int))))]⟩) (Sees.trans (Sees.co (fr' := [(0, eS 3 eCoil a0), (1, eS 3 eWirePiece a1), (6, .own 0 0 y1.length), (7, .own 1 0 0), (8, vi 0)]) (ob' := [some (.row 1 (List.map vi y1))]) (.cons .same (.cons .same (.cons .same (.cons .own (.cons .same .nil))))) (.same .nil) 1) sy) ?_
  refine TriE.loopN h (fun (t : (List (List Int)) × Nat × (List Int)) => match t with | (v17, v18, v19) => St.mk [(0, eS 3 eCoil a0), (1, eS 3 eWirePiece a1), (6, .own 0 0 v19.length), (7, .own 1 0 v17.length), (8, vi v18)] [some (.row 1 (List.map vi v19)), some (.row 1 (List.map (eS 1 vi) v17))]) rfl ?_
  clear h
  rintro back ⟨v17, v18, v19⟩ h
  dsimp only [agrafferef08_CutFirst_L3] at h
  refine TriE.seq ?_
  refine sj ?_
  refine rn 2 [(0, eS 3 eCoil a0), (1, eS 3 eWirePiece a1), (6, .own 0 0 v19.length), (7, .own 1 0 v17.length), (8, vi v18), (15, vi v18), (16, eS 3 eWirePiece a1)] [some (.row 1 (List.map vi v19)), some (.row 1 (List.map (eS 1 vi) v17))] ?_
  refine jv (vi (a1.length : Int)) (cy (I0 17 (.len 0 (.t 16)))) (ok_len_m rfl) rfl ?_
  refine jv (vb (decide (v18 < a1.length))) (cy (I0 18 (.bin .lss false (.t 15) (.t 17)))) (n_lss (i := v18) (j := a1.length) rfl rfl) rfl ?_
  refine jp [(0, eS 3 eCoil a0), (1, eS 3 eWirePiece a1), (6, .own 0 0 v19.length), (7, .own 1 0 v17.length), (8, vi v18), (18, vb (decide (v18 < a1.length)))] ?_
  refine TriE.cond (b := decide (v18 < a1.length)) rfl (fun c1 => ?_) (fun c1 => ?_)
  · have h := cond_t h c1
    refine TriE.skip ?_
    refine TriE.seq ?_
    refine TriE.block ?_
    refine sr [(0, eS 3 eCoil a0), (1, eS 3 eWirePiece a1), (6, .own 0 0 v19.length), (7, .own 1 0 v17.length), (8, vi v18), (9, .emp)] [some (.row 1 (List.map vi v19)), some (.row 1 (List.map (eS 1 vi) v17))] ?_
    refine TriE.seqK h (fun (t : (List Int) × (List Int)) => match t with | (v33, v34) => St.mk [(0, eS 3 eCoil a0), (1, eS 3 eWirePiece a1), (6, .own 0 0 v34.length), (7, .own 1 0 v17.length), (8, vi v18), (9, .own 2 0 v33.length)] [some (.row 1 (List.map vi v34)), some (.row 1 (List.map (eS 1 vi) v17)), some (.row 1 (List.map vi v33))]) ?_ ?_
    · rintro ⟨v33, v34⟩ h
      refine TriE.sees (Sees.freeze 2 (fr' := [(0, eS 3 eCoil a0), (1, eS 3 eWirePiece a1), (6, .own 0 0 v34.length), (7, .own 1 0 v17.length), (8, vi v18), (9, eS 1 vi v33)]) (ob' := [some (.row 1 (List.map vi v34)), some (.row 1 (List.map (eS 1 vi) v17)), none]) rfl (frz_row vi_frzE _) (.cons (.refl _) (.cons (.refl _) (.cons (.refl _) (.cons (.refl _) (.cons (.refl _) (.cons (frz_full rfl) .nil)))))) rfl) ?_
      refine TriE.regJ ?_
      refine rn 3 [(0, eS 3 eCoil a0), (1, eS 3 eWirePiece a1), (6, .own 0 0 v34.length), (8, vi v18), (83, .own 1 0 v17.length), (85, .own 3 0 1)] [some (.row 1 (List.map vi v34)), some (.row 1 (List.map (eS 1 vi) v17)), none, some (.row 1 [eS 1 vi v33])] ?_
      obtain ⟨c15, h⟩ := chk_some h
      refine je (.own 4 0 ((v17 ++ ([v33] : List (List Int))).length)) [some (.row 1 (List.map vi v34)), none, none, some (.row 1 [eS 1 vi v33]), some (.row 1 (List.map (eS 1 vi) (v17 ++ ([v33] : List (List Int)))))] (cy (I0 86 (.app 1 24 (.t 83) (.t 85)))) (ok_app_own (l := v17) (l2 := ([v33] : List (List Int))) (e := (eS 1 vi)) (u := .own 3 0 1) rfl rfl rfl rfl rfl c15) rfl rfl rfl ?_
      refine jq 1 [(0, eS 3 eCoil a0), (1, eS 3 eWirePiece a1), (6, .own 0 0 v34.length), (8, vi v18), (7, .own 4 0 ((v17 ++ ([v33] : List (List Int))).length))] [some (.row 1 (List.map vi v34)), none, none, some (.row 1 [eS 1 vi v33]), some (.row 1 (List.map (eS 1 vi) (v17 ++ ([v33] : List (List Int)))))] ?_
      refine TriE.regJ ?_
      refine rn 1 [(0, eS 3 eCoil a0), (1, eS 3 eWirePiece a1), (6, .own 0 0 v34.length), (7, .own 4 0 ((v17 ++ ([v33] : List (List Int))).length)), (19, vi v18)] [some (.row 1 (List.map vi v34)), none, none, some (.row 1 [eS 1 vi v33]), some (.row 1 (List.map (eS 1 vi) (v17 ++ ([v33] : List (List Int)))))] ?_
      obtain ⟨c16, h⟩ := chk_some h
      refine jv (vi ((v18 + 1 : Nat) : Int)) (cy (I0 20 (.bin .add false (.t 19) (.c (.p (.int .i64 1)))))) (r_addn (i := v18) (j := 1) rfl rfl c16) rfl ?_
      refine jq 1 [(0, eS 3 eCoil a0), (1, eS 3 eWirePiece a1), (6, .own 0 0 v34.length), (7, .own 4 0 ((v17 ++ ([v33] : List (List Int))).length)), (8, vi ((v18 + 1 : Nat) : Int))] [some (.row 1 (List.map vi v34)), none, none, some (.row 1 [eS 1 vi v33]), some (.row 1 (List.map (eS 1 vi) (v17 ++ ([v33] : List (List Int)))))] ?_
      exact Vs.intro (sc [0, 4] (by decide) (by kernel_rfl) (obRen_row vi_frz rfl (obRen_row (eS_frz 1 vi) rfl .nil)) rfl rfl) ⟨((v17 ++ ([v33] : List (List Int))), v18 + 1, v34), rfl, h⟩
    intro k3 h
    refine sr [(0, eS 3 eCoil a0), (1, eS 3 eWirePiece a1), (6, .own 0 0 v19.length), (7, .own 1 0 v17.length), (8, vi v18), (9, .emp), (10, vi 0)] [some (.row 1 (List.map vi v19)), some (.row 1 (List.map (eS 1 vi) v17))] ?_
    refine TriE.block ?_
    refine TriE.sees (S' := ⟨[(0, eS 3 eCoil a0), (1, eS 3 eWirePiece a1), (6, .own 0 0 v19.length), (7, .own 1 0 v17.length), (8, vi v18), (9, .own 2 0 ([] : List Int).length), (10, vi 0)], [some (.row 1 (List.map vi v19)), some (.row 1 (List.map (eS 1 vi) v17)), some (.row 1 (List.map vi ([] : List Int)))]⟩) (Sees.trans (Sees.co (fr' := [(0, eS 3 eCoil a0), (1, eS 3 eWirePiece a1), (6, .own 0 0 v19.length), (7, .own 1 0 v17.length), (8, vi v18), (9, .own 2 0 0), (10, vi 0)]) (ob' := [some (.row 1 (List.map vi v19)), some (.row 1 (List.map (eS 1 vi) v17))]) (.cons .same (.cons .same (.cons .same (.cons .same (.cons .same (.cons .own (.cons .same .nil))))))) (.same (.same .nil)) 1) sy) ?_
    refine TriE.loopN h (fun (t : (List Int) × Nat × (List Int)) => match t with | (v25, v26, v27) => St.mk [(0, eS 3 eCoil a0), (1, eS 3 eWirePiece a1), (6, .own 0 0 v27.length), (7, .own 1 0 v17.length), (8, vi v18), (9, .own 2 0 v25.length), (10, vi v26)] [some (.row 1 (List.map vi v27)), some (.row 1 (List.map (eS 1 vi) v17)), some (.row 1 (List.map vi v25))]) rfl ?_
    clear h
    rintro back ⟨v25, v26, v27⟩ h
    dsimp only [agrafferef08_CutFirst_L2] at h
    refine TriE.seq ?_
    refine sj ?_
    refine rn 3 [(0, eS 3 eCoil a0), (1, eS 3 eWirePiece a1), (6, .own 0 0 v27.length), (7, .own 1 0 v17.length), (8, vi v18), (9, .own 2 0 v25.length), (10, vi v26), (21, vi v26), (22, eS 3 eWirePiece a1), (23, vi v18)] [some (.row 1 (List.map vi v27)), some (.row 1 (List.map (eS 1 vi) v17)), some (.row 1 (List.map vi v25))] ?_
    refine jv (.fptr 3 (List.map eWirePiece a1) v18 0) (cy (I0 24 (.iaddr 3 (.t 22) (.t 23)))) (ok_iaddr_m (j := v18) rfl rfl rfl c1) rfl ?_
    refine rn 1 [(0, eS 3 eCoil a0), (1, eS 3 eWirePiece a1), (6, .own 0 0 v27.length), (7, .own 1 0 v17.length), (8, vi v18), (9, .own 2 0 v25.length), (10, vi v26), (21, vi v26), (25, .fptr 3 (List.map eWirePiece a1) v18 2)] [some (.row 1 (List.map vi v27)), some (.row 1 (List.map (eS 1 vi) v17)), some (.row 1 (List.map vi v25))] ?_
    refine jv (vi ((ix a1 v18).Count)) (cy (I0 26 (.load false 1 (.t 25)))) (ok_load_fm (v := vi ((ix a1 v18).Count)) rfl c1 rfl) rfl ?_
    refine jq 1 [(0, eS 3 eCoil a0), (1, eS 3 eWirePiece a1), (6, .own 0 0 v27.length), (7, .own 1 0 v17.length), (8, vi v18), (9, .own 2 0 v25.length), (10, vi v26), (27, vb (decide ((v26 : Int) < ((ix a1 v18).Count))))] [some (.row 1 (List.map vi v27)), some (.row 1 (List.map (eS 1 vi) v17)), some (.row 1 (List.map vi v25))] ?_
    refine TriE.cond (b := decide ((v26 : Int) < ((ix a1 v18).Count))) rfl (fun c2 => ?_) (fun c2 => ?_)
    · have h := cond_t h c2
      refine TriE.skip ?_
      refine TriE.seq ?_
      refine TriE.block ?_
      refine sr [(0, eS 3 eCoil a0), (1, eS 3 eWirePiece a1), (6, .own 0 0 v27.length), (7, .own 1 0 v17.length), (8, vi v18), (9, .own 2 0 v25.length), (10, vi v26), (11, vi (-1))] [some (.row 1 (List.map vi v27)), some (.row 1 (List.map (eS 1 vi) v17)), some (.row 1 (List.map vi v25))] ?_
      refine TriE.seqK h (fun (v32 : Int) => St.mk [(0, eS 3 eCoil a0), (1, eS 3 eWirePiece a1), (6, .own 0 0 v27.length), (7, .own 1 0 v17.length), (8, vi v18), (9, .own 2 0 v25.length), (10, vi v26), (11, vi v32)] [some (.row 1 (List.map vi v27)), some (.row 1 (List.map (eS 1 vi) v17)), some (.row 1 (List.map vi v25))]) ?_ ?_
      · rintro v32 h
        refine TriE.seq ?_
        refine sr [(0, eS 3 eCoil a0), (1, eS 3 eWirePiece a1), (6, .own 0 0 v27.length), (7, .own 1 0 v17.length), (8, vi v18), (9, .own 2 0 v25.length), (10, vi v26), (11, vi v32), (65, vb (decide (v32 < (0 : Int))))] [some (.row 1 (List.map vi v27)), some (.row 1 (List.map (eS 1 vi) v17)), some (.row 1 (List.map vi v25))] ?_
        refine TriE.cond (b := decide (v32 < (0 : Int))) rfl (fun c9 => ?_) (fun c9 => ?_)
        · have h := cond_t h c9
          refine sr [(4, .emp), (5, vb false)] [some (.row 1 (List.map vi v27)), some (.row 1 (List.map (eS 1 vi) v17)), some (.row 1 (List.map vi v25))] ?_
          refine TriE.ret ?_
          have h := Option.some.inj h
          subst h
          exact DoneS.ret (S' := ⟨[(4, eS 1 (eS 1 vi) ([] : List (List Int))), (5, vb false)], []⟩) (Sees.trans (Sees.vco (fr' := [(4, eS 1 (eS 1 vi) ([] : List (List Int))), (5, vb false)]) (.cons .sl (.cons .same .nil))) (sc [] (by decide) (by kernel_rfl) ObRen.nil rfl rfl)) rfl rfl
        have h := cond_f h c9
        refine TriE.skip ?_
        refine TriE.seq ?_
        refine TriE.sees (Sees.less (fr' := [(0, eS 3 eCoil a0), (1, eS 3 eWirePiece a1), (6, .own 0 0 v27.length), (7, .own 1 0 v17.length), (8, vi v18), (9, .own 2 0 v25.length), (10, vi v26), (11, vi v32)]) (.cons rfl (.cons rfl (.cons rfl (.cons rfl (.cons rfl (.cons rfl (.cons rfl (.cons rfl .nil))))))))) ?_
        refine TriE.draw (by kernel_rfl) ?_
        refine RegD.run 4 [(69, vi v32), (68, .own 0 0 v27.length), (67, vi v32), (66, .own 0 0 v27.length), (0, eS 3 eCoil a0), (1, eS 3 eWirePiece a1), (6, .own 0 0 v27.length), (7, .own 1 0 v17.length), (8, vi v18), (9, .own 2 0 v25.length), (10, vi v26), (11, vi v32)] [some (.row 1 (List.map vi v27)), some (.row 1 (List.map (eS 1 vi) v17)), some (.row 1 (List.map vi v25)), none, none, none, none] (by kernel_rfl) ?_
        obtain ⟨c10, h⟩ := chk_some h
        refine dv (.ptr 0 v32.toNat 0) (cy (I0 70 (.iaddr 1 (.t 68) (.t 69)))) (ok_iaddr_o0 (j := v32.toNat) rfl rfl rfl (inB_to c10) (inB_lt c10)) rfl ?_
        obtain ⟨c11, h⟩ := chk_some h
        refine dv (vi (ix v27 v32.toNat)) (cy (I0 71 (.load false 1 (.t 70)))) (ok_load_pm (l := v27) (e := vi) (v := vi (ix v27 v32.toNat)) rfl rfl c11 rfl) rfl ?_
        refine RegD.run 2 [(73, vi v18), (72, eS 3 eWirePiece a1), (71, vi (ix v27 v32.toNat)), (70, .ptr 0 v32.toNat 0), (69, vi v32), (68, .own 0 0 v27.length), (67, vi v32), (66, .own 0 0 v27.length), (0, eS 3 eCoil a0), (1, eS 3 eWirePiece a1), (6, .own 0 0 v27.length), (7, .own 1 0 v17.length), (8, vi v18), (9, .own 2 0 v25.length), (10, vi v26), (11, vi v32)] [some (.row 1 (List.map vi v27)), some (.row 1 (List.map (eS 1 vi) v17)), some (.row 1 (List.map vi v25)), none, none, none, none, none, none, none, none] (by kernel_rfl) ?_
        refine dv (.fptr 3 (List.map eWirePiece a1) v18 0) (cy (I0 74 (.iaddr 3 (.t 72) (.t 73)))) (ok_iaddr_m (j := v18) rfl rfl rfl c1) rfl ?_
        refine RegD.run 1 [(75, .fptr 3 (List.map eWirePiece a1) v18 1), (74, .fptr 3 (List.map eWirePiece a1) v18 0), (73, vi v18), (72, eS 3 eWirePiece a1), (71, vi (ix v27 v32.toNat)), (70, .ptr 0 v32.toNat 0), (69, vi v32), (68, .own 0 0 v27.length), (67, vi v32), (66, .own 0 0 v27.length), (0, eS 3 eCoil a0), (1, eS 3 eWirePiece a1), (6, .own 0 0 v27.length), (7, .own 1 0 v17.length), (8, vi v18), (9, .own 2 0 v25.length), (10, vi v26), (11, vi v32)] [some (.row 1 (List.map vi v27)), some (.row 1 (List.map (eS 1 vi) v17)), some (.row 1 (List.map vi v25)), none, none, none, none, none, none, none, none, none, none] (by kernel_rfl) ?_
        refine dv (vi ((ix a1 v18).Length)) (cy (I0 76 (.load false 1 (.t 75)))) (ok_load_fm (v := vi ((ix a1 v18).Length)) rfl c1 rfl) rfl ?_
        obtain ⟨c12, h⟩ := chk_some h
        refine dv (vi ((ix v27 v32.toNat) - ((ix a1 v18).Length))) (cy (I0 77 (.bin .sub false (.t 71) (.t 76)))) (r_sub rfl rfl c12) rfl ?_
        refine dv (.ptr 0 v32.toNat 0) (cy (I0 78 (.iaddr 1 (.t 66) (.t 67)))) (ok_iaddr_o0 (j := v32.toNat) rfl rfl rfl (inB_to c10) (inB_lt c10)) rfl ?_
        refine de (.undef) [some (.row 1 (List.map vi (List.set v27 v32.toNat ((ix v27 v32.toNat) - ((ix a1 v18).Length))))), some (.row 1 (List.map (eS 1 vi) v17)), some (.row 1 (List.map vi v25)), none, none, none, none, none, none, none, none, none, none, none, none, none, none] (cy (IN (.store 1 (.t 78) (.t 77)))) (ok_store_m (l := v27) (e := vi) (x' := (ix v27 v32.toNat) - ((ix a1 v18).Length)) (u := vi ((ix v27 v32.toNat) - ((ix a1 v18).Length))) rfl rfl rfl c11 rfl rfl) rfl rfl rfl ?_
        refine RegD.done rfl (by kernel_rfl) (S' := ⟨[(0, eS 3 eCoil a0), (1, eS 3 eWirePiece a1), (6, .own 0 0 v27.length), (7, .own 1 0 v17.length), (8, vi v18), (9, .own 2 0 v25.length), (10, vi v26), (11, vi v32)], [some (.row 1 (List.map vi (List.set v27 v32.toNat ((ix v27 v32.toNat) - ((ix a1 v18).Length))))), some (.row 1 (List.map (eS 1 vi) v17)), some (.row 1 (List.map vi v25))]⟩) (sc [0, 1, 2] (by decide) (by kernel_rfl) (obRen_row vi_frz rfl (obRen_row (eS_frz 1 vi) rfl (obRen_row vi_frz rfl .nil))) rfl rfl) ?_
        refine TriE.regJ ?_
        refine rn 3 [(0, eS 3 eCoil a0), (1, eS 3 eWirePiece a1), (6, .own 0 0 v27.length), (7, .own 1 0 v17.length), (8, vi v18), (10, vi v26), (79, .own 2 0 v25.length), (81, .own 3 0 1)] [some (.row 1 (List.map vi (List.set v27 v32.toNat ((ix v27 v32.toNat) - ((ix a1 v18).Length))))), some (.row 1 (List.map (eS 1 vi) v17)), some (.row 1 (List.map vi v25)), some (.row 1 [vi v32])] ?_
        obtain ⟨c13, h⟩ := chk_some h
        refine je (.own 4 0 ((v25 ++ ([v32] : List Int)).length)) [some (.row 1 (List.map vi (List.set v27 v32.toNat ((ix v27 v32.toNat) - ((ix a1 v18).Length))))), some (.row 1 (List.map (eS 1 vi) v17)), none, some (.row 1 [vi v32]), some (.row 1 (List.map vi (v25 ++ ([v32] : List Int))))] (cy (I0 82 (.app 1 8 (.t 79) (.t 81)))) (ok_app_own (l := v25) (l2 := ([v32] : List Int)) (e := vi) (u := .own 3 0 1) rfl rfl rfl rfl rfl c13) rfl rfl rfl ?_
        refine jq 1 [(0, eS 3 eCoil a0), (1, eS 3 eWirePiece a1), (6, .own 0 0 v27.length), (7, .own 1 0 v17.length), (8, vi v18), (10, vi v26), (9, .own 4 0 ((v25 ++ ([v32] : List Int)).length))] [some (.row 1 (List.map vi (List.set v27 v32.toNat ((ix v27 v32.toNat) - ((ix a1 v18).Length))))), some (.row 1 (List.map (eS 1 vi) v17)), none, some (.row 1 [vi v32]), some (.row 1 (List.map vi (v25 ++ ([v32] : List Int))))] ?_
        refine TriE.regJ ?_
        refine rn 1 [(0, eS 3 eCoil a0), (1, eS 3 eWirePiece a1), (6, .own 0 0 v27.length), (7, .own 1 0 v17.length), (8, vi v18), (9, .own 4 0 ((v25 ++ ([v32] : List Int)).length)), (28, vi v26)] [some (.row 1 (List.map vi (List.set v27 v32.toNat ((ix v27 v32.toNat) - ((ix a1 v18).Length))))), some (.row 1 (List.map (eS 1 vi) v17)), none, some (.row 1 [vi v32]), some (.row 1 (List.map vi (v25 ++ ([v32] : List Int))))] ?_
        obtain ⟨c14, h⟩ := chk_some h
        refine jv (vi ((v26 + 1 : Nat) : Int)) (cy (I0 29 (.bin .add false (.t 28) (.c (.p (.int .i64 1)))))) (r_addn (i := v26) (j := 1) rfl rfl c14) rfl ?_
        refine jq 1 [(0, eS 3 eCoil a0), (1, eS 3 eWirePiece a1), (6, .own 0 0 v27.length), (7, .own 1 0 v17.length), (8, vi v18), (9, .own 4 0 ((v25 ++ ([v32] : List Int)).length)), (10, vi ((v26 + 1 : Nat) : Int))] [some (.row 1 (List.map vi (List.set v27 v32.toNat ((ix v27 v32.toNat) - ((ix a1 v18).Length))))), some (.row 1 (List.map (eS 1 vi) v17)), none, some (.row 1 [vi v32]), some (.row 1 (List.map vi (v25 ++ ([v32] : List Int))))] ?_
        exact Vs.intro (Sees.cov (Cov.mk2 (rs := [0, 1, 4]) (by decide) rfl rfl (.cons (.inl rfl) (.cons (.inl rfl) (.cons (.inl (by simp only [List.length_set]; rfl)) (.cons (.inl rfl) (.cons (.inl rfl) (.cons (.inl rfl) (.cons (.inl rfl) .nil))))))) (obRen_row vi_frz rfl (obRen_row (eS_frz 1 vi) rfl (obRen_row vi_frz rfl .nil))))) ⟨((v25 ++ ([v32] : List Int)), v26 + 1, (List.set v27 v32.toNat ((ix v27 v32.toNat) - ((ix a1 v18).Length)))), rfl, h⟩
      intro k2 h
      refine sr [(0, eS 3 eCoil a0), (1, eS 3 eWirePiece a1), (6, .own 0 0 v27.length), (7, .own 1 0 v17.length), (8, vi v18), (9, .own 2 0 v25.length), (10, vi v26), (11, vi (-1)), (12, vi 0)] [some (.row 1 (List.map vi v27)), some (.row 1 (List.map (eS 1 vi) v17)), some (.row 1 (List.map vi v25))] ?_
      refine TriE.block ?_
      refine TriE.sees (S' := ⟨[(0, eS 3 eCoil a0), (1, eS 3 eWirePiece a1), (6, .own 0 0 v27.length), (7, .own 1 0 v17.length), (8, vi v18), (9, .own 2 0 v25.length), (10, vi v26), (11, vi (-1)), (12, vi 0)], [some (.row 1 (List.map vi v27)), some (.row 1 (List.map (eS 1 vi) v17)), some (.row 1 (List.map vi v25))]⟩) sy ?_
      refine TriE.loopN h (fun (t : Int × Nat) => match t with | (v29, v30) => St.mk [(0, eS 3 eCoil a0), (1, eS 3 eWirePiece a1), (6, .own 0 0 v27.length), (7, .own 1 0 v17.length), (8, vi v18), (9, .own 2 0 v25.length), (10, vi v26), (11, vi v29), (12, vi v30)] [some (.row 1 (List.map vi v27)), some (.row 1 (List.map (eS 1 vi) v17)), some (.row 1 (List.map vi v25))]) rfl ?_
      clear h
      rintro back ⟨v29, v30⟩ h
      dsimp only [agrafferef08_CutFirst_L1] at h
      refine TriE.seq ?_
      refine sj ?_
      refine rn 2 [(0, eS 3 eCoil a0), (1, eS 3 eWirePiece a1), (6, .own 0 0 v27.length), (7, .own 1 0 v17.length), (8, vi v18), (9, .own 2 0 v25.length), (10, vi v26), (11, vi v29), (12, vi v30), (30, vi v30), (31, eS 3 eCoil a0)] [some (.row 1 (List.map vi v27)), some (.row 1 (List.map (eS 1 vi) v17)), some (.row 1 (List.map vi v25))] ?_
      refine jv (vi (a0.length : Int)) (cy (I0 32 (.len 0 (.t 31)))) (ok_len_m rfl) rfl ?_
      refine jv (vb (decide (v30 < a0.length))) (cy (I0 33 (.bin .lss false (.t 30) (.t 32)))) (n_lss (i := v30) (j := a0.length) rfl rfl) rfl ?_
      refine rn 1 [(0, eS 3 eCoil a0), (1, eS 3 eWirePiece a1), (6, .own 0 0 v27.length), (7, .own 1 0 v17.length), (8, vi v18), (9, .own 2 0 v25.length), (10, vi v26), (11, vi v29), (12, vi v30), (34, vb (decide (v30 < a0.length)))] [some (.row 1 (List.map vi v27)), some (.row 1 (List.map (eS 1 vi) v17)), some (.row 1 (List.map vi v25))] ?_
      refine RegJ.op (Op1.valk (v := vi v29) _ _ (cy (IG 35 (.mov (.t 11)) 34 true)) rfl (by kernel_rfl) (fun hg => (.cons rfl .nil))) ?_
      refine RegJ.op (Op1.valk (v := vb (decide (v29 < (0 : Int)))) _ _ (cy (IG 36 (.bin .lss false (.t 35) (.c (.p (.int .i64 0)))) 34 true)) rfl (by kernel_rfl) (fun hg => (.cons hg (.cons rfl .nil)))) ?_
      refine RegJ.op (Op1.and (cy (I0 37 (.pick (.t 34) (.t 36) (.c (.p (.bool false)))))) rfl rfl (by first | exact hokA1 | exact hokA0 | simp)) ?_
      refine jp [(0, eS 3 eCoil a0), (1, eS 3 eWirePiece a1), (6, .own 0 0 v27.length), (7, .own 1 0 v17.length), (8, vi v18), (9, .own 2 0 v25.length), (10, vi v26), (11, vi v29), (12, vi v30), (37, vb ((decide (v30 < a0.length)) && (decide (v29 < (0 : Int)))))] ?_
      refine TriE.cond (b := (decide (v30 < a0.length)) && (decide (v29 < (0 : Int)))) rfl (fun c3 => ?_) (fun c3 => ?_)
      · have h := cond_t h c3
        refine TriE.skip ?_
        refine TriE.seqK h (fun (v31 : Int) => St.mk [(0, eS 3 eCoil a0), (1, eS 3 eWirePiece a1), (6, .own 0 0 v27.length), (7, .own 1 0 v17.length), (8, vi v18), (9, .own 2 0 v25.length), (10, vi v26), (12, vi v30), (11, vi v31)] [some (.row 1 (List.map vi v27)), some (.row 1 (List.map (eS 1 vi) v17)), some (.row 1 (List.map vi v25))]) ?_ ?_
        · rintro v31 h
          refine TriE.regJ ?_
          refine rn 1 [(0, eS 3 eCoil a0), (1, eS 3 eWirePiece a1), (6, .own 0 0 v27.length), (7, .own 1 0 v17.length), (8, vi v18), (9, .own 2 0 v25.length), (10, vi v26), (11, vi v31), (38, vi v30)] [some (.row 1 (List.map vi v27)), some (.row 1 (List.map (eS 1 vi) v17)), some (.row 1 (List.map vi v25))] ?_
          obtain ⟨c8, h⟩ := chk_some h
          refine jv (vi ((v30 + 1 : Nat) : Int)) (cy (I0 39 (.bin .add false (.t 38) (.c (.p (.int .i64 1)))))) (r_addn (i := v30) (j := 1) rfl rfl c8) rfl ?_
          refine jq 1 [(0, eS 3 eCoil a0), (1, eS 3 eWirePiece a1), (6, .own 0 0 v27.length), (7, .own 1 0 v17.length), (8, vi v18), (9, .own 2 0 v25.length), (10, vi v26), (11, vi v31), (12, vi ((v30 + 1 : Nat) : Int))] [some (.row 1 (List.map vi v27)), some (.row 1 (List.map (eS 1 vi) v17)), some (.row 1 (List.map vi v25))] ?_
          exact Vs.intro sy ⟨(v31, v30 + 1), rfl, h⟩
        intro k1 h
        refine TriE.block ?_
        refine TriE.seq ?_
        refine TriE.sees (Sees.less (fr' := [(0, eS 3 eCoil a0), (1, eS 3 eWirePiece a1), (6, .own 0 0 v27.length), (7, .own 1 0 v17.length), (8, vi v18), (9, .own 2 0 v25.length), (10, vi v26), (11, vi v29), (12, vi v30)]) (.cons rfl (.cons rfl (.cons rfl (.cons rfl (.cons rfl (.cons rfl (.cons rfl (.cons rfl (.cons rfl .nil)))))))))) ?_
        refine TriE.draw (by kernel_rfl) ?_
        refine RegD.run 2 [(41, vi v30), (40, eS 3 eCoil a0), (0, eS 3 eCoil a0), (1, eS 3 eWirePiece a1), (6, .own 0 0 v27.length), (7, .own 1 0 v17.length), (8, vi v18), (9, .own 2 0 v25.length), (10, vi v26), (11, vi v29), (12, vi v30)] [some (.row 1 (List.map vi v27)), some (.row 1 (List.map (eS 1 vi) v17)), some (.row 1 (List.map vi v25)), none, none] (by kernel_rfl) ?_
        obtain ⟨c4, h⟩ := chk_some h
        refine dv (.fptr 3 (List.map eCoil a0) v30 0) (cy (I0 42 (.iaddr 3 (.t 40) (.t 41)))) (ok_iaddr_m (j := v30) rfl rfl rfl c4) rfl ?_
        refine RegD.run 1 [(43, .fptr 3 (List.map eCoil a0) v30 1), (42, .fptr 3 (List.map eCoil a0) v30 0), (41, vi v30), (40, eS 3 eCoil a0), (0, eS 3 eCoil a0), (1, eS 3 eWirePiece a1), (6, .own 0 0 v27.length), (7, .own 1 0 v17.length), (8, vi v18), (9, .own 2 0 v25.length), (10, vi v26), (11, vi v29), (12, vi v30)] [some (.row 1 (List.map vi v27)), some (.row 1 (List.map (eS 1 vi) v17)), some (.row 1 (List.map vi v25)), none, none, none, none] (by kernel_rfl) ?_
        refine dv (vi ((ix a0 v30).Gauge)) (cy (I0 44 (.load false 1 (.t 43)))) (ok_load_fm (v := vi ((ix a0 v30).Gauge)) rfl c4 rfl) rfl ?_
        refine RegD.run 2 [(46, vi v18), (45, eS 3 eWirePiece a1), (44, vi ((ix a0 v30).Gauge)), (43, .fptr 3 (List.map eCoil a0) v30 1), (42, .fptr 3 (List.map eCoil a0) v30 0), (41, vi v30), (40, eS 3 eCoil a0), (0, eS 3 eCoil a0), (1, eS 3 eWirePiece a1), (6, .own 0 0 v27.length), (7, .own 1 0 v17.length), (8, vi v18), (9, .own 2 0 v25.length), (10, vi v26), (11, vi v29), (12, vi v30)] [some (.row 1 (List.map vi v27)), some (.row 1 (List.map (eS 1 vi) v17)), some (.row 1 (List.map vi v25)), none, none, none, none, none, none, none] (by kernel_rfl) ?_
        refine dv (.fptr 3 (List.map eWirePiece a1) v18 0) (cy (I0 47 (.iaddr 3 (.t 45) (.t 46)))) (ok_iaddr_m (j := v18) rfl rfl rfl c1) rfl ?_
        refine RegD.run 1 [(48, .fptr 3 (List.map eWirePiece a1) v18 0), (47, .fptr 3 (List.map eWirePiece a1) v18 0), (46, vi v18), (45, eS 3 eWirePiece a1), (44, vi ((ix a0 v30).Gauge)), (43, .fptr 3 (List.map eCoil a0) v30 1), (42, .fptr 3 (List.map eCoil a0) v30 0), (41, vi v30), (40, eS 3 eCoil a0), (0, eS 3 eCoil a0), (1, eS 3 eWirePiece a1), (6, .own 0 0 v27.length), (7, .own 1 0 v17.length), (8, vi v18), (9, .own 2 0 v25.length), (10, vi v26), (11, vi v29), (12, vi v30)] [some (.row 1 (List.map vi v27)), some (.row 1 (List.map (eS 1 vi) v17)), some (.row 1 (List.map vi v25)), none, none, none, none, none, none, none, none, none] (by kernel_rfl) ?_
        refine dv (vi ((ix a1 v18).Gauge)) (cy (I0 49 (.load false 1 (.t 48)))) (ok_load_fm (v := vi ((ix a1 v18).Gauge)) rfl c1 rfl) rfl ?_
        refine RegD.run 2 [(51, vb (((ix a0 v30).Gauge) == ((ix a1 v18).Gauge))), (50, vb (((ix a0 v30).Gauge) == ((ix a1 v18).Gauge))), (49, vi ((ix a1 v18).Gauge)), (48, .fptr 3 (List.map eWirePiece a1) v18 0), (47, .fptr 3 (List.map eWirePiece a1) v18 0), (46, vi v18), (45, eS 3 eWirePiece a1), (44, vi ((ix a0 v30).Gauge)), (43, .fptr 3 (List.map eCoil a0) v30 1), (42, .fptr 3 (List.map eCoil a0) v30 0), (41, vi v30), (40, eS 3 eCoil a0), (0, eS 3 eCoil a0), (1, eS 3 eWirePiece a1), (6, .own 0 0 v27.length), (7, .own 1 0 v17.length), (8, vi v18), (9, .own 2 0 v25.length), (10, vi v26), (11, vi v29), (12, vi v30)] [some (.row 1 (List.map vi v27)), some (.row 1 (List.map (eS 1 vi) v17)), some (.row 1 (List.map vi v25)), none, none, none, none, none, none, none, none, none, none, none, none] (by kernel_rfl) ?_
        refine RegD.op (OpD.valk (g := (((ix a0 v30).Gauge) == ((ix a1 v18).Gauge))) (v := .own 0 0 v27.length) _ _ (cy (IG 52 (.mov (.t 6)) 51 true)) rfl (by kernel_rfl) (fun hg => (.cons rfl .nil))) ?_
        refine RegD.op (OpD.valk (g := (((ix a0 v30).Gauge) == ((ix a1 v18).Gauge))) (v := vi v30) _ _ (cy (IG 53 (.mov (.t 12)) 51 true)) rfl (by kernel_rfl) (fun hg => (.cons rfl .nil))) ?_
        obtain ⟨c5, h⟩ := chk_some h
        refine RegD.op (OpD.valg (g := (((ix a0 v30).Gauge) == ((ix a1 v18).Gauge))) (v := .ptr 0 v30 0) _ _ (cy (IG 54 (.iaddr 1 (.t 52) (.t 53)) 51 true)) rfl (fun hg => (ok_iaddr_o0 (j := v30) rfl rfl rfl rfl (gor c5 hg))) (fun hg => (.cons hg (.cons hg .nil)))) ?_
        obtain ⟨c6, h⟩ := chk_some h
        refine RegD.op (OpD.valg (g := (((ix a0 v30).Gauge) == ((ix a1 v18).Gauge))) (v := vi (ix v27 v30)) _ _ (cy (IG 55 (.load false 1 (.t 54)) 51 true)) rfl (fun hg => (ok_load_pm (l := v27) (e := vi) (v := vi (ix v27 v30)) rfl rfl (gor c6 hg) rfl)) (fun hg => (.cons hg .nil))) ?_
        refine RegD.op (OpD.valk (g := (((ix a0 v30).Gauge) == ((ix a1 v18).Gauge))) (v := eS 3 eWirePiece a1) _ _ (cy (IG 56 (.mov (.t 1)) 51 true)) rfl (by kernel_rfl) (fun hg => (.cons rfl .nil))) ?_
        refine RegD.op (OpD.valk (g := (((ix a0 v30).Gauge) == ((ix a1 v18).Gauge))) (v := vi v18) _ _ (cy (IG 57 (.mov (.t 8)) 51 true)) rfl (by kernel_rfl) (fun hg => (.cons rfl .nil))) ?_
        refine RegD.op (OpD.valg (g := (((ix a0 v30).Gauge) == ((ix a1 v18).Gauge))) (v := .fptr 3 (List.map eWirePiece a1) v18 0) _ _ (cy (IG 58 (.iaddr 3 (.t 56) (.t 57)) 51 true)) rfl (fun hg => (ok_iaddr_m (j := v18) rfl rfl rfl c1)) (fun hg => (.cons hg (.cons hg .nil)))) ?_
        refine RegD.op (OpD.valk (g := (((ix a0 v30).Gauge) == ((ix a1 v18).Gauge))) (v := .fptr 3 (List.map eWirePiece a1) v18 1) _ _ (cy (IG 59 (.faddr 1 (.t 58)) 51 true)) rfl (by kernel_rfl) (fun hg => (.cons hg .nil))) ?_
        refine RegD.op (OpD.valg (g := (((ix a0 v30).Gauge) == ((ix a1 v18).Gauge))) (v := vi ((ix a1 v18).Length)) _ _ (cy (IG 60 (.load false 1 (.t 59)) 51 true)) rfl (fun hg => (ok_load_fm (v := vi ((ix a1 v18).Length)) rfl c1 rfl)) (fun hg => (.cons hg .nil))) ?_
        refine RegD.op (OpD.valk (g := (((ix a0 v30).Gauge) == ((ix a1 v18).Gauge))) (v := vb (decide (((ix a1 v18).Length) ≤ (ix v27 v30)))) _ _ (cy (IG 61 (.bin .geq false (.t 55) (.t 60)) 51 true)) rfl (by kernel_rfl) (fun hg => (.cons hg (.cons hg .nil)))) ?_
        refine RegD.op (OpD.and (cy (I0 62 (.pick (.t 51) (.t 61) (.c (.p (.bool false)))))) rfl rfl (by first | exact hokA1 | exact hokA0 | simp)) ?_
        refine RegD.done rfl (by kernel_rfl) (S' := ⟨[(0, eS 3 eCoil a0), (1, eS 3 eWirePiece a1), (6, .own 0 0 v27.length), (7, .own 1 0 v17.length), (8, vi v18), (9, .own 2 0 v25.length), (10, vi v26), (11, vi v29), (12, vi v30), (62, vb ((((ix a0 v30).Gauge) == ((ix a1 v18).Gauge)) && (decide (((ix a1 v18).Length) ≤ (ix v27 v30)))))], [some (.row 1 (List.map vi v27)), some (.row 1 (List.map (eS 1 vi) v17)), some (.row 1 (List.map vi v25))]⟩) (sc [0, 1, 2] (by decide) (by kernel_rfl) (obRen_row vi_frz rfl (obRen_row (eS_frz 1 vi) rfl (obRen_row vi_frz rfl .nil))) rfl rfl) ?_
        refine TriE.cond (b := (((ix a0 v30).Gauge) == ((ix a1 v18).Gauge)) && (decide (((ix a1 v18).Length) ≤ (ix v27 v30)))) rfl (fun c7 => ?_) (fun c7 => ?_)
        · have h := cond_t h c7
          refine tr [(0, eS 3 eCoil a0), (1, eS 3 eWirePiece a1), (6, .own 0 0 v27.length), (7, .own 1 0 v17.length), (8, vi v18), (9, .own 2 0 v25.length), (10, vi v26), (12, vi v30), (11, vi v30)] [some (.row 1 (List.map vi v27)), some (.row 1 (List.map (eS 1 vi) v17)), some (.row 1 (List.map vi v25))] ?_
          exact Vs.intro Sees.refl ⟨(v30 : Int), rfl, h⟩
        have h := cond_f h c7
        refine TriE.skip ?_
        exact Vs.intro sy ⟨v29, rfl, h⟩
      have h := cond_f h c3
      refine TriE.exit ?_
      exact Vs.intro sy ⟨v29, rfl, h⟩
    have h := cond_f h c2
    refine TriE.exit ?_
    exact Vs.intro sy ⟨(v25, v27), rfl, h⟩
  have h := cond_f h c1
  refine TriE.exit ?_
  exact Vs.intro (sc [1] (by decide) (by kernel_rfl) (obRen_row (eS_frz 1 vi) rfl .nil) rfl rfl) ⟨v17, rfl, h⟩
theorem agraffelaw08_RestoreWire_ok (n : Nat) (a0 : List Coil) (a1 : List WirePiece) (a2 : List (List Int)) (r : Bool) (h : agraffelaw08_RestoreWire n a0 a1 a2 = some r) : FnL Tryz.prog 4 [eS 3 eCoil a0, eS 3 eWirePiece a1, eS 1 (eS 1 vi) a2] [] (vb r) [] := by
  dsimp only [agraffelaw08_RestoreWire] at h
  refine FnL.ofS (ts := [6]) Tryz.call4 Tryz.func4 rfl rfl (Nat.le_of_ble_eq_true rfl) (Nat.le_of_ble_eq_true rfl) (fun j h => absurd h (Nat.not_lt_zero j)) ?_
  refine sr [(0, eS 3 eCoil a0), (1, eS 3 eWirePiece a1), (2, eS 1 (eS 1 vi) a2)] [] ?_
  refine TriE.seq ?_
  refine sj ?_
  obtain ⟨y1, hy1, h⟩ := bind_some h
  refine RegJ.op (Op1.call (y' := vb y1) (obx := []) (oby := []) (ob2 := []) _ _ (cy (I0 23 (.call 14 []))) rfl (agraffelaw08_awake_ok n y1 hy1) [] (by kernel_rfl) (.cons rfl .nil) (by kernel_rfl) (by kernel_rfl) ObsRen.nil (by kernel_rfl) ObsRen.nil (by kernel_rfl)) ?_
  refine jq 1 [(0, eS 3 eCoil a0), (1, eS 3 eWirePiece a1), (2, eS 1 (eS 1 vi) a2), (24, vb (!y1))] [] ?_
  refine TriE.cond (b := !y1) rfl (fun c1 => ?_) (fun c1 => ?_)
  · have h := cond_t h c1
    refine sr [(6, vb false)] [] ?_
    refine TriE.ret ?_
    have h := Option.some.inj h
    subst h
    exact DoneS.ret (S' := ⟨[(6, vb false)], []⟩) Sees.refl rfl rfl
  have h := cond_f h c1
  refine TriE.skip ?_
  refine TriE.seq ?_
  refine sj ?_
  refine rn 2 [(0, eS 3 eCoil a0), (1, eS 3 eWirePiece a1), (2, eS 1 (eS 1 vi) a2), (25, eS 3 eCoil a0), (26, eS 3 eWirePiece a1)] [] ?_
  obtain ⟨y2, hy2, h⟩ := bind_some h
  refine RegJ.op (Op1.call (y' := vb y2) (obx := []) (oby := []) (ob2 := []) _ _ (cy (I0 27 (.call 27 [(.t 25), (.t 26)]))) rfl (agraffelaw08_wire_ok n a0 a1 y2 hy2) [] (by kernel_rfl) (.cons rfl (.cons rfl (.cons rfl .nil))) (by kernel_rfl) (by kernel_rfl) ObsRen.nil (by kernel_rfl) ObsRen.nil (by kernel_rfl)) ?_
  refine rn 2 [(0, eS 3 eCoil a0), (1, eS 3 eWirePiece a1), (2, eS 1 (eS 1 vi) a2), (29, vb (!y2))] [] ?_
  refine RegJ.op (Op1.valk (v := eS 1 (eS 1 vi) a2) _ _ (cy (IG 30 (.mov (.t 2)) 29 false)) rfl (by kernel_rfl) (fun hg => (.cons rfl .nil))) ?_
  refine RegJ.op (Op1.valg (v := vi (a2.length : Int)) _ _ (cy (IG 31 (.len 0 (.t 30)) 29 false)) rfl (fun hg => (ok_len_m rfl)) (fun hg => (.cons hg .nil))) ?_
  refine RegJ.op (Op1.valg (v := vb (decide (10 < a2.length))) _ _ (cy (IG 32 (.bin .gtr false (.t 31) (.c (.p (.int .i64 10)))) 29 false)) rfl (fun hg => (n_gtr (i := a2.length) (j := 10) rfl rfl)) (fun hg => (.cons hg (.cons rfl .nil)))) ?_
  refine RegJ.op (Op1.or (cy (I0 33 (.pick (.t 29) (.c (.p (.bool true))) (.t 32)))) rfl rfl (by first | exact hokO1 | exact hokO0 | simp)) ?_
  refine jp [(0, eS 3 eCoil a0), (1, eS 3 eWirePiece a1), (2, eS 1 (eS 1 vi) a2), (33, vb ((!y2) || (decide (10 < a2.length))))] ?_
  refine TriE.cond (b := (!y2) || (decide (10 < a2.length))) rfl (fun c2 => ?_) (fun c2 => ?_)
  · have h := cond_t h c2
    refine sr [(6, vb true)] [] ?_
    refine TriE.ret ?_
    have h := Option.some.inj h
    subst h
    exact DoneS.ret (S' := ⟨[(6, vb true)], []⟩) Sees.refl rfl rfl
  have h := cond_f h c2
  refine TriE.skip ?_
  refine sr [(0, eS 3 eCoil a0), (1, eS 3 eWirePiece a1), (2, eS 1 (eS 1 vi) a2), (7, .emp)] [] ?_
  refine TriE.seqK h (fun (v7 : (List (List Int))) => St.mk [(0, eS 3 eCoil a0), (1, eS 3 eWirePiece a1), (2, eS 1 (eS 1 vi) a2), (7, .own 0 0 v7.length)] [some (.row 1 (List.map (eS 1 vi) v7))]) ?_ ?_
  · rintro v7 h
    refine sj ?_
    refine rn 2 [(0, eS 3 eCoil a0), (1, eS 3 eWirePiece a1), (2, eS 1 (eS 1 vi) a2), (7, .own 0 0 v7.length), (55, .emp), (56, eS 3 eCoil a0)] [some (.row 1 (List.map (eS 1 vi) v7))] ?_
    obtain ⟨c7, h⟩ := chk_some h
    refine je (.own 1 0 a0.length) [some (.row 1 (List.map (eS 1 vi) v7)), some (.row 3 (List.map eCoil a0))] (cy (I0 57 (.app 3 32 (.t 55) (.t 56)))) (ok_app_emp (e := eCoil) (l := a0) (u := eS 3 eCoil a0) rfl rfl els_sl c7) rfl rfl rfl ?_
    refine rn 2 [(0, eS 3 eCoil a0), (1, eS 3 eWirePiece a1), (2, eS 1 (eS 1 vi) a2), (7, .own 0 0 v7.length), (57, .own 1 0 a0.length), (58, .emp), (59, eS 3 eWirePiece a1)] [some (.row 1 (List.map (eS 1 vi) v7)), some (.row 3 (List.map eCoil a0))] ?_
    obtain ⟨c8, h⟩ := chk_some h
    refine je (.own 2 0 a1.length) [some (.row 1 (List.map (eS 1 vi) v7)), some (.row 3 (List.map eCoil a0)), some (.row 3 (List.map eWirePiece a1))] (cy (I0 60 (.app 3 24 (.t 58) (.t 59)))) (ok_app_emp (e := eWirePiece) (l := a1) (u := eS 3 eWirePiece a1) rfl rfl els_sl c8) rfl rfl rfl ?_
    refine RegJ.sees (Sees.freeze 1 (fr' := [(0, eS 3 eCoil a0), (1, eS 3 eWirePiece a1), (2, eS 1 (eS 1 vi) a2), (7, .own 0 0 v7.length), (57, eS 3 eCoil a0), (58, .emp), (59, eS 3 eWirePiece a1), (60, .own 2 0 a1.length)]) (ob' := [some (.row 1 (List.map (eS 1 vi) v7)), none, some (.row 3 (List.map eWirePiece a1))]) rfl (frz_row eCoil_frzE _) (.cons (.refl _) (.cons (.refl _) (.cons (.refl _) (.cons (.refl _) (.cons (frz_full rfl) (.cons (.refl _) (.cons (.refl _) (.cons (.refl _) .nil)))))))) rfl) ?_
    refine RegJ.sees (Sees.freeze 2 (fr' := [(0, eS 3 eCoil a0), (1, eS 3 eWirePiece a1), (2, eS 1 (eS 1 vi) a2), (7, .own 0 0 v7.length), (57, eS 3 eCoil a0), (58, .emp), (59, eS 3 eWirePiece a1), (60, eS 3 eWirePiece a1)]) (ob' := [some (.row 1 (List.map (eS 1 vi) v7)), none, none]) rfl (frz_row eWirePiece_frzE _) (.cons (.refl _) (.cons (.refl _) (.cons (.refl _) (.cons (.refl _) (.cons (.refl _) (.cons (.refl _) (.cons (.refl _) (.cons (frz_full rfl) .nil)))))))) rfl) ?_
    obtain ⟨y8, hy8, h⟩ := bind_some h
    refine RegJ.op (Op1.call (y' := .tup [eS 1 (eS 1 vi) y8.2, vi y8.1]) (obx := []) (oby := []) (ob2 := [some (.row 1 (List.map (eS 1 vi) v7)), none, none]) _ _ (cy (I0 61 (.call 29 [(.t 57), (.t 60)]))) rfl (restore_CutFirst_ok n a0 a1 y8 hy8) [] (by kernel_rfl) (.cons rfl (.cons rfl (.cons rfl .nil))) (by kernel_rfl) (by kernel_rfl) ObsRen.nil (by kernel_rfl) ObsRen.nil (by kernel_rfl)) ?_
    refine jq 5 [(0, eS 3 eCoil a0), (1, eS 3 eWirePiece a1), (2, eS 1 (eS 1 vi) a2), (7, .own 0 0 v7.length), (9, eS 1 (eS 1 vi) y8.2), (10, vi y8.1)] [some (.row 1 (List.map (eS 1 vi) v7)), none, none] ?_
    refine sj ?_
    refine rn 2 [(0, eS 3 eCoil a0), (1, eS 3 eWirePiece a1), (2, eS 1 (eS 1 vi) a2), (7, .own 0 0 v7.length), (9, eS 1 (eS 1 vi) y8.2), (10, vi y8.1), (65, .emp), (66, eS 3 eCoil a0)] [some (.row 1 (List.map (eS 1 vi) v7)), none, none] ?_
    refine je (.own 3 0 a0.length) [some (.row 1 (List.map (eS 1 vi) v7)), none, none, some (.row 3 (List.map eCoil a0))] (cy (I0 67 (.app 3 32 (.t 65) (.t 66)))) (ok_app_emp (e := eCoil) (l := a0) (u := eS 3 eCoil a0) rfl rfl els_sl c7) rfl rfl rfl ?_
    refine rn 2 [(0, eS 3 eCoil a0), (1, eS 3 eWirePiece a1), (2, eS 1 (eS 1 vi) a2), (7, .own 0 0 v7.length), (9, eS 1 (eS 1 vi) y8.2), (10, vi y8.1), (67, .own 3 0 a0.length), (68, .emp), (69, eS 3 eWirePiece a1)] [some (.row 1 (List.map (eS 1 vi) v7)), none, none, some (.row 3 (List.map eCoil a0))] ?_
    refine je (.own 4 0 a1.length) [some (.row 1 (List.map (eS 1 vi) v7)), none, none, some (.row 3 (List.map eCoil a0)), some (.row 3 (List.map eWirePiece a1))] (cy (I0 70 (.app 3 24 (.t 68) (.t 69)))) (ok_app_emp (e := eWirePiece) (l := a1) (u := eS 3 eWirePiece a1) rfl rfl els_sl c8) rfl rfl rfl ?_
    refine rn 1 [(0, eS 3 eCoil a0), (1, eS 3 eWirePiece a1), (2, eS 1 (eS 1 vi) a2), (9, eS 1 (eS 1 vi) y8.2), (10, vi y8.1), (67, .own 3 0 a0.length), (70, .own 4 0 a1.length), (71, .own 0 0 v7.length)] [some (.row 1 (List.map (eS 1 vi) v7)), none, none, some (.row 3 (List.map eCoil a0)), some (.row 3 (List.map eWirePiece a1))] ?_
    refine RegJ.sees (Sees.freeze 3 (fr' := [(0, eS 3 eCoil a0), (1, eS 3 eWirePiece a1), (2, eS 1 (eS 1 vi) a2), (9, eS 1 (eS 1 vi) y8.2), (10, vi y8.1), (67, eS 3 eCoil a0), (70, .own 4 0 a1.length), (71, .own 0 0 v7.length)]) (ob' := [some (.row 1 (List.map (eS 1 vi) v7)), none, none, none, some (.row 3 (List.map eWirePiece a1))]) rfl (frz_row eCoil_frzE _) (.cons (.refl _) (.cons (.refl _) (.cons (.refl _) (.cons (.refl _) (.cons (.refl _) (.cons (frz_full rfl) (.cons (.refl _) (.cons (.refl _) .nil)))))))) rfl) ?_
    refine RegJ.sees (Sees.freeze 4 (fr' := [(0, eS 3 eCoil a0), (1, eS 3 eWirePiece a1), (2, eS 1 (eS 1 vi) a2), (9, eS 1 (eS 1 vi) y8.2), (10, vi y8.1), (67, eS 3 eCoil a0), (70, eS 3 eWirePiece a1), (71, .own 0 0 v7.length)]) (ob' := [some (.row 1 (List.map (eS 1 vi) v7)), none, none, none, none]) rfl (frz_row eWirePiece_frzE _) (.cons (.refl _) (.cons (.refl _) (.cons (.refl _) (.cons (.refl _) (.cons (.refl _) (.cons (.refl _) (.cons (frz_full rfl) (.cons (.refl _) .nil)))))))) rfl) ?_
    refine RegJ.sees (Sees.freeze 0 (fr' := [(0, eS 3 eCoil a0), (1, eS 3 eWirePiece a1), (2, eS 1 (eS 1 vi) a2), (9, eS 1 (eS 1 vi) y8.2), (10, vi y8.1), (67, eS 3 eCoil a0), (70, eS 3 eWirePiece a1), (71, eS 1 (eS 1 vi) v7)]) (ob' := [none, none, none, none, none]) rfl (frz_row (eS_frzE 1 vi) _) (.cons (.refl _) (.cons (.refl _) (.cons (.refl _) (.cons (.refl _) (.cons (.refl _) (.cons (.refl _) (.cons (.refl _) (.cons (frz_full rfl) .nil)))))))) rfl) ?_
    obtain ⟨y9, hy9, h⟩ := bind_some h
    refine RegJ.op (Op1.call (y' := .tup [eS 1 vi y9.2, vi y9.1]) (obx := []) (oby := []) (ob2 := [none, none, none, none, none]) _ _ (cy (I0 72 (.call 30 [(.t 67), (.t 70), (.t 71)]))) rfl (restore_CheckCuts_ok n a0 a1 v7 y9 hy9) [] (by kernel_rfl) (.cons rfl (.cons rfl (.cons rfl (.cons rfl .nil)))) (by kernel_rfl) (by kernel_rfl) ObsRen.nil (by kernel_rfl) ObsRen.nil (by kernel_rfl)) ?_
    refine jq 5 [(0, eS 3 eCoil a0), (1, eS 3 eWirePiece a1), (2, eS 1 (eS 1 vi) a2), (9, eS 1 (eS 1 vi) y8.2), (10, vi y8.1), (11, eS 1 vi y9.2), (12, vi y9.1)] [none, none, none, none, none] ?_
    refine TriE.seq ?_
    refine sj ?_
    refine rn 2 [(0, eS 3 eCoil a0), (1, eS 3 eWirePiece a1), (2, eS 1 (eS 1 vi) a2), (9, eS 1 (eS 1 vi) y8.2), (10, vi y8.1), (11, eS 1 vi y9.2), (12, vi y9.1), (75, eS 3 eCoil a0), (76, eS 3 eWirePiece a1)] [none, none, none, none, none] ?_
    obtain ⟨y10, hy10, h⟩ := bind_some h
    refine RegJ.op (Op1.call (y' := vi y10) (obx := []) (oby := []) (ob2 := [none, none, none, none, none]) _ _ (cy (I0 77 (.call 31 [(.t 75), (.t 76)]))) rfl (agrafferef08_CheckWire_ok n a0 a1 y10 hy10) [] (by kernel_rfl) (.cons rfl (.cons rfl (.cons rfl .nil))) (by kernel_rfl) (by kernel_rfl) ObsRen.nil (by kernel_rfl) ObsRen.nil (by kernel_rfl)) ?_
    refine jq 1 [(0, eS 3 eCoil a0), (1, eS 3 eWirePiece a1), (2, eS 1 (eS 1 vi) a2), (9, eS 1 (eS 1 vi) y8.2), (10, vi y8.1), (11, eS 1 vi y9.2), (12, vi y9.1), (13, vi y10)] [none, none, none, none, none] ?_
    refine sr [(0, eS 3 eCoil a0), (1, eS 3 eWirePiece a1), (2, eS 1 (eS 1 vi) a2), (9, eS 1 (eS 1 vi) y8.2), (10, vi y8.1), (11, eS 1 vi y9.2), (12, vi y9.1), (13, vi y10), (79, vb (y10 != (0 : Int)))] [none, none, none, none, none] ?_
    refine TriE.cond (b := (y10 != (0 : Int))) rfl (fun c9 => ?_) (fun c9 => ?_)
    · have h := cond_t h c9
      refine sj ?_
      refine rn 4 [(9, eS 1 (eS 1 vi) y8.2), (11, eS 1 vi y9.2), (12, vi y9.1), (13, vi y10), (83, vb (y8.1 == y10))] [none, none, none, none, none] ?_
      refine RegJ.op (Op1.valk (v := vi y9.1) _ _ (cy (IG 84 (.mov (.t 12)) 83 true)) rfl (by kernel_rfl) (fun hg => (.cons rfl .nil))) ?_
      refine RegJ.op (Op1.valk (v := vi y10) _ _ (cy (IG 85 (.mov (.t 13)) 83 true)) rfl (by kernel_rfl) (fun hg => (.cons rfl .nil))) ?_
      refine RegJ.op (Op1.valk (v := vb (y9.1 == y10)) _ _ (cy (IG 86 (.bin .eql false (.t 84) (.t 85)) 83 true)) rfl (by kernel_rfl) (fun hg => (.cons hg (.cons hg .nil)))) ?_
      refine RegJ.op (Op1.and (cy (I0 87 (.pick (.t 83) (.t 86) (.c (.p (.bool false)))))) rfl rfl (by first | exact hokA1 | exact hokA0 | simp)) ?_
      refine rn 1 [(9, eS 1 (eS 1 vi) y8.2), (11, eS 1 vi y9.2), (88, vb ((y8.1 == y10) && (y9.1 == y10)))] [none, none, none, none, none] ?_
      refine RegJ.op (Op1.valk (v := eS 1 (eS 1 vi) y8.2) _ _ (cy (IG 89 (.mov (.t 9)) 88 true)) rfl (by kernel_rfl) (fun hg => (.cons rfl .nil))) ?_
      refine RegJ.op (Op1.valg (v := vi ((y8.2.length : Nat) : Int)) _ _ (cy (IG 90 (.len 0 (.t 89)) 88 true)) rfl (fun hg => (ok_len_m rfl)) (fun hg => (.cons hg .nil))) ?_
      refine RegJ.op (Op1.valk (v := eS 1 vi y9.2) _ _ (cy (IG 91 (.mov (.t 11)) 88 true)) rfl (by kernel_rfl) (fun hg => (.cons rfl .nil))) ?_
      refine RegJ.op (Op1.valg (v := vi ((y9.2.length : Nat) : Int)) _ _ (cy (IG 92 (.len 0 (.t 91)) 88 true)) rfl (fun hg => (ok_len_m rfl)) (fun hg => (.cons hg .nil))) ?_
      obtain ⟨c10, h⟩ := chk_some h
      refine RegJ.op (Op1.valg (v := vi ((y8.2.length + y9.2.length : Nat) : Int)) _ _ (cy (IG 93 (.bin .add false (.t 90) (.t 92)) 88 true)) rfl (fun hg => (r_addn (i := y8.2.length) (j := y9.2.length) rfl rfl (gor c10 hg))) (fun hg => (.cons hg (.cons hg .nil)))) ?_
      refine RegJ.op (Op1.valg (v := vb (decide ((y8.2.length + y9.2.length) = 0))) _ _ (cy (IG 94 (.bin .eql false (.t 93) (.c (.p (.int .i64 0)))) 88 true)) rfl (fun hg => (n_eql (i := y8.2.length + y9.2.length) (j := 0) rfl rfl)) (fun hg => (.cons hg (.cons rfl .nil)))) ?_
      refine RegJ.op (Op1.and (cy (I0 95 (.pick (.t 88) (.t 94) (.c (.p (.bool false)))))) rfl rfl (by first | exact hokA1 | exact hokA0 | simp)) ?_
      refine jq 1 [(6, vb (((y8.1 == y10) && (y9.1 == y10)) && (decide ((y8.2.length + y9.2.length) = 0))))] [none, none, none, none, none] ?_
      refine TriE.ret ?_
      have h := Option.some.inj h
      subst h
      exact DoneS.ret (S' := ⟨[(6, vb (((y8.1 == y10) && (y9.1 == y10)) && (decide ((y8.2.length + y9.2.length) = 0))))], []⟩) (sc [] (by decide) (by kernel_rfl) ObRen.nil rfl rfl) rfl rfl
    have h := cond_f h c9
    refine TriE.skip ?_
    refine sj ?_
    refine rn 3 [(0, eS 3 eCoil a0), (1, eS 3 eWirePiece a1), (9, eS 1 (eS 1 vi) y8.2), (10, vi y8.1), (11, eS 1 vi y9.2), (12, vi y9.1), (97, eS 3 eCoil a0), (98, eS 3 eWirePiece a1), (99, eS 1 (eS 1 vi) a2)] [none, none, none, none, none] ?_
    obtain ⟨y11, hy11, h⟩ := bind_some h
    refine RegJ.op (Op1.call (y' := .tup [eS 1 vi y11.2, vi y11.1]) (obx := []) (oby := []) (ob2 := [none, none, none, none, none]) _ _ (cy (I0 100 (.call 32 [(.t 97), (.t 98), (.t 99)]))) rfl (agrafferef08_CheckCuts_ok n a0 a1 a2 y11 hy11) [] (by kernel_rfl) (.cons rfl (.cons rfl (.cons rfl (.cons rfl .nil)))) (by kernel_rfl) (by kernel_rfl) ObsRen.nil (by kernel_rfl) ObsRen.nil (by kernel_rfl)) ?_
    refine jq 5 [(0, eS 3 eCoil a0), (1, eS 3 eWirePiece a1), (9, eS 1 (eS 1 vi) y8.2), (10, vi y8.1), (11, eS 1 vi y9.2), (12, vi y9.1), (14, eS 1 vi y11.2), (15, vi y11.1)] [none, none, none, none, none] ?_
    refine TriE.seq ?_
    refine sj ?_
    refine rn 4 [(0, eS 3 eCoil a0), (1, eS 3 eWirePiece a1), (9, eS 1 (eS 1 vi) y8.2), (10, vi y8.1), (11, eS 1 vi y9.2), (14, eS 1 vi y11.2), (106, vb (y9.1 != y11.1))] [none, none, none, none, none] ?_
    refine RegJ.op (Op1.valk (v := eS 1 vi y9.2) _ _ (cy (IG 107 (.mov (.t 11)) 106 false)) rfl (by kernel_rfl) (fun hg => (.cons rfl .nil))) ?_
    refine RegJ.op (Op1.valk (v := eS 1 vi y11.2) _ _ (cy (IG 108 (.mov (.t 14)) 106 false)) rfl (by kernel_rfl) (fun hg => (.cons rfl .nil))) ?_
    obtain ⟨y12, hy12, h⟩ := bind_some h
    refine RegJ.op (Op1.callg (g := !(y9.1 != y11.1)) (y' := vb y12) (obx := []) _ _ (cy (IG 109 (.call 33 [(.t 107), (.t 108)]) 106 false)) rfl (fun hg => agraffebase_Ints_ok n y9.2 y11.2 y12 (gcall_some hy12 hg)) [] (fun hg => by kernel_rfl) (fun hg => (.cons rfl (.cons hg (.cons hg .nil)))) (by kernel_rfl) (by kernel_rfl) ObsRen.nil (by kernel_rfl) (by kernel_rfl)) ?_
    refine RegJ.op (Op1.valk (v := vb (!y12)) _ _ (cy (IG 110 (.un .not (.t 109)) 106 false)) rfl (by kernel_rfl) (fun hg => (.cons hg .nil))) ?_
    refine RegJ.op (Op1.or (cy (I0 111 (.pick (.t 106) (.c (.p (.bool true))) (.t 110)))) rfl rfl (by first | exact hokO1 | exact hokO0 | simp)) ?_
    refine jp [(0, eS 3 eCoil a0), (1, eS 3 eWirePiece a1), (9, eS 1 (eS 1 vi) y8.2), (10, vi y8.1), (111, vb ((y9.1 != y11.1) || (!y12)))] ?_
    refine TriE.cond (b := (y9.1 != y11.1) || (!y12)) rfl (fun c11 => ?_) (fun c11 => ?_)
    · have h := cond_t h c11
      refine sr [(6, vb false)] [none, none, none, none, none] ?_
      refine TriE.ret ?_
      have h := Option.some.inj h
      subst h
      exact DoneS.ret (S' := ⟨[(6, vb false)], []⟩) (sc [] (by decide) (by kernel_rfl) ObRen.nil rfl rfl) rfl rfl
    have h := cond_f h c11
    refine TriE.skip ?_
    refine sj ?_
    refine rn 2 [(0, eS 3 eCoil a0), (1, eS 3 eWirePiece a1), (9, eS 1 (eS 1 vi) y8.2), (10, vi y8.1), (113, eS 3 eCoil a0), (114, eS 3 eWirePiece a1)] [none, none, none, none, none] ?_
    obtain ⟨y13, hy13, h⟩ := bind_some h
    refine RegJ.op (Op1.call (y' := .tup [eS 1 (eS 1 vi) y13.1, vb y13.2]) (obx := []) (oby := []) (ob2 := [none, none, none, none, none]) _ _ (cy (I0 115 (.call 34 [(.t 113), (.t 114)]))) rfl (agrafferef08_CutFirst_ok n a0 a1 y13 hy13) [] (by kernel_rfl) (.cons rfl (.cons rfl (.cons rfl .nil))) (by kernel_rfl) (by kernel_rfl) ObsRen.nil (by kernel_rfl) ObsRen.nil (by kernel_rfl)) ?_
    refine jq 5 [(0, eS 3 eCoil a0), (1, eS 3 eWirePiece a1), (9, eS 1 (eS 1 vi) y8.2), (10, vi y8.1), (16, eS 1 (eS 1 vi) y13.1), (17, vb y13.2)] [none, none, none, none, none] ?_
    refine TriE.seq ?_
    refine sr [(0, eS 3 eCoil a0), (1, eS 3 eWirePiece a1), (9, eS 1 (eS 1 vi) y8.2), (10, vi y8.1), (16, eS 1 (eS 1 vi) y13.1), (119, vb (!y13.2))] [none, none, none, none, none] ?_
    refine TriE.cond (b := !y13.2) rfl (fun c12 => ?_) (fun c12 => ?_)
    · have h := cond_t h c12
      refine sj ?_
      refine rn 3 [(9, eS 1 (eS 1 vi) y8.2), (122, vb (y8.1 == (20 : Int)))] [none, none, none, none, none] ?_
      refine RegJ.op (Op1.valk (v := eS 1 (eS 1 vi) y8.2) _ _ (cy (IG 123 (.mov (.t 9)) 122 true)) rfl (by kernel_rfl) (fun hg => (.cons rfl .nil))) ?_
      refine RegJ.op (Op1.valg (v := vi ((y8.2.length : Nat) : Int)) _ _ (cy (IG 124 (.len 0 (.t 123)) 122 true)) rfl (fun hg => (ok_len_m rfl)) (fun hg => (.cons hg .nil))) ?_
      refine RegJ.op (Op1.valg (v := vb (decide (y8.2.length = 0))) _ _ (cy (IG 125 (.bin .eql false (.t 124) (.c (.p (.int .i64 0)))) 122 true)) rfl (fun hg => (n_eql (i := y8.2.length) (j := 0) rfl rfl)) (fun hg => (.cons hg (.cons rfl .nil)))) ?_
      refine RegJ.op (Op1.and (cy (I0 126 (.pick (.t 122) (.t 125) (.c (.p (.bool false)))))) rfl rfl (by first | exact hokA1 | exact hokA0 | simp)) ?_
      refine jq 1 [(6, vb ((y8.1 == (20 : Int)) && (decide (y8.2.length = 0))))] [none, none, none, none, none] ?_
      refine TriE.ret ?_
      have h := Option.some.inj h
      subst h
      exact DoneS.ret (S' := ⟨[(6, vb ((y8.1 == (20 : Int)) && (decide (y8.2.length = 0))))], []⟩) (sc [] (by decide) (by kernel_rfl) ObRen.nil rfl rfl) rfl rfl
    have h := cond_f h c12
    refine TriE.skip ?_
    refine TriE.seq ?_
    refine sj ?_
    refine rn 3 [(0, eS 3 eCoil a0), (1, eS 3 eWirePiece a1), (9, eS 1 (eS 1 vi) y8.2), (16, eS 1 (eS 1 vi) y13.1), (129, vb (y8.1 != (0 : Int)))] [none, none, none, none, none] ?_
    refine RegJ.op (Op1.valk (v := eS 1 (eS 1 vi) y8.2) _ _ (cy (IG 130 (.mov (.t 9)) 129 false)) rfl (by kernel_rfl) (fun hg => (.cons rfl .nil))) ?_
    refine RegJ.op (Op1.valk (v := eS 1 (eS 1 vi) y13.1) _ _ (cy (IG 131 (.mov (.t 16)) 129 false)) rfl (by kernel_rfl) (fun hg => (.cons rfl .nil))) ?_
    obtain ⟨y14, hy14, h⟩ := bind_some h
    refine RegJ.op (Op1.callg (g := !(y8.1 != (0 : Int))) (y' := vb y14) (obx := []) _ _ (cy (IG 132 (.call 35 [(.t 130), (.t 131)]) 129 false)) rfl (fun hg => agraffebase_Lists_ok n y8.2 y13.1 y14 (gcall_some hy14 hg)) [] (fun hg => by kernel_rfl) (fun hg => (.cons rfl (.cons hg (.cons hg .nil)))) (by kernel_rfl) (by kernel_rfl) ObsRen.nil (by kernel_rfl) (by kernel_rfl)) ?_
    refine RegJ.op (Op1.valk (v := vb (!y14)) _ _ (cy (IG 133 (.un .not (.t 132)) 129 false)) rfl (by kernel_rfl) (fun hg => (.cons hg .nil))) ?_
    refine RegJ.op (Op1.or (cy (I0 134 (.pick (.t 129) (.c (.p (.bool true))) (.t 133)))) rfl rfl (by first | exact hokO1 | exact hokO0 | simp)) ?_
    refine jp [(0, eS 3 eCoil a0), (1, eS 3 eWirePiece a1), (9, eS 1 (eS 1 vi) y8.2), (134, vb ((y8.1 != (0 : Int)) || (!y14)))] ?_
    refine TriE.cond (b := (y8.1 != (0 : Int)) || (!y14)) rfl (fun c13 => ?_) (fun c13 => ?_)
    · have h := cond_t h c13
      refine sr [(6, vb false)] [none, none, none, none, none] ?_
      refine TriE.ret ?_
      have h := Option.some.inj h
      subst h
      exact DoneS.ret (S' := ⟨[(6, vb false)], []⟩) (sc [] (by decide) (by kernel_rfl) ObRen.nil rfl rfl) rfl rfl
    have h := cond_f h c13
    refine TriE.skip ?_
    refine sj ?_
    refine rn 2 [(0, eS 3 eCoil a0), (1, eS 3 eWirePiece a1), (9, eS 1 (eS 1 vi) y8.2), (136, .emp), (137, eS 3 eCoil a0)] [none, none, none, none, none] ?_
    refine je (.own 5 0 a0.length) [none, none, none, none, none, some (.row 3 (List.map eCoil a0))] (cy (I0 138 (.app 3 32 (.t 136) (.t 137)))) (ok_app_emp (e := eCoil) (l := a0) (u := eS 3 eCoil a0) rfl rfl els_sl c7) rfl rfl rfl ?_
    refine rn 2 [(0, eS 3 eCoil a0), (1, eS 3 eWirePiece a1), (9, eS 1 (eS 1 vi) y8.2), (138, .own 5 0 a0.length), (139, .emp), (140, eS 3 eWirePiece a1)] [none, none, none, none, none, some (.row 3 (List.map eCoil a0))] ?_
    refine je (.own 6 0 a1.length) [none, none, none, none, none, some (.row 3 (List.map eCoil a0)), some (.row 3 (List.map eWirePiece a1))] (cy (I0 141 (.app 3 24 (.t 139) (.t 140)))) (ok_app_emp (e := eWirePiece) (l := a1) (u := eS 3 eWirePiece a1) rfl rfl els_sl c8) rfl rfl rfl ?_
    refine rn 1 [(0, eS 3 eCoil a0), (1, eS 3 eWirePiece a1), (138, .own 5 0 a0.length), (141, .own 6 0 a1.length), (142, eS 1 (eS 1 vi) y8.2)] [none, none, none, none, none, some (.row 3 (List.map eCoil a0)), some (.row 3 (List.map eWirePiece a1))] ?_
    refine RegJ.sees (Sees.freeze 5 (fr' := [(0, eS 3 eCoil a0), (1, eS 3 eWirePiece a1), (138, eS 3 eCoil a0), (141, .own 6 0 a1.length), (142, eS 1 (eS 1 vi) y8.2)]) (ob' := [none, none, none, none, none, none, some (.row 3 (List.map eWirePiece a1))]) rfl (frz_row eCoil_frzE _) (.cons (.refl _) (.cons (.refl _) (.cons (frz_full rfl) (.cons (.refl _) (.cons (.refl _) .nil))))) rfl) ?_
    refine RegJ.sees (Sees.freeze 6 (fr' := [(0, eS 3 eCoil a0), (1, eS 3 eWirePiece a1), (138, eS 3 eCoil a0), (141, eS 3 eWirePiece a1), (142, eS 1 (eS 1 vi) y8.2)]) (ob' := [none, none, none, none, none, none, none]) rfl (frz_row eWirePiece_frzE _) (.cons (.refl _) (.cons (.refl _) (.cons (.refl _) (.cons (frz_full rfl) (.cons (.refl _) .nil))))) rfl) ?_
    obtain ⟨y15, hy15, h⟩ := bind_some h
    refine RegJ.op (Op1.call (y' := .tup [eS 1 vi y15.2, vi y15.1]) (obx := []) (oby := []) (ob2 := [none, none, none, none, none, none, none]) _ _ (cy (I0 143 (.call 30 [(.t 138), (.t 141), (.t 142)]))) rfl (restore_CheckCuts_ok n a0 a1 y8.2 y15 hy15) [] (by kernel_rfl) (.cons rfl (.cons rfl (.cons rfl (.cons rfl .nil)))) (by kernel_rfl) (by kernel_rfl) ObsRen.nil (by kernel_rfl) ObsRen.nil (by kernel_rfl)) ?_
    refine jq 5 [(0, eS 3 eCoil a0), (1, eS 3 eWirePiece a1), (18, eS 1 vi y15.2), (19, vi y15.1)] [none, none, none, none, none, none, none] ?_
    refine TriE.seq ?_
    refine sj ?_
    refine rn 3 [(0, eS 3 eCoil a0), (1, eS 3 eWirePiece a1), (18, eS 1 vi y15.2), (148, vb (y15.1 != (0 : Int)))] [none, none, none, none, none, none, none] ?_
    refine RegJ.op (Op1.valk (v := eS 1 vi y15.2) _ _ (cy (IG 149 (.mov (.t 18)) 148 false)) rfl (by kernel_rfl) (fun hg => (.cons rfl .nil))) ?_
    refine RegJ.op (Op1.valg (v := vi ((y15.2.length : Nat) : Int)) _ _ (cy (IG 150 (.len 0 (.t 149)) 148 false)) rfl (fun hg => (ok_len_m rfl)) (fun hg => (.cons hg .nil))) ?_
    refine RegJ.op (Op1.valk (v := eS 3 eCoil a0) _ _ (cy (IG 151 (.mov (.t 0)) 148 false)) rfl (by kernel_rfl) (fun hg => (.cons rfl .nil))) ?_
    refine RegJ.op (Op1.valg (v := vi (a0.length : Int)) _ _ (cy (IG 152 (.len 0 (.t 151)) 148 false)) rfl (fun hg => (ok_len_m rfl)) (fun hg => (.cons hg .nil))) ?_
    refine RegJ.op (Op1.valg (v := vb (!decide (y15.2.length = a0.length))) _ _ (cy (IG 153 (.bin .neq false (.t 150) (.t 152)) 148 false)) rfl (fun hg => (n_neq (i := y15.2.length) (j := a0.length) rfl rfl)) (fun hg => (.cons hg (.cons hg .nil)))) ?_
    refine RegJ.op (Op1.or (cy (I0 154 (.pick (.t 148) (.c (.p (.bool true))) (.t 153)))) rfl rfl (by first | exact hokO1 | exact hokO0 | simp)) ?_
    refine jp [(0, eS 3 eCoil a0), (1, eS 3 eWirePiece a1), (18, eS 1 vi y15.2), (154, vb ((y15.1 != (0 : Int)) || (!decide (y15.2.length = a0.length))))] ?_
    refine TriE.cond (b := (y15.1 != (0 : Int)) || (!decide (y15.2.length = a0.length))) rfl (fun c14 => ?_) (fun c14 => ?_)
    · have h := cond_t h c14
      refine sr [(6, vb false)] [none, none, none, none, none, none, none] ?_
      refine TriE.ret ?_
      have h := Option.some.inj h
      subst h
      exact DoneS.ret (S' := ⟨[(6, vb false)], []⟩) (sc [] (by decide) (by kernel_rfl) ObRen.nil rfl rfl) rfl rfl
    have h := cond_f h c14
    refine TriE.skip ?_
    refine sr [(0, eS 3 eCoil a0), (1, eS 3 eWirePiece a1), (18, eS 1 vi y15.2), (20, vi 0)] [none, none, none, none, none, none, none] ?_
    refine TriE.seqK h (fun (v18 : Int) => St.mk [(1, eS 3 eWirePiece a1), (20, vi v18)] []) ?_ ?_
    · rintro v18 h
      refine TriE.seqK h (fun (v21 : Int) => St.mk [(20, vi v21)] []) ?_ ?_
      · rintro v21 h
        refine sr [(6, vb (v21 == (0 : Int)))] [] ?_
        refine TriE.ret ?_
        have h := Option.some.inj h
        subst h
        exact DoneS.ret (S' := ⟨[(6, vb (v21 == (0 : Int)))], []⟩) Sees.refl rfl rfl
      intro k3 h
      refine sr [(1, eS 3 eWirePiece a1), (20, vi v18), (22, vi 0)] [] ?_
      refine TriE.block ?_
      refine TriE.sees (S' := ⟨[(1, eS 3 eWirePiece a1), (20, vi v18), (22, vi 0)], []⟩) sy ?_
      refine TriE.loopN h (fun (t : Int × Nat) => match t with | (v19, v20) => St.mk [(1, eS 3 eWirePiece a1), (20, vi v19), (22, vi v20)] []) rfl ?_
      clear h
      rintro back ⟨v19, v20⟩ h
      dsimp only [agraffelaw08_RestoreWire_L3] at h
      refine TriE.seq ?_
      refine sj ?_
      refine rn 2 [(1, eS 3 eWirePiece a1), (20, vi v19), (22, vi v20), (173, vi v20), (174, eS 3 eWirePiece a1)] [] ?_
      refine jv (vi (a1.length : Int)) (cy (I0 175 (.len 0 (.t 174)))) (ok_len_m rfl) rfl ?_
      refine jv (vb (decide (v20 < a1.length))) (cy (I0 176 (.bin .lss false (.t 173) (.t 175)))) (n_lss (i := v20) (j := a1.length) rfl rfl) rfl ?_
      refine jp [(1, eS 3 eWirePiece a1), (20, vi v19), (22, vi v20), (176, vb (decide (v20 < a1.length)))] ?_
      refine TriE.cond (b := decide (v20 < a1.length)) rfl (fun c20 => ?_) (fun c20 => ?_)
      · have h := cond_t h c20
        refine TriE.skip ?_
        refine TriE.seq ?_
        refine TriE.block ?_
        refine TriE.sees (Sees.less (fr' := [(1, eS 3 eWirePiece a1), (20, vi v19), (22, vi v20)]) (.cons rfl (.cons rfl (.cons rfl .nil)))) ?_
        refine TriE.draw (by kernel_rfl) ?_
        refine RegD.run 3 [(181, vi v20), (180, eS 3 eWirePiece a1), (179, vi v19), (1, eS 3 eWirePiece a1), (20, vi v19), (22, vi v20)] [none, none, none] (by kernel_rfl) ?_
        refine dv (.fptr 3 (List.map eWirePiece a1) v20 0) (cy (I0 182 (.iaddr 3 (.t 180) (.t 181)))) (ok_iaddr_m (j := v20) rfl rfl rfl c20) rfl ?_
        refine RegD.run 1 [(183, .fptr 3 (List.map eWirePiece a1) v20 1), (182, .fptr 3 (List.map eWirePiece a1) v20 0), (181, vi v20), (180, eS 3 eWirePiece a1), (179, vi v19), (1, eS 3 eWirePiece a1), (20, vi v19), (22, vi v20)] [none, none, none, none, none] (by kernel_rfl) ?_
        refine dv (vi ((ix a1 v20).Length)) (cy (I0 184 (.load false 1 (.t 183)))) (ok_load_fm (v := vi ((ix a1 v20).Length)) rfl c20 rfl) rfl ?_
        refine RegD.run 2 [(186, vi v20), (185, eS 3 eWirePiece a1), (184, vi ((ix a1 v20).Length)), (183, .fptr 3 (List.map eWirePiece a1) v20 1), (182, .fptr 3 (List.map eWirePiece a1) v20 0), (181, vi v20), (180, eS 3 eWirePiece a1), (179, vi v19), (1, eS 3 eWirePiece a1), (20, vi v19), (22, vi v20)] [none, none, none, none, none, none, none, none] (by kernel_rfl) ?_
        refine dv (.fptr 3 (List.map eWirePiece a1) v20 0) (cy (I0 187 (.iaddr 3 (.t 185) (.t 186)))) (ok_iaddr_m (j := v20) rfl rfl rfl c20) rfl ?_
        refine RegD.run 1 [(188, .fptr 3 (List.map eWirePiece a1) v20 2), (187, .fptr 3 (List.map eWirePiece a1) v20 0), (186, vi v20), (185, eS 3 eWirePiece a1), (184, vi ((ix a1 v20).Length)), (183, .fptr 3 (List.map eWirePiece a1) v20 1), (182, .fptr 3 (List.map eWirePiece a1) v20 0), (181, vi v20), (180, eS 3 eWirePiece a1), (179, vi v19), (1, eS 3 eWirePiece a1), (20, vi v19), (22, vi v20)] [none, none, none, none, none, none, none, none, none, none] (by kernel_rfl) ?_
        refine dv (vi ((ix a1 v20).Count)) (cy (I0 189 (.load false 1 (.t 188)))) (ok_load_fm (v := vi ((ix a1 v20).Count)) rfl c20 rfl) rfl ?_
        obtain ⟨c21, h⟩ := chk_some h
        refine dv (vi (((ix a1 v20).Length) * ((ix a1 v20).Count))) (cy (I0 190 (.bin .mul false (.t 184) (.t 189)))) (r_mul rfl rfl c21) rfl ?_
        obtain ⟨c22, h⟩ := chk_some h
        refine dv (vi (v19 - (((ix a1 v20).Length) * ((ix a1 v20).Count)))) (cy (I0 191 (.bin .sub false (.t 179) (.t 190)))) (r_sub rfl rfl c22) rfl ?_
        refine RegD.run 1 [(20, vi (v19 - (((ix a1 v20).Length) * ((ix a1 v20).Count)))), (191, vi (v19 - (((ix a1 v20).Length) * ((ix a1 v20).Count)))), (190, vi (((ix a1 v20).Length) * ((ix a1 v20).Count))), (189, vi ((ix a1 v20).Count)), (188, .fptr 3 (List.map eWirePiece a1) v20 2), (187, .fptr 3 (List.map eWirePiece a1) v20 0), (186, vi v20), (185, eS 3 eWirePiece a1), (184, vi ((ix a1 v20).Length)), (183, .fptr 3 (List.map eWirePiece a1) v20 1), (182, .fptr 3 (List.map eWirePiece a1) v20 0), (181, vi v20), (180, eS 3 eWirePiece a1), (179, vi v19), (1, eS 3 eWirePiece a1), (20, vi v19), (22, vi v20)] [none, none, none, none, none, none, none, none, none, none, none, none, none, none] (by kernel_rfl) ?_
        refine RegD.done rfl (by kernel_rfl) (S' := ⟨[(1, eS 3 eWirePiece a1), (22, vi v20), (20, vi (v19 - (((ix a1 v20).Length) * ((ix a1 v20).Count))))], []⟩) (sc [] (by decide) (by kernel_rfl) ObRen.nil rfl rfl) ?_
        refine TriE.regJ ?_
        refine rn 1 [(1, eS 3 eWirePiece a1), (20, vi (v19 - (((ix a1 v20).Length) * ((ix a1 v20).Count)))), (177, vi v20)] [] ?_
        obtain ⟨c23, h⟩ := chk_some h
        refine jv (vi ((v20 + 1 : Nat) : Int)) (cy (I0 178 (.bin .add false (.t 177) (.c (.p (.int .i64 1)))))) (r_addn (i := v20) (j := 1) rfl rfl c23) rfl ?_
        refine jq 1 [(1, eS 3 eWirePiece a1), (20, vi (v19 - (((ix a1 v20).Length) * ((ix a1 v20).Count)))), (22, vi ((v20 + 1 : Nat) : Int))] [] ?_
        exact Vs.intro sy ⟨(v19 - (((ix a1 v20).Length) * ((ix a1 v20).Count)), v20 + 1), rfl, h⟩
      have h := cond_f h c20
      refine TriE.exit ?_
      exact Vs.intro sy ⟨v19, rfl, h⟩
    intro k2 h
    refine sr [(0, eS 3 eCoil a0), (1, eS 3 eWirePiece a1), (18, eS 1 vi y15.2), (20, vi 0), (21, vi 0)] [none, none, none, none, none, none, none] ?_
    refine TriE.block ?_
    refine TriE.sees (S' := ⟨[(0, eS 3 eCoil a0), (1, eS 3 eWirePiece a1), (18, eS 1 vi y15.2), (20, vi 0), (21, vi 0)], []⟩) (sc [] (by decide) (by kernel_rfl) ObRen.nil rfl rfl) ?_
    refine TriE.loopN h (fun (t : Int × Nat) => match t with | (v16, v17) => St.mk [(0, eS 3 eCoil a0), (1, eS 3 eWirePiece a1), (18, eS 1 vi y15.2), (20, vi v16), (21, vi v17)] []) rfl ?_
    clear h
    rintro back ⟨v16, v17⟩ h
    dsimp only [agraffelaw08_RestoreWire_L2] at h
    refine TriE.seq ?_
    refine sj ?_
    refine rn 2 [(0, eS 3 eCoil a0), (1, eS 3 eWirePiece a1), (18, eS 1 vi y15.2), (20, vi v16), (21, vi v17), (155, vi v17), (156, eS 3 eCoil a0)] [] ?_
    refine jv (vi (a0.length : Int)) (cy (I0 157 (.len 0 (.t 156)))) (ok_len_m rfl) rfl ?_
    refine jv (vb (decide (v17 < a0.length))) (cy (I0 158 (.bin .lss false (.t 155) (.t 157)))) (n_lss (i := v17) (j := a0.length) rfl rfl) rfl ?_
    refine jp [(0, eS 3 eCoil a0), (1, eS 3 eWirePiece a1), (18, eS 1 vi y15.2), (20, vi v16), (21, vi v17), (158, vb (decide (v17 < a0.length)))] ?_
    refine TriE.cond (b := decide (v17 < a0.length)) rfl (fun c15 => ?_) (fun c15 => ?_)
    · have h := cond_t h c15
      refine TriE.skip ?_
      refine TriE.seq ?_
      refine TriE.block ?_
      refine TriE.sees (Sees.less (fr' := [(0, eS 3 eCoil a0), (1, eS 3 eWirePiece a1), (18, eS 1 vi y15.2), (20, vi v16), (21, vi v17)]) (.cons rfl (.cons rfl (.cons rfl (.cons rfl (.cons rfl .nil)))))) ?_
      refine TriE.draw (by kernel_rfl) ?_
      refine RegD.run 3 [(163, vi v17), (162, eS 3 eCoil a0), (161, vi v16), (0, eS 3 eCoil a0), (1, eS 3 eWirePiece a1), (18, eS 1 vi y15.2), (20, vi v16), (21, vi v17)] [none, none, none] (by kernel_rfl) ?_
      refine dv (.fptr 3 (List.map eCoil a0) v17 0) (cy (I0 164 (.iaddr 3 (.t 162) (.t 163)))) (ok_iaddr_m (j := v17) rfl rfl rfl c15) rfl ?_
      refine RegD.run 1 [(165, .fptr 3 (List.map eCoil a0) v17 2), (164, .fptr 3 (List.map eCoil a0) v17 0), (163, vi v17), (162, eS 3 eCoil a0), (161, vi v16), (0, eS 3 eCoil a0), (1, eS 3 eWirePiece a1), (18, eS 1 vi y15.2), (20, vi v16), (21, vi v17)] [none, none, none, none, none] (by kernel_rfl) ?_
      refine dv (vi ((ix a0 v17).Length)) (cy (I0 166 (.load false 1 (.t 165)))) (ok_load_fm (v := vi ((ix a0 v17).Length)) rfl c15 rfl) rfl ?_
      obtain ⟨c16, h⟩ := chk_some h
      refine dv (vi (v16 + ((ix a0 v17).Length))) (cy (I0 167 (.bin .add false (.t 161) (.t 166)))) (r_add rfl rfl c16) rfl ?_
      refine RegD.run 2 [(169, vi v17), (168, eS 1 vi y15.2), (167, vi (v16 + ((ix a0 v17).Length))), (166, vi ((ix a0 v17).Length)), (165, .fptr 3 (List.map eCoil a0) v17 2), (164, .fptr 3 (List.map eCoil a0) v17 0), (163, vi v17), (162, eS 3 eCoil a0), (161, vi v16), (0, eS 3 eCoil a0), (1, eS 3 eWirePiece a1), (18, eS 1 vi y15.2), (20, vi v16), (21, vi v17)] [none, none, none, none, none, none, none, none, none] (by kernel_rfl) ?_
      obtain ⟨c17, h⟩ := chk_some h
      refine dv (.fptr 1 (List.map vi y15.2) v17 0) (cy (I0 170 (.iaddr 1 (.t 168) (.t 169)))) (ok_iaddr_m (j := v17) rfl rfl rfl c17) rfl ?_
      refine dv (vi (ix y15.2 v17)) (cy (I0 171 (.load false 1 (.t 170)))) (ok_load_fm (v := vi (ix y15.2 v17)) rfl c17 rfl) rfl ?_
      obtain ⟨c18, h⟩ := chk_some h
      refine dv (vi ((v16 + ((ix a0 v17).Length)) - (ix y15.2 v17))) (cy (I0 172 (.bin .sub false (.t 167) (.t 171)))) (r_sub rfl rfl c18) rfl ?_
      refine RegD.run 1 [(20, vi ((v16 + ((ix a0 v17).Length)) - (ix y15.2 v17))), (172, vi ((v16 + ((ix a0 v17).Length)) - (ix y15.2 v17))), (171, vi (ix y15.2 v17)), (170, .fptr 1 (List.map vi y15.2) v17 0), (169, vi v17), (168, eS 1 vi y15.2), (167, vi (v16 + ((ix a0 v17).Length))), (166, vi ((ix a0 v17).Length)), (165, .fptr 3 (List.map eCoil a0) v17 2), (164, .fptr 3 (List.map eCoil a0) v17 0), (163, vi v17), (162, eS 3 eCoil a0), (161, vi v16), (0, eS 3 eCoil a0), (1, eS 3 eWirePiece a1), (18, eS 1 vi y15.2), (20, vi v16), (21, vi v17)] [none, none, none, none, none, none, none, none, none, none, none, none, none] (by kernel_rfl) ?_
      refine RegD.done rfl (by kernel_rfl) (S' := ⟨[(0, eS 3 eCoil a0), (1, eS 3 eWirePiece a1), (18, eS 1 vi y15.2), (21, vi v17), (20, vi ((v16 + ((ix a0 v17).Length)) - (ix y15.2 v17)))], []⟩) (sc [] (by decide) (by kernel_rfl) ObRen.nil rfl rfl) ?_
      refine TriE.regJ ?_
      refine rn 1 [(0, eS 3 eCoil a0), (1, eS 3 eWirePiece a1), (18, eS 1 vi y15.2), (20, vi ((v16 + ((ix a0 v17).Length)) - (ix y15.2 v17))), (159, vi v17)] [] ?_
      obtain ⟨c19, h⟩ := chk_some h
      refine jv (vi ((v17 + 1 : Nat) : Int)) (cy (I0 160 (.bin .add false (.t 159) (.c (.p (.int .i64 1)))))) (r_addn (i := v17) (j := 1) rfl rfl c19) rfl ?_
      refine jq 1 [(0, eS 3 eCoil a0), (1, eS 3 eWirePiece a1), (18, eS 1 vi y15.2), (20, vi ((v16 + ((ix a0 v17).Length)) - (ix y15.2 v17))), (21, vi ((v17 + 1 : Nat) : Int))] [] ?_
      exact Vs.intro sy ⟨((v16 + ((ix a0 v17).Length)) - (ix y15.2 v17), v17 + 1), rfl, h⟩
    have h := cond_f h c15
    refine TriE.exit ?_
    exact Vs.intro sy ⟨v16, rfl, h⟩
  intro k1 h
  refine sr [(0, eS 3 eCoil a0), (1, eS 3 eWirePiece a1), (2, eS 1 (eS 1 vi) a2), (7, .emp), (8, vi 0)] [] ?_
  refine TriE.block ?_
  refine TriE.sees (S' := ⟨[(0, eS 3 eCoil a0), (1, eS 3 eWirePiece a1), (2, eS 1 (eS 1 vi) a2), (7, .own 0 0 ([] : List (List Int)).length), (8, vi 0)], [some (.row 1 (List.map (eS 1 vi) ([] : List (List Int))))]⟩) (Sees.trans (Sees.co (fr' := [(0, eS 3 eCoil a0), (1, eS 3 eWirePiece a1), (2, eS 1 (eS 1 vi) a2), (7, .own 0 0 0), (8, vi 0)]) (ob' := []) (.cons .same (.cons .same (.cons .same (.cons .own (.cons .same .nil))))) ObCo.nil 1) sy) ?_
  refine TriE.loopN h (fun (t : (List (List Int)) × Nat) => match t with | (v4, v5) => St.mk [(0, eS 3 eCoil a0), (1, eS 3 eWirePiece a1), (2, eS 1 (eS 1 vi) a2), (7, .own 0 0 v4.length), (8, vi v5)] [some (.row 1 (List.map (eS 1 vi) v4))]) rfl ?_
  clear h
  rintro back ⟨v4, v5⟩ h
  dsimp only [agraffelaw08_RestoreWire_L1] at h
  refine TriE.seq ?_
  refine sj ?_
  refine rn 2 [(0, eS 3 eCoil a0), (1, eS 3 eWirePiece a1), (2, eS 1 (eS 1 vi) a2), (7, .own 0 0 v4.length), (8, vi v5), (34, vi v5), (35, eS 1 (eS 1 vi) a2)] [some (.row 1 (List.map (eS 1 vi) v4))] ?_
  refine jv (vi (a2.length : Int)) (cy (I0 36 (.len 0 (.t 35)))) (ok_len_m rfl) rfl ?_
  refine jv (vb (decide (v5 < a2.length))) (cy (I0 37 (.bin .lss false (.t 34) (.t 36)))) (n_lss (i := v5) (j := a2.length) rfl rfl) rfl ?_
  refine jp [(0, eS 3 eCoil a0), (1, eS 3 eWirePiece a1), (2, eS 1 (eS 1 vi) a2), (7, .own 0 0 v4.length), (8, vi v5), (37, vb (decide (v5 < a2.length)))] ?_
  refine TriE.cond (b := decide (v5 < a2.length)) rfl (fun c3 => ?_) (fun c3 => ?_)
  · have h := cond_t h c3
    refine TriE.skip ?_
    refine TriE.seq ?_
    refine TriE.block ?_
    refine TriE.seq ?_
    refine sj ?_
    refine rn 2 [(0, eS 3 eCoil a0), (1, eS 3 eWirePiece a1), (2, eS 1 (eS 1 vi) a2), (7, .own 0 0 v4.length), (8, vi v5), (40, eS 1 (eS 1 vi) a2), (41, vi v5)] [some (.row 1 (List.map (eS 1 vi) v4))] ?_
    refine jv (.fptr 1 (List.map (eS 1 vi) a2) v5 0) (cy (I0 42 (.iaddr 1 (.t 40) (.t 41)))) (ok_iaddr_m (j := v5) rfl rfl rfl c3) rfl ?_
    refine jv (eS 1 vi (ix a2 v5)) (cy (I0 43 (.load false 1 (.t 42)))) (ok_load_fm (v := eS 1 vi (ix a2 v5)) rfl c3 rfl) rfl ?_
    refine jv (vi (((ix a2 v5).length : Nat) : Int)) (cy (I0 44 (.len 0 (.t 43)))) (ok_len_m rfl) rfl ?_
    refine jv (vb (decide (110 < ((ix a2 v5).length)))) (cy (I0 45 (.bin .gtr false (.t 44) (.c (.p (.int .i64 110)))))) (n_gtr (i := (ix a2 v5).length) (j := 110) rfl rfl) rfl ?_
    refine jp [(0, eS 3 eCoil a0), (1, eS 3 eWirePiece a1), (2, eS 1 (eS 1 vi) a2), (7, .own 0 0 v4.length), (8, vi v5), (45, vb (decide (110 < ((ix a2 v5).length))))] ?_
    refine TriE.cond (b := decide (110 < ((ix a2 v5).length))) rfl (fun c4 => ?_) (fun c4 => ?_)
    · have h := cond_t h c4
      refine sr [(6, vb true)] [some (.row 1 (List.map (eS 1 vi) v4))] ?_
      refine TriE.ret ?_
      have h := Option.some.inj h
      subst h
      exact DoneS.ret (S' := ⟨[(6, vb true)], []⟩) (sc [] (by decide) (by kernel_rfl) ObRen.nil rfl rfl) rfl rfl
    have h := cond_f h c4
    refine TriE.skip ?_
    refine TriE.regJ ?_
    refine rn 3 [(0, eS 3 eCoil a0), (1, eS 3 eWirePiece a1), (2, eS 1 (eS 1 vi) a2), (8, vi v5), (46, .own 0 0 v4.length), (47, eS 1 (eS 1 vi) a2), (48, vi v5)] [some (.row 1 (List.map (eS 1 vi) v4))] ?_
    refine jv (.fptr 1 (List.map (eS 1 vi) a2) v5 0) (cy (I0 49 (.iaddr 1 (.t 47) (.t 48)))) (ok_iaddr_m (j := v5) rfl rfl rfl c3) rfl ?_
    refine jv (eS 1 vi (ix a2 v5)) (cy (I0 50 (.load false 1 (.t 49)))) (ok_load_fm (v := eS 1 vi (ix a2 v5)) rfl c3 rfl) rfl ?_
    obtain ⟨y6, hy6, h⟩ := bind_some h
    refine RegJ.op (Op1.call (y' := .own 1 0 ((ix a2 v5).length)) (obx := []) (oby := [some (.row 1 (List.map vi (ix a2 v5)))]) (ob2 := [some (.row 1 (List.map (eS 1 vi) v4)), some (.row 1 (List.map vi (ix a2 v5)))]) _ _ (cy (I0 51 (.call 28 [(.t 50)]))) rfl (agraffebase_CopyInts_ok n (ix a2 v5) y6 hy6) [] (by kernel_rfl) (.cons rfl (.cons rfl .nil)) (by kernel_rfl) (by kernel_rfl) ObsRen.nil (by kernel_rfl) (.same (row_ren vi_frz _ _ _) .nil) (by kernel_rfl)) ?_
    refine RegJ.sees (Sees.freeze 1 (fr' := [(0, eS 3 eCoil a0), (1, eS 3 eWirePiece a1), (2, eS 1 (eS 1 vi) a2), (8, vi v5), (46, .own 0 0 v4.length), (47, eS 1 (eS 1 vi) a2), (48, vi v5), (49, .fptr 1 (List.map (eS 1 vi) a2) v5 0), (50, eS 1 vi (ix a2 v5)), (51, eS 1 vi (ix a2 v5))]) (ob' := [some (.row 1 (List.map (eS 1 vi) v4)), none]) rfl (frz_row vi_frzE _) (.cons (.refl _) (.cons (.refl _) (.cons (.refl _) (.cons (.refl _) (.cons (.refl _) (.cons (.refl _) (.cons (.refl _) (.cons (.refl _) (.cons (.refl _) (.cons (frz_full rfl) .nil)))))))))) rfl) ?_
    refine rn 1 [(0, eS 3 eCoil a0), (1, eS 3 eWirePiece a1), (2, eS 1 (eS 1 vi) a2), (8, vi v5), (46, .own 0 0 v4.length), (52, .own 2 0 1)] [some (.row 1 (List.map (eS 1 vi) v4)), none, some (.row 1 [eS 1 vi (ix a2 v5)])] ?_
    obtain ⟨c5, h⟩ := chk_some h
    refine je (.own 3 0 ((v4 ++ ([(ix a2 v5)] : List (List Int))).length)) [none, none, some (.row 1 [eS 1 vi (ix a2 v5)]), some (.row 1 (List.map (eS 1 vi) (v4 ++ ([(ix a2 v5)] : List (List Int)))))] (cy (I0 53 (.app 1 24 (.t 46) (.t 52)))) (ok_app_own (l := v4) (l2 := ([(ix a2 v5)] : List (List Int))) (e := (eS 1 vi)) (u := .own 2 0 1) rfl rfl rfl rfl rfl c5) rfl rfl rfl ?_
    refine jq 1 [(0, eS 3 eCoil a0), (1, eS 3 eWirePiece a1), (2, eS 1 (eS 1 vi) a2), (8, vi v5), (7, .own 3 0 ((v4 ++ ([(ix a2 v5)] : List (List Int))).length))] [none, none, some (.row 1 [eS 1 vi (ix a2 v5)]), some (.row 1 (List.map (eS 1 vi) (v4 ++ ([(ix a2 v5)] : List (List Int)))))] ?_
    refine TriE.regJ ?_
    refine rn 1 [(0, eS 3 eCoil a0), (1, eS 3 eWirePiece a1), (2, eS 1 (eS 1 vi) a2), (7, .own 3 0 ((v4 ++ ([(ix a2 v5)] : List (List Int))).length)), (38, vi v5)] [none, none, some (.row 1 [eS 1 vi (ix a2 v5)]), some (.row 1 (List.map (eS 1 vi) (v4 ++ ([(ix a2 v5)] : List (List Int)))))] ?_
    obtain ⟨c6, h⟩ := chk_some h
    refine jv (vi ((v5 + 1 : Nat) : Int)) (cy (I0 39 (.bin .add false (.t 38) (.c (.p (.int .i64 1)))))) (r_addn (i := v5) (j := 1) rfl rfl c6) rfl ?_
    refine jq 1 [(0, eS 3 eCoil a0), (1, eS 3 eWirePiece a1), (2, eS 1 (eS 1 vi) a2), (7, .own 3 0 ((v4 ++ ([(ix a2 v5)] : List (List Int))).length)), (8, vi ((v5 + 1 : Nat) : Int))] [none, none, some (.row 1 [eS 1 vi (ix a2 v5)]), some (.row 1 (List.map (eS 1 vi) (v4 ++ ([(ix a2 v5)] : List (List Int)))))] ?_
    exact Vs.intro (sc [3] (by decide) (by kernel_rfl) (obRen_row (eS_frz 1 vi) rfl .nil) rfl rfl) ⟨((v4 ++ ([(ix a2 v5)] : List (List Int))), v5 + 1), rfl, h⟩
  have h := cond_f h c3
  refine TriE.exit ?_
  exact Vs.intro sy ⟨v4, rfl, h⟩
end Go.Proofs.YtcdcpambkdlhjaaGreat.As
