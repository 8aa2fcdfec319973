/- The code computes what the plain functions say, part 2: no condition. -/
import Derived.Test.YtcdcpambkdlhjaaGreatWalk1
namespace Go.Proofs.YtcdcpambkdlhjaaGreat.As
open Go Go.Proofs
set_option maxRecDepth 4000
theorem agrafferef08_CheckCover_ok (n : Nat) (a0 : List WantedPart) (a1 : List OfferedPart) (a2 : Arr2_ListInt) (r : Int × Int) (h : agrafferef08_CheckCover n a0 a1 a2 = some r) : FnL Tryz.prog 64 [eS 2 eWantedPart a0, eS 2 eOfferedPart a1, .agg [eS 1 vi a2.a0, eS 1 vi a2.a1]] [] (.tup [vi r.2, vi r.1]) [] := by
  dsimp only [agrafferef08_CheckCover] at h
  refine FnL.ofS (ts := [6, 7]) Tryz.call64 Tryz.func64 rfl rfl (Nat.le_of_ble_eq_true rfl) (Nat.le_of_ble_eq_true rfl) (fun j h => absurd h (Nat.not_lt_zero j)) ?_
  refine sr [(0, eS 2 eWantedPart a0), (1, eS 2 eOfferedPart a1), (5, .ptr 0 0 0)] [some (.row 2 [.agg [eS 1 vi a2.a0, eS 1 vi a2.a1]])] ?_
  refine sj ?_
  refine rn 1 [(0, eS 2 eWantedPart a0), (1, eS 2 eOfferedPart a1), (5, .ptr 0 0 0), (15, eS 2 eWantedPart a0)] [some (.row 2 [.agg [eS 1 vi a2.a0, eS 1 vi a2.a1]])] ?_
  refine jv (vi (a0.length : Int)) (cy (I0 16 (.len 0 (.t 15)))) (ok_len_m rfl) rfl ?_
  refine rn 1 [(0, eS 2 eWantedPart a0), (1, eS 2 eOfferedPart a1), (5, .ptr 0 0 0), (16, vi (a0.length : Int)), (17, eS 2 eOfferedPart a1)] [some (.row 2 [.agg [eS 1 vi a2.a0, eS 1 vi a2.a1]])] ?_
  refine jv (vi (a1.length : Int)) (cy (I0 18 (.len 0 (.t 17)))) (ok_len_m rfl) rfl ?_
  refine jq 3 [(0, eS 2 eWantedPart a0), (1, eS 2 eOfferedPart a1), (5, .ptr 0 0 0), (8, .ptr 1 0 0)] [some (.row 2 [.agg [eS 1 vi a2.a0, eS 1 vi a2.a1]]), some (.row 2 [.agg [vi (a0.length : Int), vi (a1.length : Int)]])] ?_
  refine TriE.seq ?_
  refine sr [(0, eS 2 eWantedPart a0), (1, eS 2 eOfferedPart a1), (5, .ptr 0 0 0), (8, .ptr 1 0 0), (9, vi 0)] [some (.row 2 [.agg [eS 1 vi a2.a0, eS 1 vi a2.a1]]), some (.row 2 [.agg [vi (a0.length : Int), vi (a1.length : Int)]])] ?_
  refine TriE.block ?_
  refine TriE.rnd 3 ?_
  refine RndE.seq ?_
  refine TriE.seq ?_
  refine sr [(0, eS 2 eWantedPart a0), (1, eS 2 eOfferedPart a1), (5, .ptr 0 0 0), (8, .ptr 1 0 0), (9, vi 0), (21, vb true)] [some (.row 2 [.agg [eS 1 vi a2.a0, eS 1 vi a2.a1]]), some (.row 2 [.agg [vi (a0.length : Int), vi (a1.length : Int)]])] ?_
  refine TriE.cond (b := true) rfl (fun c1 => ?_) (fun c1 => ?_)
  rotate_left
  · cases c1
  refine TriE.skip ?_
  refine TriE.seqK h (fun (_ : Unit) => St.mk [(0, eS 2 eWantedPart a0), (1, eS 2 eOfferedPart a1), (5, .ptr 0 0 0), (8, .ptr 1 0 0), (9, vi 0)] [some (.row 2 [.agg [eS 1 vi a2.a0, eS 1 vi a2.a1]]), some (.row 2 [.agg [vi (a0.length : Int), vi (a1.length : Int)]])]) ?_ ?_
  · rintro ⟨⟩ h
    refine TriE.regJ ?_
    refine rn 1 [(0, eS 2 eWantedPart a0), (1, eS 2 eOfferedPart a1), (5, .ptr 0 0 0), (8, .ptr 1 0 0), (22, vi 0)] [some (.row 2 [.agg [eS 1 vi a2.a0, eS 1 vi a2.a1]]), some (.row 2 [.agg [vi (a0.length : Int), vi (a1.length : Int)]])] ?_
    refine jv (vi 1) (cy (I0 23 (.bin .add false (.t 22) (.c (.p (.int .i64 1)))))) (r_addn (i := 0) (j := 1) rfl rfl rfl) rfl ?_
    refine jq 1 [(0, eS 2 eWantedPart a0), (1, eS 2 eOfferedPart a1), (5, .ptr 0 0 0), (8, .ptr 1 0 0), (9, vi 1)] [some (.row 2 [.agg [eS 1 vi a2.a0, eS 1 vi a2.a1]]), some (.row 2 [.agg [vi (a0.length : Int), vi (a1.length : Int)]])] ?_
    refine RndE.seq ?_
    refine TriE.seq ?_
    refine sr [(0, eS 2 eWantedPart a0), (1, eS 2 eOfferedPart a1), (5, .ptr 0 0 0), (8, .ptr 1 0 0), (9, vi 1), (21, vb true)] [some (.row 2 [.agg [eS 1 vi a2.a0, eS 1 vi a2.a1]]), some (.row 2 [.agg [vi (a0.length : Int), vi (a1.length : Int)]])] ?_
    refine TriE.cond (b := true) rfl (fun c8 => ?_) (fun c8 => ?_)
    rotate_left
    · cases c8
    refine TriE.skip ?_
    refine TriE.seqK h (fun (_ : Unit) => St.mk [(0, eS 2 eWantedPart a0), (1, eS 2 eOfferedPart a1), (5, .ptr 0 0 0), (8, .ptr 1 0 0), (9, vi 1)] [some (.row 2 [.agg [eS 1 vi a2.a0, eS 1 vi a2.a1]]), some (.row 2 [.agg [vi (a0.length : Int), vi (a1.length : Int)]])]) ?_ ?_
    · rintro ⟨⟩ h
      refine TriE.regJ ?_
      refine rn 1 [(0, eS 2 eWantedPart a0), (1, eS 2 eOfferedPart a1), (5, .ptr 0 0 0), (8, .ptr 1 0 0), (22, vi 1)] [some (.row 2 [.agg [eS 1 vi a2.a0, eS 1 vi a2.a1]]), some (.row 2 [.agg [vi (a0.length : Int), vi (a1.length : Int)]])] ?_
      refine jv (vi 2) (cy (I0 23 (.bin .add false (.t 22) (.c (.p (.int .i64 1)))))) (r_addn (i := 1) (j := 1) rfl rfl rfl) rfl ?_
      refine jq 1 [(0, eS 2 eWantedPart a0), (1, eS 2 eOfferedPart a1), (5, .ptr 0 0 0), (8, .ptr 1 0 0), (9, vi 2)] [some (.row 2 [.agg [eS 1 vi a2.a0, eS 1 vi a2.a1]]), some (.row 2 [.agg [vi (a0.length : Int), vi (a1.length : Int)]])] ?_
      refine RndE.seq ?_
      refine TriE.seq ?_
      refine sr [(0, eS 2 eWantedPart a0), (1, eS 2 eOfferedPart a1), (5, .ptr 0 0 0), (8, .ptr 1 0 0), (9, vi 2), (21, vb false)] [some (.row 2 [.agg [eS 1 vi a2.a0, eS 1 vi a2.a1]]), some (.row 2 [.agg [vi (a0.length : Int), vi (a1.length : Int)]])] ?_
      refine TriE.cond (b := false) rfl (fun c15 => ?_) (fun c15 => ?_)
      · cases c15
      refine TriE.exit ?_
      refine TriE.seq ?_
      refine sr [(0, eS 2 eWantedPart a0), (1, eS 2 eOfferedPart a1), (5, .ptr 0 0 0), (11, vi 0)] [some (.row 2 [.agg [eS 1 vi a2.a0, eS 1 vi a2.a1]]), some (.row 2 [.agg [vi (a0.length : Int), vi (a1.length : Int)]])] ?_
      refine TriE.block ?_
      refine TriE.rnd 3 ?_
      refine RndE.seq ?_
      refine TriE.seq ?_
      refine sr [(0, eS 2 eWantedPart a0), (1, eS 2 eOfferedPart a1), (5, .ptr 0 0 0), (11, vi 0), (45, vb true)] [some (.row 2 [.agg [eS 1 vi a2.a0, eS 1 vi a2.a1]]), some (.row 2 [.agg [vi (a0.length : Int), vi (a1.length : Int)]])] ?_
      refine TriE.cond (b := true) rfl (fun c16 => ?_) (fun c16 => ?_)
      rotate_left
      · cases c16
      refine TriE.skip ?_
      refine TriE.seqK h (fun (_ : Unit) => St.mk [(0, eS 2 eWantedPart a0), (1, eS 2 eOfferedPart a1), (5, .ptr 0 0 0), (11, vi 0)] [some (.row 2 [.agg [eS 1 vi a2.a0, eS 1 vi a2.a1]])]) ?_ ?_
      · rintro ⟨⟩ h
        refine TriE.regJ ?_
        refine rn 1 [(0, eS 2 eWantedPart a0), (1, eS 2 eOfferedPart a1), (5, .ptr 0 0 0), (46, vi 0)] [some (.row 2 [.agg [eS 1 vi a2.a0, eS 1 vi a2.a1]])] ?_
        refine jv (vi 1) (cy (I0 47 (.bin .add false (.t 46) (.c (.p (.int .i64 1)))))) (r_addn (i := 0) (j := 1) rfl rfl rfl) rfl ?_
        refine jq 1 [(0, eS 2 eWantedPart a0), (1, eS 2 eOfferedPart a1), (5, .ptr 0 0 0), (11, vi 1)] [some (.row 2 [.agg [eS 1 vi a2.a0, eS 1 vi a2.a1]])] ?_
        refine RndE.seq ?_
        refine TriE.seq ?_
        refine sr [(0, eS 2 eWantedPart a0), (1, eS 2 eOfferedPart a1), (5, .ptr 0 0 0), (11, vi 1), (45, vb true)] [some (.row 2 [.agg [eS 1 vi a2.a0, eS 1 vi a2.a1]])] ?_
        refine TriE.cond (b := true) rfl (fun c25 => ?_) (fun c25 => ?_)
        rotate_left
        · cases c25
        refine TriE.skip ?_
        refine TriE.seqK h (fun (_ : Unit) => St.mk [(0, eS 2 eWantedPart a0), (1, eS 2 eOfferedPart a1), (5, .ptr 0 0 0), (11, vi 1)] [some (.row 2 [.agg [eS 1 vi a2.a0, eS 1 vi a2.a1]])]) ?_ ?_
        · rintro ⟨⟩ h
          refine TriE.regJ ?_
          refine rn 1 [(0, eS 2 eWantedPart a0), (1, eS 2 eOfferedPart a1), (5, .ptr 0 0 0), (46, vi 1)] [some (.row 2 [.agg [eS 1 vi a2.a0, eS 1 vi a2.a1]])] ?_
          refine jv (vi 2) (cy (I0 47 (.bin .add false (.t 46) (.c (.p (.int .i64 1)))))) (r_addn (i := 1) (j := 1) rfl rfl rfl) rfl ?_
          refine jq 1 [(0, eS 2 eWantedPart a0), (1, eS 2 eOfferedPart a1), (5, .ptr 0 0 0), (11, vi 2)] [some (.row 2 [.agg [eS 1 vi a2.a0, eS 1 vi a2.a1]])] ?_
          refine RndE.seq ?_
          refine TriE.seq ?_
          refine sr [(0, eS 2 eWantedPart a0), (1, eS 2 eOfferedPart a1), (5, .ptr 0 0 0), (11, vi 2), (45, vb false)] [some (.row 2 [.agg [eS 1 vi a2.a0, eS 1 vi a2.a1]])] ?_
          refine TriE.cond (b := false) rfl (fun c34 => ?_) (fun c34 => ?_)
          · cases c34
          refine TriE.exit ?_
          refine TriE.seqK h (fun (_ : Unit) => St.mk [(5, .ptr 0 0 0)] [some (.row 2 [.agg [eS 1 vi a2.a0, eS 1 vi a2.a1]])]) ?_ ?_
          · rintro ⟨⟩ h
            refine sj ?_
            refine rn 2 [(5, .ptr 0 0 0), (106, eS 1 vi a2.a0)] [some (.row 2 [.agg [eS 1 vi a2.a0, eS 1 vi a2.a1]])] ?_
            refine jv (vi ((a2.a0.length : Nat) : Int)) (cy (I0 107 (.len 0 (.t 106)))) (ok_len_m rfl) rfl ?_
            refine rn 2 [(107, vi ((a2.a0.length : Nat) : Int)), (109, eS 1 vi a2.a1)] [some (.row 2 [.agg [eS 1 vi a2.a0, eS 1 vi a2.a1]])] ?_
            refine jv (vi ((a2.a1.length : Nat) : Int)) (cy (I0 110 (.len 0 (.t 109)))) (ok_len_m rfl) rfl ?_
            obtain ⟨c44, h⟩ := chk_some h
            refine jv (vi ((a2.a0.length + a2.a1.length : Nat) : Int)) (cy (I0 111 (.bin .add false (.t 107) (.t 110)))) (r_addn (i := a2.a0.length) (j := a2.a1.length) rfl rfl c44) rfl ?_
            refine jq 2 [(6, vi ((a2.a0.length + a2.a1.length : Nat) : Int)), (7, vi 0)] [some (.row 2 [.agg [eS 1 vi a2.a0, eS 1 vi a2.a1]])] ?_
            refine TriE.ret ?_
            have h := Option.some.inj h
            subst h
            exact DoneS.ret (S' := ⟨[(6, vi ((a2.a0.length + a2.a1.length : Nat) : Int)), (7, vi 0)], []⟩) (sc [] (by decide) (by kernel_rfl) ObRen.nil rfl rfl) rfl rfl
          intro k6 h
          refine sr [(0, eS 2 eWantedPart a0), (1, eS 2 eOfferedPart a1), (5, .ptr 0 0 0), (13, vi 0)] [some (.row 2 [.agg [eS 1 vi a2.a0, eS 1 vi a2.a1]])] ?_
          refine TriE.block ?_
          refine TriE.loopN h (fun (v16 : Int) => St.mk [(0, eS 2 eWantedPart a0), (1, eS 2 eOfferedPart a1), (5, .ptr 0 0 0), (13, vi v16)] [some (.row 2 [.agg [eS 1 vi a2.a0, eS 1 vi a2.a1]])]) rfl ?_
          clear h
          rintro back v16 h
          dsimp only [agrafferef08_CheckCover_L6] at h
          refine TriE.seq ?_
          refine sj ?_
          refine rn 2 [(0, eS 2 eWantedPart a0), (1, eS 2 eOfferedPart a1), (5, .ptr 0 0 0), (13, vi v16), (70, vi v16), (71, eS 2 eWantedPart a0)] [some (.row 2 [.agg [eS 1 vi a2.a0, eS 1 vi a2.a1]])] ?_
          refine jv (vi (a0.length : Int)) (cy (I0 72 (.len 0 (.t 71)))) (ok_len_m rfl) rfl ?_
          refine jq 1 [(0, eS 2 eWantedPart a0), (1, eS 2 eOfferedPart a1), (5, .ptr 0 0 0), (13, vi v16), (73, vb (decide (v16 < (a0.length : Int))))] [some (.row 2 [.agg [eS 1 vi a2.a0, eS 1 vi a2.a1]])] ?_
          refine TriE.cond (b := decide (v16 < (a0.length : Int))) rfl (fun c35 => ?_) (fun c35 => ?_)
          · have h := cond_t h c35
            refine TriE.skip ?_
            refine TriE.seqK h (fun (_ : Unit) => St.mk [(0, eS 2 eWantedPart a0), (1, eS 2 eOfferedPart a1), (5, .ptr 0 0 0), (13, vi v16)] [some (.row 2 [.agg [eS 1 vi a2.a0, eS 1 vi a2.a1]])]) ?_ ?_
            · rintro ⟨⟩ h
              refine TriE.regJ ?_
              refine rn 1 [(0, eS 2 eWantedPart a0), (1, eS 2 eOfferedPart a1), (5, .ptr 0 0 0), (74, vi v16)] [some (.row 2 [.agg [eS 1 vi a2.a0, eS 1 vi a2.a1]])] ?_
              obtain ⟨c43, h⟩ := chk_some h
              refine jv (vi (v16 + 1)) (cy (I0 75 (.bin .add false (.t 74) (.c (.p (.int .i64 1)))))) (r_add rfl rfl c43) rfl ?_
              refine jq 1 [(0, eS 2 eWantedPart a0), (1, eS 2 eOfferedPart a1), (5, .ptr 0 0 0), (13, vi (v16 + 1))] [some (.row 2 [.agg [eS 1 vi a2.a0, eS 1 vi a2.a1]])] ?_
              exact Vs.intro Sees.refl ⟨(v16 + 1), rfl, h⟩
            intro k5 h
            refine TriE.block ?_
            refine sr [(0, eS 2 eWantedPart a0), (1, eS 2 eOfferedPart a1), (5, .ptr 0 0 0), (13, vi v16), (14, vi 0)] [some (.row 2 [.agg [eS 1 vi a2.a0, eS 1 vi a2.a1]])] ?_
            refine TriE.block ?_
            refine TriE.loopN h (fun (v20 : Int) => St.mk [(0, eS 2 eWantedPart a0), (1, eS 2 eOfferedPart a1), (5, .ptr 0 0 0), (13, vi v16), (14, vi v20)] [some (.row 2 [.agg [eS 1 vi a2.a0, eS 1 vi a2.a1]])]) rfl ?_
            clear h
            rintro back v20 h
            dsimp only [agrafferef08_CheckCover_L5] at h
            refine TriE.seq ?_
            refine sj ?_
            refine rn 2 [(0, eS 2 eWantedPart a0), (1, eS 2 eOfferedPart a1), (5, .ptr 0 0 0), (13, vi v16), (14, vi v20), (76, vi v20), (77, eS 2 eOfferedPart a1)] [some (.row 2 [.agg [eS 1 vi a2.a0, eS 1 vi a2.a1]])] ?_
            refine jv (vi (a1.length : Int)) (cy (I0 78 (.len 0 (.t 77)))) (ok_len_m rfl) rfl ?_
            refine jq 1 [(0, eS 2 eWantedPart a0), (1, eS 2 eOfferedPart a1), (5, .ptr 0 0 0), (13, vi v16), (14, vi v20), (79, vb (decide (v20 < (a1.length : Int))))] [some (.row 2 [.agg [eS 1 vi a2.a0, eS 1 vi a2.a1]])] ?_
            refine TriE.cond (b := decide (v20 < (a1.length : Int))) rfl (fun c36 => ?_) (fun c36 => ?_)
            · have h := cond_t h c36
              refine TriE.skip ?_
              refine TriE.seq ?_
              refine TriE.block ?_
              refine TriE.seq ?_
              refine TriE.sees (Sees.less (fr' := [(0, eS 2 eWantedPart a0), (1, eS 2 eOfferedPart a1), (5, .ptr 0 0 0), (13, vi v16), (14, vi v20)]) (.cons rfl (.cons rfl (.cons rfl (.cons rfl (.cons rfl .nil)))))) ?_
              refine TriE.draw (by kernel_rfl) ?_
              refine RegD.run 2 [(83, vi v16), (82, eS 2 eWantedPart a0), (0, eS 2 eWantedPart a0), (1, eS 2 eOfferedPart a1), (5, .ptr 0 0 0), (13, vi v16), (14, vi v20)] [some (.row 2 [.agg [eS 1 vi a2.a0, eS 1 vi a2.a1]]), none, none] (by kernel_rfl) ?_
              obtain ⟨c37, h⟩ := chk_some h
              refine dv (.fptr 2 (List.map eWantedPart a0) v16.toNat 0) (cy (I0 84 (.iaddr 2 (.t 82) (.t 83)))) (ok_iaddr_m (j := v16.toNat) rfl rfl (inB_to c37) (inB_lt c37)) rfl ?_
              obtain ⟨c38, h⟩ := chk_some h
              refine dv (.agg [vt ((ix a0 v16.toNat).Name), eS 2 eRange ((ix a0 v16.toNat).Ranges)]) (cy (I0 85 (.load true 2 (.t 84)))) (ok_load_fm (v := .agg [vt ((ix a0 v16.toNat).Name), eS 2 eRange ((ix a0 v16.toNat).Ranges)]) rfl c38 rfl) rfl ?_
              refine RegD.run 2 [(87, vi v20), (86, eS 2 eOfferedPart a1), (85, .agg [vt ((ix a0 v16.toNat).Name), eS 2 eRange ((ix a0 v16.toNat).Ranges)]), (84, .fptr 2 (List.map eWantedPart a0) v16.toNat 0), (83, vi v16), (82, eS 2 eWantedPart a0), (0, eS 2 eWantedPart a0), (1, eS 2 eOfferedPart a1), (5, .ptr 0 0 0), (13, vi v16), (14, vi v20)] [some (.row 2 [.agg [eS 1 vi a2.a0, eS 1 vi a2.a1]]), none, none, none, none, none, none] (by kernel_rfl) ?_
              obtain ⟨c39, h⟩ := chk_some h
              refine dv (.fptr 2 (List.map eOfferedPart a1) v20.toNat 0) (cy (I0 88 (.iaddr 2 (.t 86) (.t 87)))) (ok_iaddr_m (j := v20.toNat) rfl rfl (inB_to c39) (inB_lt c39)) rfl ?_
              obtain ⟨c40, h⟩ := chk_some h
              refine dv (.agg [vt ((ix a1 v20.toNat).Name), eS 1 vi ((ix a1 v20.toNat).Sizes)]) (cy (I0 89 (.load true 2 (.t 88)))) (ok_load_fm (v := .agg [vt ((ix a1 v20.toNat).Name), eS 1 vi ((ix a1 v20.toNat).Sizes)]) rfl c40 rfl) rfl ?_
              obtain ⟨y21, hy21, h⟩ := bind_some h
              refine RegD.op (OpD.call (y' := vb y21) (obx := []) (oby := []) (ob2 := [some (.row 2 [.agg [eS 1 vi a2.a0, eS 1 vi a2.a1]]), none, none, none, none, none, none, none, none, none]) (tch := []) 0 _ _ (cy (I0 90 (.call 68 [(.t 85), (.t 89)]))) (agrafferef08_Fits_ok n (ix a0 v16.toNat) (ix a1 v20.toNat) y21 hy21) [] (by kernel_rfl) (.cons rfl (.cons rfl (.cons rfl .nil))) (by kernel_rfl) (by kernel_rfl) ObsRen.nil (by kernel_rfl) ObsRen.nil (by kernel_rfl) rfl (.inr ⟨rfl, rfl⟩)) ?_
              refine RegD.run 1 [(91, vb y21), (90, vb y21), (89, .agg [vt ((ix a1 v20.toNat).Name), eS 1 vi ((ix a1 v20.toNat).Sizes)]), (88, .fptr 2 (List.map eOfferedPart a1) v20.toNat 0), (87, vi v20), (86, eS 2 eOfferedPart a1), (85, .agg [vt ((ix a0 v16.toNat).Name), eS 2 eRange ((ix a0 v16.toNat).Ranges)]), (84, .fptr 2 (List.map eWantedPart a0) v16.toNat 0), (83, vi v16), (82, eS 2 eWantedPart a0), (0, eS 2 eWantedPart a0), (1, eS 2 eOfferedPart a1), (5, .ptr 0 0 0), (13, vi v16), (14, vi v20)] [some (.row 2 [.agg [eS 1 vi a2.a0, eS 1 vi a2.a1]]), none, none, none, none, none, none, none, none, none, none] (by kernel_rfl) ?_
              refine RegD.op (OpD.valk (g := y21) (v := .ptr 0 0 0) _ _ (cy (IG 92 (.aaddr 2 1 (.t 5) (.c (.p (.int .i64 0)))) 91 true)) rfl (by kernel_rfl) (fun hg => (.cons rfl (.cons rfl .nil)))) ?_
              refine RegD.op (OpD.valk (g := y21) (v := eS 1 vi a2.a0) _ _ (cy (IG 93 (.load false 1 (.t 92)) 91 true)) rfl (by kernel_rfl) (fun hg => (.cons hg .nil))) ?_
              refine RegD.op (OpD.valk (g := y21) (v := vi v16) _ _ (cy (IG 94 (.mov (.t 13)) 91 true)) rfl (by kernel_rfl) (fun hg => (.cons rfl .nil))) ?_
              obtain ⟨y22, hy22, h⟩ := bind_some h
              refine RegD.op (OpD.callg (g := y21) (y' := vb y22) (obx := []) _ _ (cy (IG 95 (.call 130 [(.t 93), (.t 94)]) 91 true)) rfl (fun hg => agraffebase_Has_ok n a2.a0 v16 y22 (gcall_some hy22 hg)) [] (fun hg => by kernel_rfl) (fun hg => (.cons rfl (.cons hg (.cons hg .nil)))) (by kernel_rfl) (by kernel_rfl) ObsRen.nil (by kernel_rfl) (by kernel_rfl) rfl) ?_
              refine RegD.op (OpD.valk (g := y21) (v := vb (!y22)) _ _ (cy (IG 96 (.un .not (.t 95)) 91 true)) rfl (by kernel_rfl) (fun hg => (.cons hg .nil))) ?_
              refine RegD.op (OpD.and (cy (I0 97 (.pick (.t 91) (.t 96) (.c (.p (.bool false)))))) rfl rfl (by first | exact hokA1 | exact hokA0 | simp)) ?_
              refine RegD.run 1 [(98, vb (y21 && (!y22))), (97, vb (y21 && (!y22))), (96, .cond y21 (vb (!y22))), (95, .cond y21 (vb y22)), (94, .cond y21 (vi v16)), (93, .cond y21 (eS 1 vi a2.a0)), (92, .cond y21 (.ptr 0 0 0)), (91, vb y21), (90, vb y21), (89, .agg [vt ((ix a1 v20.toNat).Name), eS 1 vi ((ix a1 v20.toNat).Sizes)]), (88, .fptr 2 (List.map eOfferedPart a1) v20.toNat 0), (87, vi v20), (86, eS 2 eOfferedPart a1), (85, .agg [vt ((ix a0 v16.toNat).Name), eS 2 eRange ((ix a0 v16.toNat).Ranges)]), (84, .fptr 2 (List.map eWantedPart a0) v16.toNat 0), (83, vi v16), (82, eS 2 eWantedPart a0), (0, eS 2 eWantedPart a0), (1, eS 2 eOfferedPart a1), (5, .ptr 0 0 0), (13, vi v16), (14, vi v20)] [some (.row 2 [.agg [eS 1 vi a2.a0, eS 1 vi a2.a1]]), none, none, none, none, none, none, none, none, none, none, none, none, none, none, none, none, none] (by kernel_rfl) ?_
              refine RegD.op (OpD.valk (g := y21 && (!y22)) (v := .ptr 0 0 1) _ _ (cy (IG 99 (.aaddr 2 1 (.t 5) (.c (.p (.int .i64 1)))) 98 true)) rfl (by kernel_rfl) (fun hg => (.cons rfl (.cons rfl .nil)))) ?_
              refine RegD.op (OpD.valk (g := y21 && (!y22)) (v := eS 1 vi a2.a1) _ _ (cy (IG 100 (.load false 1 (.t 99)) 98 true)) rfl (by kernel_rfl) (fun hg => (.cons hg .nil))) ?_
              refine RegD.op (OpD.valk (g := y21 && (!y22)) (v := vi v20) _ _ (cy (IG 101 (.mov (.t 14)) 98 true)) rfl (by kernel_rfl) (fun hg => (.cons rfl .nil))) ?_
              obtain ⟨y23, hy23, h⟩ := bind_some h
              refine RegD.op (OpD.callg (g := y21 && (!y22)) (y' := vb y23) (obx := []) _ _ (cy (IG 102 (.call 130 [(.t 100), (.t 101)]) 98 true)) rfl (fun hg => agraffebase_Has_ok n a2.a1 v20 y23 (gcall_some hy23 hg)) [] (fun hg => by kernel_rfl) (fun hg => (.cons rfl (.cons hg (.cons hg .nil)))) (by kernel_rfl) (by kernel_rfl) ObsRen.nil (by kernel_rfl) (by kernel_rfl) rfl) ?_
              refine RegD.op (OpD.valk (g := y21 && (!y22)) (v := vb (!y23)) _ _ (cy (IG 103 (.un .not (.t 102)) 98 true)) rfl (by kernel_rfl) (fun hg => (.cons hg .nil))) ?_
              refine RegD.op (OpD.and (cy (I0 104 (.pick (.t 98) (.t 103) (.c (.p (.bool false)))))) rfl rfl (by first | exact hokA1 | exact hokA0 | simp)) ?_
              refine RegD.done rfl (by kernel_rfl) (S' := ⟨[(0, eS 2 eWantedPart a0), (1, eS 2 eOfferedPart a1), (5, .ptr 0 0 0), (13, vi v16), (14, vi v20), (104, vb ((y21 && (!y22)) && (!y23)))], [some (.row 2 [.agg [eS 1 vi a2.a0, eS 1 vi a2.a1]])]⟩) (sc [0] (by decide) (by kernel_rfl) (.cons rfl .nil) rfl rfl) ?_
              refine TriE.cond (b := (y21 && (!y22)) && (!y23)) rfl (fun c41 => ?_) (fun c41 => ?_)
              · have h := cond_t h c41
                refine sr [(6, vi 0), (7, vi 14)] [some (.row 2 [.agg [eS 1 vi a2.a0, eS 1 vi a2.a1]])] ?_
                refine TriE.ret ?_
                have h := Option.some.inj h
                subst h
                exact DoneS.ret (S' := ⟨[(6, vi 0), (7, vi 14)], []⟩) (sc [] (by decide) (by kernel_rfl) ObRen.nil rfl rfl) rfl rfl
              have h := cond_f h c41
              refine TriE.skip ?_
              refine TriE.regJ ?_
              refine rn 1 [(0, eS 2 eWantedPart a0), (1, eS 2 eOfferedPart a1), (5, .ptr 0 0 0), (13, vi v16), (80, vi v20)] [some (.row 2 [.agg [eS 1 vi a2.a0, eS 1 vi a2.a1]])] ?_
              obtain ⟨c42, h⟩ := chk_some h
              refine jv (vi (v20 + 1)) (cy (I0 81 (.bin .add false (.t 80) (.c (.p (.int .i64 1)))))) (r_add rfl rfl c42) rfl ?_
              refine jq 1 [(0, eS 2 eWantedPart a0), (1, eS 2 eOfferedPart a1), (5, .ptr 0 0 0), (13, vi v16), (14, vi (v20 + 1))] [some (.row 2 [.agg [eS 1 vi a2.a0, eS 1 vi a2.a1]])] ?_
              exact Vs.intro Sees.refl ⟨(v20 + 1), rfl, h⟩
            have h := cond_f h c36
            refine TriE.exit ?_
            exact Vs.intro sy ⟨(), rfl, h⟩
          have h := cond_f h c35
          refine TriE.exit ?_
          exact Vs.intro sy ⟨(), rfl, h⟩
        intro k4 h
        refine TriE.block ?_
        refine sr [(0, eS 2 eWantedPart a0), (1, eS 2 eOfferedPart a1), (5, .ptr 0 0 0), (11, vi 1), (12, vi 1)] [some (.row 2 [.agg [eS 1 vi a2.a0, eS 1 vi a2.a1]])] ?_
        refine TriE.block ?_
        refine TriE.loopN h (fun (v8 : Int) => St.mk [(0, eS 2 eWantedPart a0), (1, eS 2 eOfferedPart a1), (5, .ptr 0 0 0), (11, vi 1), (12, vi v8)] [some (.row 2 [.agg [eS 1 vi a2.a0, eS 1 vi a2.a1]])]) rfl ?_
        clear h
        rintro back v8 h
        dsimp only [agrafferef08_CheckCover_L4] at h
        refine TriE.seq ?_
        refine sj ?_
        refine rn 4 [(0, eS 2 eWantedPart a0), (1, eS 2 eOfferedPart a1), (5, .ptr 0 0 0), (11, vi 1), (12, vi v8), (48, vi v8), (51, eS 1 vi a2.a1)] [some (.row 2 [.agg [eS 1 vi a2.a0, eS 1 vi a2.a1]])] ?_
        refine jv (vi ((a2.a1.length : Nat) : Int)) (cy (I0 52 (.len 0 (.t 51)))) (ok_len_m rfl) rfl ?_
        refine jq 1 [(0, eS 2 eWantedPart a0), (1, eS 2 eOfferedPart a1), (5, .ptr 0 0 0), (11, vi 1), (12, vi v8), (53, vb (decide (v8 < ((a2.a1.length : Nat) : Int))))] [some (.row 2 [.agg [eS 1 vi a2.a0, eS 1 vi a2.a1]])] ?_
        refine TriE.cond (b := decide (v8 < ((a2.a1.length : Nat) : Int))) rfl (fun c26 => ?_) (fun c26 => ?_)
        · have h := cond_t h c26
          refine TriE.skip ?_
          refine TriE.seq ?_
          refine TriE.block ?_
          refine TriE.seq ?_
          refine TriE.sees (Sees.less (fr' := [(0, eS 2 eWantedPart a0), (1, eS 2 eOfferedPart a1), (5, .ptr 0 0 0), (11, vi 1), (12, vi v8)]) (.cons rfl (.cons rfl (.cons rfl (.cons rfl (.cons rfl .nil)))))) ?_
          refine TriE.draw (by kernel_rfl) ?_
          refine RegD.run 4 [(59, vi v8), (58, eS 1 vi a2.a1), (57, .ptr 0 0 1), (56, vi 1), (0, eS 2 eWantedPart a0), (1, eS 2 eOfferedPart a1), (5, .ptr 0 0 0), (11, vi 1), (12, vi v8)] [some (.row 2 [.agg [eS 1 vi a2.a0, eS 1 vi a2.a1]]), none, none, none, none] (by kernel_rfl) ?_
          obtain ⟨c27, h⟩ := chk_some h
          refine dv (vi (v8 - 1)) (cy (I0 60 (.bin .sub false (.t 59) (.c (.p (.int .i64 1)))))) (r_sub rfl rfl c27) rfl ?_
          obtain ⟨c28, h⟩ := chk_some h
          refine dv (.fptr 1 (List.map vi a2.a1) ((v8 - 1).toNat) 0) (cy (I0 61 (.iaddr 1 (.t 58) (.t 60)))) (ok_iaddr_m (j := (v8 - 1).toNat) rfl rfl (inB_to c28) (inB_lt c28)) rfl ?_
          obtain ⟨c29, h⟩ := chk_some h
          refine dv (vi (ix a2.a1 ((v8 - 1).toNat))) (cy (I0 62 (.load false 1 (.t 61)))) (ok_load_fm (v := vi (ix a2.a1 ((v8 - 1).toNat))) rfl c29 rfl) rfl ?_
          refine RegD.run 4 [(66, vi v8), (65, eS 1 vi a2.a1), (64, .ptr 0 0 1), (63, vi 1), (62, vi (ix a2.a1 ((v8 - 1).toNat))), (61, .fptr 1 (List.map vi a2.a1) ((v8 - 1).toNat) 0), (60, vi (v8 - 1)), (59, vi v8), (58, eS 1 vi a2.a1), (57, .ptr 0 0 1), (56, vi 1), (0, eS 2 eWantedPart a0), (1, eS 2 eOfferedPart a1), (5, .ptr 0 0 0), (11, vi 1), (12, vi v8)] [some (.row 2 [.agg [eS 1 vi a2.a0, eS 1 vi a2.a1]]), none, none, none, none, none, none, none, none, none, none, none] (by kernel_rfl) ?_
          obtain ⟨c30, h⟩ := chk_some h
          refine dv (.fptr 1 (List.map vi a2.a1) v8.toNat 0) (cy (I0 67 (.iaddr 1 (.t 65) (.t 66)))) (ok_iaddr_m (j := v8.toNat) rfl rfl (inB_to c30) (inB_lt c30)) rfl ?_
          obtain ⟨c31, h⟩ := chk_some h
          refine dv (vi (ix a2.a1 v8.toNat)) (cy (I0 68 (.load false 1 (.t 67)))) (ok_load_fm (v := vi (ix a2.a1 v8.toNat)) rfl c31 rfl) rfl ?_
          refine RegD.run 1 [(69, vb (decide ((ix a2.a1 v8.toNat) ≤ (ix a2.a1 ((v8 - 1).toNat))))), (68, vi (ix a2.a1 v8.toNat)), (67, .fptr 1 (List.map vi a2.a1) v8.toNat 0), (66, vi v8), (65, eS 1 vi a2.a1), (64, .ptr 0 0 1), (63, vi 1), (62, vi (ix a2.a1 ((v8 - 1).toNat))), (61, .fptr 1 (List.map vi a2.a1) ((v8 - 1).toNat) 0), (60, vi (v8 - 1)), (59, vi v8), (58, eS 1 vi a2.a1), (57, .ptr 0 0 1), (56, vi 1), (0, eS 2 eWantedPart a0), (1, eS 2 eOfferedPart a1), (5, .ptr 0 0 0), (11, vi 1), (12, vi v8)] [some (.row 2 [.agg [eS 1 vi a2.a0, eS 1 vi a2.a1]]), none, none, none, none, none, none, none, none, none, none, none, none, none, none] (by kernel_rfl) ?_
          refine RegD.done rfl (by kernel_rfl) (S' := ⟨[(0, eS 2 eWantedPart a0), (1, eS 2 eOfferedPart a1), (5, .ptr 0 0 0), (11, vi 1), (12, vi v8), (69, vb (decide ((ix a2.a1 v8.toNat) ≤ (ix a2.a1 ((v8 - 1).toNat)))))], [some (.row 2 [.agg [eS 1 vi a2.a0, eS 1 vi a2.a1]])]⟩) (sc [0] (by decide) (by kernel_rfl) (.cons rfl .nil) rfl rfl) ?_
          refine TriE.cond (b := decide ((ix a2.a1 v8.toNat) ≤ (ix a2.a1 ((v8 - 1).toNat)))) rfl (fun c32 => ?_) (fun c32 => ?_)
          · have h := cond_t h c32
            refine sr [(6, vi 0), (7, vi 9)] [some (.row 2 [.agg [eS 1 vi a2.a0, eS 1 vi a2.a1]])] ?_
            refine TriE.ret ?_
            have h := Option.some.inj h
            subst h
            exact DoneS.ret (S' := ⟨[(6, vi 0), (7, vi 9)], []⟩) (sc [] (by decide) (by kernel_rfl) ObRen.nil rfl rfl) rfl rfl
          have h := cond_f h c32
          refine TriE.skip ?_
          refine TriE.regJ ?_
          refine rn 1 [(0, eS 2 eWantedPart a0), (1, eS 2 eOfferedPart a1), (5, .ptr 0 0 0), (11, vi 1), (54, vi v8)] [some (.row 2 [.agg [eS 1 vi a2.a0, eS 1 vi a2.a1]])] ?_
          obtain ⟨c33, h⟩ := chk_some h
          refine jv (vi (v8 + 1)) (cy (I0 55 (.bin .add false (.t 54) (.c (.p (.int .i64 1)))))) (r_add rfl rfl c33) rfl ?_
          refine jq 1 [(0, eS 2 eWantedPart a0), (1, eS 2 eOfferedPart a1), (5, .ptr 0 0 0), (11, vi 1), (12, vi (v8 + 1))] [some (.row 2 [.agg [eS 1 vi a2.a0, eS 1 vi a2.a1]])] ?_
          exact Vs.intro Sees.refl ⟨(v8 + 1), rfl, h⟩
        have h := cond_f h c26
        refine TriE.exit ?_
        exact Vs.intro sy ⟨(), rfl, h⟩
      intro k3 h
      refine TriE.block ?_
      refine sr [(0, eS 2 eWantedPart a0), (1, eS 2 eOfferedPart a1), (5, .ptr 0 0 0), (11, vi 0), (12, vi 1)] [some (.row 2 [.agg [eS 1 vi a2.a0, eS 1 vi a2.a1]]), some (.row 2 [.agg [vi (a0.length : Int), vi (a1.length : Int)]])] ?_
      refine TriE.block ?_
      refine TriE.sees (S' := ⟨[(0, eS 2 eWantedPart a0), (1, eS 2 eOfferedPart a1), (5, .ptr 0 0 0), (11, vi 0), (12, vi 1)], [some (.row 2 [.agg [eS 1 vi a2.a0, eS 1 vi a2.a1]])]⟩) (sc [0] (by decide) (by kernel_rfl) (.cons rfl .nil) rfl rfl) ?_
      refine TriE.loopN h (fun (v7 : Int) => St.mk [(0, eS 2 eWantedPart a0), (1, eS 2 eOfferedPart a1), (5, .ptr 0 0 0), (11, vi 0), (12, vi v7)] [some (.row 2 [.agg [eS 1 vi a2.a0, eS 1 vi a2.a1]])]) rfl ?_
      clear h
      rintro back v7 h
      dsimp only [agrafferef08_CheckCover_L3] at h
      refine TriE.seq ?_
      refine sj ?_
      refine rn 4 [(0, eS 2 eWantedPart a0), (1, eS 2 eOfferedPart a1), (5, .ptr 0 0 0), (11, vi 0), (12, vi v7), (48, vi v7), (51, eS 1 vi a2.a0)] [some (.row 2 [.agg [eS 1 vi a2.a0, eS 1 vi a2.a1]])] ?_
      refine jv (vi ((a2.a0.length : Nat) : Int)) (cy (I0 52 (.len 0 (.t 51)))) (ok_len_m rfl) rfl ?_
      refine jq 1 [(0, eS 2 eWantedPart a0), (1, eS 2 eOfferedPart a1), (5, .ptr 0 0 0), (11, vi 0), (12, vi v7), (53, vb (decide (v7 < ((a2.a0.length : Nat) : Int))))] [some (.row 2 [.agg [eS 1 vi a2.a0, eS 1 vi a2.a1]])] ?_
      refine TriE.cond (b := decide (v7 < ((a2.a0.length : Nat) : Int))) rfl (fun c17 => ?_) (fun c17 => ?_)
      · have h := cond_t h c17
        refine TriE.skip ?_
        refine TriE.seq ?_
        refine TriE.block ?_
        refine TriE.seq ?_
        refine TriE.sees (Sees.less (fr' := [(0, eS 2 eWantedPart a0), (1, eS 2 eOfferedPart a1), (5, .ptr 0 0 0), (11, vi 0), (12, vi v7)]) (.cons rfl (.cons rfl (.cons rfl (.cons rfl (.cons rfl .nil)))))) ?_
        refine TriE.draw (by kernel_rfl) ?_
        refine RegD.run 4 [(59, vi v7), (58, eS 1 vi a2.a0), (57, .ptr 0 0 0), (56, vi 0), (0, eS 2 eWantedPart a0), (1, eS 2 eOfferedPart a1), (5, .ptr 0 0 0), (11, vi 0), (12, vi v7)] [some (.row 2 [.agg [eS 1 vi a2.a0, eS 1 vi a2.a1]]), none, none, none, none] (by kernel_rfl) ?_
        obtain ⟨c18, h⟩ := chk_some h
        refine dv (vi (v7 - 1)) (cy (I0 60 (.bin .sub false (.t 59) (.c (.p (.int .i64 1)))))) (r_sub rfl rfl c18) rfl ?_
        obtain ⟨c19, h⟩ := chk_some h
        refine dv (.fptr 1 (List.map vi a2.a0) ((v7 - 1).toNat) 0) (cy (I0 61 (.iaddr 1 (.t 58) (.t 60)))) (ok_iaddr_m (j := (v7 - 1).toNat) rfl rfl (inB_to c19) (inB_lt c19)) rfl ?_
        obtain ⟨c20, h⟩ := chk_some h
        refine dv (vi (ix a2.a0 ((v7 - 1).toNat))) (cy (I0 62 (.load false 1 (.t 61)))) (ok_load_fm (v := vi (ix a2.a0 ((v7 - 1).toNat))) rfl c20 rfl) rfl ?_
        refine RegD.run 4 [(66, vi v7), (65, eS 1 vi a2.a0), (64, .ptr 0 0 0), (63, vi 0), (62, vi (ix a2.a0 ((v7 - 1).toNat))), (61, .fptr 1 (List.map vi a2.a0) ((v7 - 1).toNat) 0), (60, vi (v7 - 1)), (59, vi v7), (58, eS 1 vi a2.a0), (57, .ptr 0 0 0), (56, vi 0), (0, eS 2 eWantedPart a0), (1, eS 2 eOfferedPart a1), (5, .ptr 0 0 0), (11, vi 0), (12, vi v7)] [some (.row 2 [.agg [eS 1 vi a2.a0, eS 1 vi a2.a1]]), none, none, none, none, none, none, none, none, none, none, none] (by kernel_rfl) ?_
        obtain ⟨c21, h⟩ := chk_some h
        refine dv (.fptr 1 (List.map vi a2.a0) v7.toNat 0) (cy (I0 67 (.iaddr 1 (.t 65) (.t 66)))) (ok_iaddr_m (j := v7.toNat) rfl rfl (inB_to c21) (inB_lt c21)) rfl ?_
        obtain ⟨c22, h⟩ := chk_some h
        refine dv (vi (ix a2.a0 v7.toNat)) (cy (I0 68 (.load false 1 (.t 67)))) (ok_load_fm (v := vi (ix a2.a0 v7.toNat)) rfl c22 rfl) rfl ?_
        refine RegD.run 1 [(69, vb (decide ((ix a2.a0 v7.toNat) ≤ (ix a2.a0 ((v7 - 1).toNat))))), (68, vi (ix a2.a0 v7.toNat)), (67, .fptr 1 (List.map vi a2.a0) v7.toNat 0), (66, vi v7), (65, eS 1 vi a2.a0), (64, .ptr 0 0 0), (63, vi 0), (62, vi (ix a2.a0 ((v7 - 1).toNat))), (61, .fptr 1 (List.map vi a2.a0) ((v7 - 1).toNat) 0), (60, vi (v7 - 1)), (59, vi v7), (58, eS 1 vi a2.a0), (57, .ptr 0 0 0), (56, vi 0), (0, eS 2 eWantedPart a0), (1, eS 2 eOfferedPart a1), (5, .ptr 0 0 0), (11, vi 0), (12, vi v7)] [some (.row 2 [.agg [eS 1 vi a2.a0, eS 1 vi a2.a1]]), none, none, none, none, none, none, none, none, none, none, none, none, none, none] (by kernel_rfl) ?_
        refine RegD.done rfl (by kernel_rfl) (S' := ⟨[(0, eS 2 eWantedPart a0), (1, eS 2 eOfferedPart a1), (5, .ptr 0 0 0), (11, vi 0), (12, vi v7), (69, vb (decide ((ix a2.a0 v7.toNat) ≤ (ix a2.a0 ((v7 - 1).toNat)))))], [some (.row 2 [.agg [eS 1 vi a2.a0, eS 1 vi a2.a1]])]⟩) (sc [0] (by decide) (by kernel_rfl) (.cons rfl .nil) rfl rfl) ?_
        refine TriE.cond (b := decide ((ix a2.a0 v7.toNat) ≤ (ix a2.a0 ((v7 - 1).toNat)))) rfl (fun c23 => ?_) (fun c23 => ?_)
        · have h := cond_t h c23
          refine sr [(6, vi 0), (7, vi 9)] [some (.row 2 [.agg [eS 1 vi a2.a0, eS 1 vi a2.a1]])] ?_
          refine TriE.ret ?_
          have h := Option.some.inj h
          subst h
          exact DoneS.ret (S' := ⟨[(6, vi 0), (7, vi 9)], []⟩) (sc [] (by decide) (by kernel_rfl) ObRen.nil rfl rfl) rfl rfl
        have h := cond_f h c23
        refine TriE.skip ?_
        refine TriE.regJ ?_
        refine rn 1 [(0, eS 2 eWantedPart a0), (1, eS 2 eOfferedPart a1), (5, .ptr 0 0 0), (11, vi 0), (54, vi v7)] [some (.row 2 [.agg [eS 1 vi a2.a0, eS 1 vi a2.a1]])] ?_
        obtain ⟨c24, h⟩ := chk_some h
        refine jv (vi (v7 + 1)) (cy (I0 55 (.bin .add false (.t 54) (.c (.p (.int .i64 1)))))) (r_add rfl rfl c24) rfl ?_
        refine jq 1 [(0, eS 2 eWantedPart a0), (1, eS 2 eOfferedPart a1), (5, .ptr 0 0 0), (11, vi 0), (12, vi (v7 + 1))] [some (.row 2 [.agg [eS 1 vi a2.a0, eS 1 vi a2.a1]])] ?_
        exact Vs.intro Sees.refl ⟨(v7 + 1), rfl, h⟩
      have h := cond_f h c17
      refine TriE.exit ?_
      exact Vs.intro sy ⟨(), rfl, h⟩
    intro k2 h
    refine TriE.block ?_
    refine sr [(0, eS 2 eWantedPart a0), (1, eS 2 eOfferedPart a1), (5, .ptr 0 0 0), (8, .ptr 1 0 0), (9, vi 1), (10, vi 0)] [some (.row 2 [.agg [eS 1 vi a2.a0, eS 1 vi a2.a1]]), some (.row 2 [.agg [vi (a0.length : Int), vi (a1.length : Int)]])] ?_
    refine TriE.block ?_
    refine TriE.loopN h (fun (v5 : Int) => St.mk [(0, eS 2 eWantedPart a0), (1, eS 2 eOfferedPart a1), (5, .ptr 0 0 0), (8, .ptr 1 0 0), (9, vi 1), (10, vi v5)] [some (.row 2 [.agg [eS 1 vi a2.a0, eS 1 vi a2.a1]]), some (.row 2 [.agg [vi (a0.length : Int), vi (a1.length : Int)]])]) rfl ?_
    clear h
    rintro back v5 h
    dsimp only [agrafferef08_CheckCover_L2] at h
    refine TriE.seq ?_
    refine sj ?_
    refine rn 4 [(0, eS 2 eWantedPart a0), (1, eS 2 eOfferedPart a1), (5, .ptr 0 0 0), (8, .ptr 1 0 0), (9, vi 1), (10, vi v5), (24, vi v5), (27, eS 1 vi a2.a1)] [some (.row 2 [.agg [eS 1 vi a2.a0, eS 1 vi a2.a1]]), some (.row 2 [.agg [vi (a0.length : Int), vi (a1.length : Int)]])] ?_
    refine jv (vi ((a2.a1.length : Nat) : Int)) (cy (I0 28 (.len 0 (.t 27)))) (ok_len_m rfl) rfl ?_
    refine jq 1 [(0, eS 2 eWantedPart a0), (1, eS 2 eOfferedPart a1), (5, .ptr 0 0 0), (8, .ptr 1 0 0), (9, vi 1), (10, vi v5), (29, vb (decide (v5 < ((a2.a1.length : Nat) : Int))))] [some (.row 2 [.agg [eS 1 vi a2.a0, eS 1 vi a2.a1]]), some (.row 2 [.agg [vi (a0.length : Int), vi (a1.length : Int)]])] ?_
    refine TriE.cond (b := decide (v5 < ((a2.a1.length : Nat) : Int))) rfl (fun c9 => ?_) (fun c9 => ?_)
    · have h := cond_t h c9
      refine TriE.skip ?_
      refine TriE.seq ?_
      refine TriE.block ?_
      refine TriE.seq ?_
      refine TriE.sees (Sees.less (fr' := [(0, eS 2 eWantedPart a0), (1, eS 2 eOfferedPart a1), (5, .ptr 0 0 0), (8, .ptr 1 0 0), (9, vi 1), (10, vi v5)]) (.cons rfl (.cons rfl (.cons rfl (.cons rfl (.cons rfl (.cons rfl .nil))))))) ?_
      refine TriE.draw (by kernel_rfl) ?_
      refine RegD.run 4 [(35, vi v5), (34, eS 1 vi a2.a1), (33, .ptr 0 0 1), (32, vi 1), (0, eS 2 eWantedPart a0), (1, eS 2 eOfferedPart a1), (5, .ptr 0 0 0), (8, .ptr 1 0 0), (9, vi 1), (10, vi v5)] [some (.row 2 [.agg [eS 1 vi a2.a0, eS 1 vi a2.a1]]), some (.row 2 [.agg [vi (a0.length : Int), vi (a1.length : Int)]]), none, none, none, none] (by kernel_rfl) ?_
      obtain ⟨c10, h⟩ := chk_some h
      refine dv (.fptr 1 (List.map vi a2.a1) v5.toNat 0) (cy (I0 36 (.iaddr 1 (.t 34) (.t 35)))) (ok_iaddr_m (j := v5.toNat) rfl rfl (inB_to c10) (inB_lt c10)) rfl ?_
      obtain ⟨c11, h⟩ := chk_some h
      refine dv (vi (ix a2.a1 v5.toNat)) (cy (I0 37 (.load false 1 (.t 36)))) (ok_load_fm (v := vi (ix a2.a1 v5.toNat)) rfl c11 rfl) rfl ?_
      refine RegD.run 3 [(40, vi (a1.length : Int)), (39, .ptr 1 0 1), (38, vi 1), (37, vi (ix a2.a1 v5.toNat)), (36, .fptr 1 (List.map vi a2.a1) v5.toNat 0), (35, vi v5), (34, eS 1 vi a2.a1), (33, .ptr 0 0 1), (32, vi 1), (0, eS 2 eWantedPart a0), (1, eS 2 eOfferedPart a1), (5, .ptr 0 0 0), (8, .ptr 1 0 0), (9, vi 1), (10, vi v5)] [some (.row 2 [.agg [eS 1 vi a2.a0, eS 1 vi a2.a1]]), some (.row 2 [.agg [vi (a0.length : Int), vi (a1.length : Int)]]), none, none, none, none, none, none, none, none, none] (by kernel_rfl) ?_
      obtain ⟨c12, h⟩ := chk_some h
      refine dv (vi ((a1.length : Int) - 1)) (cy (I0 41 (.bin .sub false (.t 40) (.c (.p (.int .i64 1)))))) (r_sub rfl rfl c12) rfl ?_
      obtain ⟨y6, hy6, h⟩ := bind_some h
      refine RegD.op (OpD.call (y' := vb ((decide (0 ≤ (ix a2.a1 v5.toNat))) && (decide ((ix a2.a1 v5.toNat) ≤ ((a1.length : Int) - 1))))) (obx := []) (oby := []) (ob2 := [some (.row 2 [.agg [eS 1 vi a2.a0, eS 1 vi a2.a1]]), some (.row 2 [.agg [vi (a0.length : Int), vi (a1.length : Int)]]), none, none, none, none, none, none, none, none, none, none, none]) (tch := []) 0 _ _ (cy (I0 42 (.call 93 [(.t 37), (.c (.p (.int .i64 0))), (.t 41)]))) (agraffebase_Within_ok n (ix a2.a1 v5.toNat) 0 ((a1.length : Int) - 1) y6 hy6) [] (by kernel_rfl) (.cons rfl (.cons rfl (.cons rfl (.cons rfl .nil)))) (by kernel_rfl) (by kernel_rfl) ObsRen.nil (by kernel_rfl) ObsRen.nil (by kernel_rfl) rfl (.inr ⟨rfl, rfl⟩)) ?_
      refine RegD.run 1 [(43, vb (!((decide (0 ≤ (ix a2.a1 v5.toNat))) && (decide ((ix a2.a1 v5.toNat) ≤ ((a1.length : Int) - 1)))))), (42, vb ((decide (0 ≤ (ix a2.a1 v5.toNat))) && (decide ((ix a2.a1 v5.toNat) ≤ ((a1.length : Int) - 1))))), (41, vi ((a1.length : Int) - 1)), (40, vi (a1.length : Int)), (39, .ptr 1 0 1), (38, vi 1), (37, vi (ix a2.a1 v5.toNat)), (36, .fptr 1 (List.map vi a2.a1) v5.toNat 0), (35, vi v5), (34, eS 1 vi a2.a1), (33, .ptr 0 0 1), (32, vi 1), (0, eS 2 eWantedPart a0), (1, eS 2 eOfferedPart a1), (5, .ptr 0 0 0), (8, .ptr 1 0 0), (9, vi 1), (10, vi v5)] [some (.row 2 [.agg [eS 1 vi a2.a0, eS 1 vi a2.a1]]), some (.row 2 [.agg [vi (a0.length : Int), vi (a1.length : Int)]]), none, none, none, none, none, none, none, none, none, none, none, none] (by kernel_rfl) ?_
      refine RegD.done rfl (by kernel_rfl) (S' := ⟨[(0, eS 2 eWantedPart a0), (1, eS 2 eOfferedPart a1), (5, .ptr 0 0 0), (8, .ptr 1 0 0), (9, vi 1), (10, vi v5), (43, vb (!((decide (0 ≤ (ix a2.a1 v5.toNat))) && (decide ((ix a2.a1 v5.toNat) ≤ ((a1.length : Int) - 1))))))], [some (.row 2 [.agg [eS 1 vi a2.a0, eS 1 vi a2.a1]]), some (.row 2 [.agg [vi (a0.length : Int), vi (a1.length : Int)]])]⟩) (sc [0, 1] (by decide) (by kernel_rfl) (.cons rfl (.cons rfl .nil)) rfl rfl) ?_
      refine TriE.cond (b := !((decide (0 ≤ (ix a2.a1 v5.toNat))) && (decide ((ix a2.a1 v5.toNat) ≤ ((a1.length : Int) - 1))))) rfl (fun c13 => ?_) (fun c13 => ?_)
      · have h := cond_t h c13
        refine sr [(6, vi 0), (7, vi 6)] [some (.row 2 [.agg [eS 1 vi a2.a0, eS 1 vi a2.a1]]), some (.row 2 [.agg [vi (a0.length : Int), vi (a1.length : Int)]])] ?_
        refine TriE.ret ?_
        have h := Option.some.inj h
        subst h
        exact DoneS.ret (S' := ⟨[(6, vi 0), (7, vi 6)], []⟩) (sc [] (by decide) (by kernel_rfl) ObRen.nil rfl rfl) rfl rfl
      have h := cond_f h c13
      refine TriE.skip ?_
      refine TriE.regJ ?_
      refine rn 1 [(0, eS 2 eWantedPart a0), (1, eS 2 eOfferedPart a1), (5, .ptr 0 0 0), (8, .ptr 1 0 0), (9, vi 1), (30, vi v5)] [some (.row 2 [.agg [eS 1 vi a2.a0, eS 1 vi a2.a1]]), some (.row 2 [.agg [vi (a0.length : Int), vi (a1.length : Int)]])] ?_
      obtain ⟨c14, h⟩ := chk_some h
      refine jv (vi (v5 + 1)) (cy (I0 31 (.bin .add false (.t 30) (.c (.p (.int .i64 1)))))) (r_add rfl rfl c14) rfl ?_
      refine jq 1 [(0, eS 2 eWantedPart a0), (1, eS 2 eOfferedPart a1), (5, .ptr 0 0 0), (8, .ptr 1 0 0), (9, vi 1), (10, vi (v5 + 1))] [some (.row 2 [.agg [eS 1 vi a2.a0, eS 1 vi a2.a1]]), some (.row 2 [.agg [vi (a0.length : Int), vi (a1.length : Int)]])] ?_
      exact Vs.intro Sees.refl ⟨(v5 + 1), rfl, h⟩
    have h := cond_f h c9
    refine TriE.exit ?_
    exact Vs.intro sy ⟨(), rfl, h⟩
  intro k1 h
  refine TriE.block ?_
  refine sr [(0, eS 2 eWantedPart a0), (1, eS 2 eOfferedPart a1), (5, .ptr 0 0 0), (8, .ptr 1 0 0), (9, vi 0), (10, vi 0)] [some (.row 2 [.agg [eS 1 vi a2.a0, eS 1 vi a2.a1]]), some (.row 2 [.agg [vi (a0.length : Int), vi (a1.length : Int)]])] ?_
  refine TriE.block ?_
  refine TriE.loopN h (fun (v2 : Int) => St.mk [(0, eS 2 eWantedPart a0), (1, eS 2 eOfferedPart a1), (5, .ptr 0 0 0), (8, .ptr 1 0 0), (9, vi 0), (10, vi v2)] [some (.row 2 [.agg [eS 1 vi a2.a0, eS 1 vi a2.a1]]), some (.row 2 [.agg [vi (a0.length : Int), vi (a1.length : Int)]])]) rfl ?_
  clear h
  rintro back v2 h
  dsimp only [agrafferef08_CheckCover_L1] at h
  refine TriE.seq ?_
  refine sj ?_
  refine rn 4 [(0, eS 2 eWantedPart a0), (1, eS 2 eOfferedPart a1), (5, .ptr 0 0 0), (8, .ptr 1 0 0), (9, vi 0), (10, vi v2), (24, vi v2), (27, eS 1 vi a2.a0)] [some (.row 2 [.agg [eS 1 vi a2.a0, eS 1 vi a2.a1]]), some (.row 2 [.agg [vi (a0.length : Int), vi (a1.length : Int)]])] ?_
  refine jv (vi ((a2.a0.length : Nat) : Int)) (cy (I0 28 (.len 0 (.t 27)))) (ok_len_m rfl) rfl ?_
  refine jq 1 [(0, eS 2 eWantedPart a0), (1, eS 2 eOfferedPart a1), (5, .ptr 0 0 0), (8, .ptr 1 0 0), (9, vi 0), (10, vi v2), (29, vb (decide (v2 < ((a2.a0.length : Nat) : Int))))] [some (.row 2 [.agg [eS 1 vi a2.a0, eS 1 vi a2.a1]]), some (.row 2 [.agg [vi (a0.length : Int), vi (a1.length : Int)]])] ?_
  refine TriE.cond (b := decide (v2 < ((a2.a0.length : Nat) : Int))) rfl (fun c2 => ?_) (fun c2 => ?_)
  · have h := cond_t h c2
    refine TriE.skip ?_
    refine TriE.seq ?_
    refine TriE.block ?_
    refine TriE.seq ?_
    refine TriE.sees (Sees.less (fr' := [(0, eS 2 eWantedPart a0), (1, eS 2 eOfferedPart a1), (5, .ptr 0 0 0), (8, .ptr 1 0 0), (9, vi 0), (10, vi v2)]) (.cons rfl (.cons rfl (.cons rfl (.cons rfl (.cons rfl (.cons rfl .nil))))))) ?_
    refine TriE.draw (by kernel_rfl) ?_
    refine RegD.run 4 [(35, vi v2), (34, eS 1 vi a2.a0), (33, .ptr 0 0 0), (32, vi 0), (0, eS 2 eWantedPart a0), (1, eS 2 eOfferedPart a1), (5, .ptr 0 0 0), (8, .ptr 1 0 0), (9, vi 0), (10, vi v2)] [some (.row 2 [.agg [eS 1 vi a2.a0, eS 1 vi a2.a1]]), some (.row 2 [.agg [vi (a0.length : Int), vi (a1.length : Int)]]), none, none, none, none] (by kernel_rfl) ?_
    obtain ⟨c3, h⟩ := chk_some h
    refine dv (.fptr 1 (List.map vi a2.a0) v2.toNat 0) (cy (I0 36 (.iaddr 1 (.t 34) (.t 35)))) (ok_iaddr_m (j := v2.toNat) rfl rfl (inB_to c3) (inB_lt c3)) rfl ?_
    obtain ⟨c4, h⟩ := chk_some h
    refine dv (vi (ix a2.a0 v2.toNat)) (cy (I0 37 (.load false 1 (.t 36)))) (ok_load_fm (v := vi (ix a2.a0 v2.toNat)) rfl c4 rfl) rfl ?_
    refine RegD.run 3 [(40, vi (a0.length : Int)), (39, .ptr 1 0 0), (38, vi 0), (37, vi (ix a2.a0 v2.toNat)), (36, .fptr 1 (List.map vi a2.a0) v2.toNat 0), (35, vi v2), (34, eS 1 vi a2.a0), (33, .ptr 0 0 0), (32, vi 0), (0, eS 2 eWantedPart a0), (1, eS 2 eOfferedPart a1), (5, .ptr 0 0 0), (8, .ptr 1 0 0), (9, vi 0), (10, vi v2)] [some (.row 2 [.agg [eS 1 vi a2.a0, eS 1 vi a2.a1]]), some (.row 2 [.agg [vi (a0.length : Int), vi (a1.length : Int)]]), none, none, none, none, none, none, none, none, none] (by kernel_rfl) ?_
    obtain ⟨c5, h⟩ := chk_some h
    refine dv (vi ((a0.length : Int) - 1)) (cy (I0 41 (.bin .sub false (.t 40) (.c (.p (.int .i64 1)))))) (r_sub rfl rfl c5) rfl ?_
    obtain ⟨y3, hy3, h⟩ := bind_some h
    refine RegD.op (OpD.call (y' := vb ((decide (0 ≤ (ix a2.a0 v2.toNat))) && (decide ((ix a2.a0 v2.toNat) ≤ ((a0.length : Int) - 1))))) (obx := []) (oby := []) (ob2 := [some (.row 2 [.agg [eS 1 vi a2.a0, eS 1 vi a2.a1]]), some (.row 2 [.agg [vi (a0.length : Int), vi (a1.length : Int)]]), none, none, none, none, none, none, none, none, none, none, none]) (tch := []) 0 _ _ (cy (I0 42 (.call 93 [(.t 37), (.c (.p (.int .i64 0))), (.t 41)]))) (agraffebase_Within_ok n (ix a2.a0 v2.toNat) 0 ((a0.length : Int) - 1) y3 hy3) [] (by kernel_rfl) (.cons rfl (.cons rfl (.cons rfl (.cons rfl .nil)))) (by kernel_rfl) (by kernel_rfl) ObsRen.nil (by kernel_rfl) ObsRen.nil (by kernel_rfl) rfl (.inr ⟨rfl, rfl⟩)) ?_
    refine RegD.run 1 [(43, vb (!((decide (0 ≤ (ix a2.a0 v2.toNat))) && (decide ((ix a2.a0 v2.toNat) ≤ ((a0.length : Int) - 1)))))), (42, vb ((decide (0 ≤ (ix a2.a0 v2.toNat))) && (decide ((ix a2.a0 v2.toNat) ≤ ((a0.length : Int) - 1))))), (41, vi ((a0.length : Int) - 1)), (40, vi (a0.length : Int)), (39, .ptr 1 0 0), (38, vi 0), (37, vi (ix a2.a0 v2.toNat)), (36, .fptr 1 (List.map vi a2.a0) v2.toNat 0), (35, vi v2), (34, eS 1 vi a2.a0), (33, .ptr 0 0 0), (32, vi 0), (0, eS 2 eWantedPart a0), (1, eS 2 eOfferedPart a1), (5, .ptr 0 0 0), (8, .ptr 1 0 0), (9, vi 0), (10, vi v2)] [some (.row 2 [.agg [eS 1 vi a2.a0, eS 1 vi a2.a1]]), some (.row 2 [.agg [vi (a0.length : Int), vi (a1.length : Int)]]), none, none, none, none, none, none, none, none, none, none, none, none] (by kernel_rfl) ?_
    refine RegD.done rfl (by kernel_rfl) (S' := ⟨[(0, eS 2 eWantedPart a0), (1, eS 2 eOfferedPart a1), (5, .ptr 0 0 0), (8, .ptr 1 0 0), (9, vi 0), (10, vi v2), (43, vb (!((decide (0 ≤ (ix a2.a0 v2.toNat))) && (decide ((ix a2.a0 v2.toNat) ≤ ((a0.length : Int) - 1))))))], [some (.row 2 [.agg [eS 1 vi a2.a0, eS 1 vi a2.a1]]), some (.row 2 [.agg [vi (a0.length : Int), vi (a1.length : Int)]])]⟩) (sc [0, 1] (by decide) (by kernel_rfl) (.cons rfl (.cons rfl .nil)) rfl rfl) ?_
    refine TriE.cond (b := !((decide (0 ≤ (ix a2.a0 v2.toNat))) && (decide ((ix a2.a0 v2.toNat) ≤ ((a0.length : Int) - 1))))) rfl (fun c6 => ?_) (fun c6 => ?_)
    · have h := cond_t h c6
      refine sr [(6, vi 0), (7, vi 6)] [some (.row 2 [.agg [eS 1 vi a2.a0, eS 1 vi a2.a1]]), some (.row 2 [.agg [vi (a0.length : Int), vi (a1.length : Int)]])] ?_
      refine TriE.ret ?_
      have h := Option.some.inj h
      subst h
      exact DoneS.ret (S' := ⟨[(6, vi 0), (7, vi 6)], []⟩) (sc [] (by decide) (by kernel_rfl) ObRen.nil rfl rfl) rfl rfl
    have h := cond_f h c6
    refine TriE.skip ?_
    refine TriE.regJ ?_
    refine rn 1 [(0, eS 2 eWantedPart a0), (1, eS 2 eOfferedPart a1), (5, .ptr 0 0 0), (8, .ptr 1 0 0), (9, vi 0), (30, vi v2)] [some (.row 2 [.agg [eS 1 vi a2.a0, eS 1 vi a2.a1]]), some (.row 2 [.agg [vi (a0.length : Int), vi (a1.length : Int)]])] ?_
    obtain ⟨c7, h⟩ := chk_some h
    refine jv (vi (v2 + 1)) (cy (I0 31 (.bin .add false (.t 30) (.c (.p (.int .i64 1)))))) (r_add rfl rfl c7) rfl ?_
    refine jq 1 [(0, eS 2 eWantedPart a0), (1, eS 2 eOfferedPart a1), (5, .ptr 0 0 0), (8, .ptr 1 0 0), (9, vi 0), (10, vi (v2 + 1))] [some (.row 2 [.agg [eS 1 vi a2.a0, eS 1 vi a2.a1]]), some (.row 2 [.agg [vi (a0.length : Int), vi (a1.length : Int)]])] ?_
    exact Vs.intro Sees.refl ⟨(v2 + 1), rfl, h⟩
  have h := cond_f h c2
  refine TriE.exit ?_
  exact Vs.intro sy ⟨(), rfl, h⟩
theorem agraffelaw08_RestoreProofs_ok (n : Nat) (a0 : List WantedPart) (a1 : List OfferedPart) (a2 : Proof) (r : Bool) (h : agraffelaw08_RestoreProofs n a0 a1 a2 = some r) : FnL Tryz.prog 9 [eS 2 eWantedPart a0, eS 2 eOfferedPart a1, .agg [eS 1 vi a2.Match, eS 1 vi a2.Cover.a0, eS 1 vi a2.Cover.a1]] [] (vb r) [] := by
  dsimp only [agraffelaw08_RestoreProofs] at h
  refine FnL.ofS (ts := [6]) Tryz.call9 Tryz.func9 rfl rfl (Nat.le_of_ble_eq_true rfl) (Nat.le_of_ble_eq_true rfl) (fun j h => absurd h (Nat.not_lt_zero j)) ?_
  refine sr [(0, eS 2 eWantedPart a0), (1, eS 2 eOfferedPart a1), (5, .ptr 0 0 0)] [some (.row 3 [.agg [eS 1 vi a2.Match, eS 1 vi a2.Cover.a0, eS 1 vi a2.Cover.a1]])] ?_
  refine TriE.seq ?_
  refine sj ?_
  obtain ⟨y1, hy1, h⟩ := bind_some h
  refine RegJ.op (Op1.call (y' := vb y1) (obx := []) (oby := []) (ob2 := [some (.row 3 [.agg [eS 1 vi a2.Match, eS 1 vi a2.Cover.a0, eS 1 vi a2.Cover.a1]])]) _ _ (cy (I0 16 (.call 14 []))) rfl (agraffelaw08_awake_ok n y1 hy1) [] (by kernel_rfl) (.cons rfl .nil) (by kernel_rfl) (by kernel_rfl) ObsRen.nil (by kernel_rfl) ObsRen.nil (by kernel_rfl)) ?_
  refine jq 1 [(0, eS 2 eWantedPart a0), (1, eS 2 eOfferedPart a1), (5, .ptr 0 0 0), (17, vb (!y1))] [some (.row 3 [.agg [eS 1 vi a2.Match, eS 1 vi a2.Cover.a0, eS 1 vi a2.Cover.a1]])] ?_
  refine TriE.cond (b := !y1) rfl (fun c1 => ?_) (fun c1 => ?_)
  · have h := cond_t h c1
    refine sr [(6, vb false)] [some (.row 3 [.agg [eS 1 vi a2.Match, eS 1 vi a2.Cover.a0, eS 1 vi a2.Cover.a1]])] ?_
    refine TriE.ret ?_
    have h := Option.some.inj h
    subst h
    exact DoneS.ret (S' := ⟨[(6, vb false)], []⟩) (sc [] (by decide) (by kernel_rfl) ObRen.nil rfl rfl) rfl rfl
  have h := cond_f h c1
  refine TriE.skip ?_
  refine TriE.seq ?_
  refine sj ?_
  refine rn 2 [(0, eS 2 eWantedPart a0), (1, eS 2 eOfferedPart a1), (5, .ptr 0 0 0), (18, eS 2 eWantedPart a0), (19, eS 2 eOfferedPart a1)] [some (.row 3 [.agg [eS 1 vi a2.Match, eS 1 vi a2.Cover.a0, eS 1 vi a2.Cover.a1]])] ?_
  obtain ⟨y2, hy2, h⟩ := bind_some h
  refine RegJ.op (Op1.call (y' := vb y2) (obx := []) (oby := []) (ob2 := [some (.row 3 [.agg [eS 1 vi a2.Match, eS 1 vi a2.Cover.a0, eS 1 vi a2.Cover.a1]])]) _ _ (cy (I0 20 (.call 57 [(.t 18), (.t 19)]))) rfl (agraffelaw08_places_ok n a0 a1 y2 hy2) [] (by kernel_rfl) (.cons rfl (.cons rfl (.cons rfl .nil))) (by kernel_rfl) (by kernel_rfl) ObsRen.nil (by kernel_rfl) ObsRen.nil (by kernel_rfl)) ?_
  refine rn 2 [(0, eS 2 eWantedPart a0), (1, eS 2 eOfferedPart a1), (5, .ptr 0 0 0), (22, vb (!y2))] [some (.row 3 [.agg [eS 1 vi a2.Match, eS 1 vi a2.Cover.a0, eS 1 vi a2.Cover.a1]])] ?_
  refine RegJ.op (Op1.valk (v := .ptr 0 0 0) _ _ (cy (IG 23 (.faddr 0 (.t 5)) 22 false)) rfl (by kernel_rfl) (fun hg => (.cons rfl .nil))) ?_
  refine RegJ.op (Op1.valk (v := eS 1 vi a2.Match) _ _ (cy (IG 24 (.load false 1 (.t 23)) 22 false)) rfl (by kernel_rfl) (fun hg => (.cons hg .nil))) ?_
  refine RegJ.op (Op1.valg (v := vi ((a2.Match.length : Nat) : Int)) _ _ (cy (IG 25 (.len 0 (.t 24)) 22 false)) rfl (fun hg => (ok_len_m rfl)) (fun hg => (.cons hg .nil))) ?_
  refine RegJ.op (Op1.valg (v := vb (decide (50 < a2.Match.length))) _ _ (cy (IG 26 (.bin .gtr false (.t 25) (.c (.p (.int .i64 50)))) 22 false)) rfl (fun hg => (n_gtr (i := a2.Match.length) (j := 50) rfl rfl)) (fun hg => (.cons hg (.cons rfl .nil)))) ?_
  refine RegJ.op (Op1.or (cy (I0 27 (.pick (.t 22) (.c (.p (.bool true))) (.t 26)))) rfl rfl (by first | exact hokO1 | exact hokO0 | simp)) ?_
  refine rn 1 [(0, eS 2 eWantedPart a0), (1, eS 2 eOfferedPart a1), (5, .ptr 0 0 0), (28, vb ((!y2) || (decide (50 < a2.Match.length))))] [some (.row 3 [.agg [eS 1 vi a2.Match, eS 1 vi a2.Cover.a0, eS 1 vi a2.Cover.a1]])] ?_
  refine RegJ.op (Op1.valk (v := .ptr 0 0 1) _ _ (cy (IG 29 (.faddr 1 (.t 5)) 28 false)) rfl (by kernel_rfl) (fun hg => (.cons rfl .nil))) ?_
  refine RegJ.op (Op1.valk (v := .ptr 0 0 1) _ _ (cy (IG 30 (.aaddr 2 1 (.t 29) (.c (.p (.int .i64 0)))) 28 false)) rfl (by kernel_rfl) (fun hg => (.cons hg (.cons rfl .nil)))) ?_
  refine RegJ.op (Op1.valk (v := eS 1 vi a2.Cover.a0) _ _ (cy (IG 31 (.load false 1 (.t 30)) 28 false)) rfl (by kernel_rfl) (fun hg => (.cons hg .nil))) ?_
  refine RegJ.op (Op1.valg (v := vi ((a2.Cover.a0.length : Nat) : Int)) _ _ (cy (IG 32 (.len 0 (.t 31)) 28 false)) rfl (fun hg => (ok_len_m rfl)) (fun hg => (.cons hg .nil))) ?_
  refine RegJ.op (Op1.valg (v := vb (decide (50 < a2.Cover.a0.length))) _ _ (cy (IG 33 (.bin .gtr false (.t 32) (.c (.p (.int .i64 50)))) 28 false)) rfl (fun hg => (n_gtr (i := a2.Cover.a0.length) (j := 50) rfl rfl)) (fun hg => (.cons hg (.cons rfl .nil)))) ?_
  refine RegJ.op (Op1.or (cy (I0 34 (.pick (.t 28) (.c (.p (.bool true))) (.t 33)))) rfl rfl (by first | exact hokO1 | exact hokO0 | simp)) ?_
  refine rn 1 [(0, eS 2 eWantedPart a0), (1, eS 2 eOfferedPart a1), (5, .ptr 0 0 0), (35, vb (((!y2) || (decide (50 < a2.Match.length))) || (decide (50 < a2.Cover.a0.length))))] [some (.row 3 [.agg [eS 1 vi a2.Match, eS 1 vi a2.Cover.a0, eS 1 vi a2.Cover.a1]])] ?_
  refine RegJ.op (Op1.valk (v := .ptr 0 0 1) _ _ (cy (IG 36 (.faddr 1 (.t 5)) 35 false)) rfl (by kernel_rfl) (fun hg => (.cons rfl .nil))) ?_
  refine RegJ.op (Op1.valk (v := .ptr 0 0 2) _ _ (cy (IG 37 (.aaddr 2 1 (.t 36) (.c (.p (.int .i64 1)))) 35 false)) rfl (by kernel_rfl) (fun hg => (.cons hg (.cons rfl .nil)))) ?_
  refine RegJ.op (Op1.valk (v := eS 1 vi a2.Cover.a1) _ _ (cy (IG 38 (.load false 1 (.t 37)) 35 false)) rfl (by kernel_rfl) (fun hg => (.cons hg .nil))) ?_
  refine RegJ.op (Op1.valg (v := vi ((a2.Cover.a1.length : Nat) : Int)) _ _ (cy (IG 39 (.len 0 (.t 38)) 35 false)) rfl (fun hg => (ok_len_m rfl)) (fun hg => (.cons hg .nil))) ?_
  refine RegJ.op (Op1.valg (v := vb (decide (50 < a2.Cover.a1.length))) _ _ (cy (IG 40 (.bin .gtr false (.t 39) (.c (.p (.int .i64 50)))) 35 false)) rfl (fun hg => (n_gtr (i := a2.Cover.a1.length) (j := 50) rfl rfl)) (fun hg => (.cons hg (.cons rfl .nil)))) ?_
  refine RegJ.op (Op1.or (cy (I0 41 (.pick (.t 35) (.c (.p (.bool true))) (.t 40)))) rfl rfl (by first | exact hokO1 | exact hokO0 | simp)) ?_
  refine jp [(0, eS 2 eWantedPart a0), (1, eS 2 eOfferedPart a1), (5, .ptr 0 0 0), (41, vb ((((!y2) || (decide (50 < a2.Match.length))) || (decide (50 < a2.Cover.a0.length))) || (decide (50 < a2.Cover.a1.length))))] ?_
  refine TriE.cond (b := (((!y2) || (decide (50 < a2.Match.length))) || (decide (50 < a2.Cover.a0.length))) || (decide (50 < a2.Cover.a1.length))) rfl (fun c2 => ?_) (fun c2 => ?_)
  · have h := cond_t h c2
    refine sr [(6, vb true)] [some (.row 3 [.agg [eS 1 vi a2.Match, eS 1 vi a2.Cover.a0, eS 1 vi a2.Cover.a1]])] ?_
    refine TriE.ret ?_
    have h := Option.some.inj h
    subst h
    exact DoneS.ret (S' := ⟨[(6, vb true)], []⟩) (sc [] (by decide) (by kernel_rfl) ObRen.nil rfl rfl) rfl rfl
  have h := cond_f h c2
  refine TriE.skip ?_
  refine TriE.seq ?_
  refine TriE.sees (Sees.less (fr' := [(0, eS 2 eWantedPart a0), (1, eS 2 eOfferedPart a1), (5, .ptr 0 0 0)]) (.cons rfl (.cons rfl (.cons rfl .nil)))) ?_
  refine TriE.draw (by kernel_rfl) ?_
  refine RegD.run 1 [(43, eS 2 eWantedPart a0), (0, eS 2 eWantedPart a0), (1, eS 2 eOfferedPart a1), (5, .ptr 0 0 0)] [some (.row 3 [.agg [eS 1 vi a2.Match, eS 1 vi a2.Cover.a0, eS 1 vi a2.Cover.a1]]), none] (by kernel_rfl) ?_
  obtain ⟨y3, hy3, h⟩ := bind_some h
  refine RegD.op (OpD.call (y' := eS 2 eWantedPart y3) (obx := []) (oby := []) (ob2 := [some (.row 3 [.agg [eS 1 vi a2.Match, eS 1 vi a2.Cover.a0, eS 1 vi a2.Cover.a1]]), none, none]) (tch := []) 0 _ _ (cy (I0 44 (.call 59 [(.t 43)]))) (agraffelaw08_wanted_ok n a0 y3 hy3) [] (by kernel_rfl) (.cons rfl (.cons rfl .nil)) (by kernel_rfl) (by kernel_rfl) ObsRen.nil (by kernel_rfl) ObsRen.nil (by kernel_rfl) rfl (.inr ⟨rfl, rfl⟩)) ?_
  refine RegD.run 1 [(45, eS 2 eOfferedPart a1), (44, eS 2 eWantedPart y3), (43, eS 2 eWantedPart a0), (0, eS 2 eWantedPart a0), (1, eS 2 eOfferedPart a1), (5, .ptr 0 0 0)] [some (.row 3 [.agg [eS 1 vi a2.Match, eS 1 vi a2.Cover.a0, eS 1 vi a2.Cover.a1]]), none, none, none] (by kernel_rfl) ?_
  obtain ⟨y4, hy4, h⟩ := bind_some h
  refine RegD.op (OpD.call (y' := eS 2 eOfferedPart y4) (obx := []) (oby := []) (ob2 := [some (.row 3 [.agg [eS 1 vi a2.Match, eS 1 vi a2.Cover.a0, eS 1 vi a2.Cover.a1]]), none, none, none, none]) (tch := []) 0 _ _ (cy (I0 46 (.call 60 [(.t 45)]))) (agraffelaw08_offered_ok n a1 y4 hy4) [] (by kernel_rfl) (.cons rfl (.cons rfl .nil)) (by kernel_rfl) (by kernel_rfl) ObsRen.nil (by kernel_rfl) ObsRen.nil (by kernel_rfl) rfl (.inr ⟨rfl, rfl⟩)) ?_
  refine RegD.run 2 [(48, eS 1 vi a2.Match), (47, .ptr 0 0 0), (46, eS 2 eOfferedPart y4), (45, eS 2 eOfferedPart a1), (44, eS 2 eWantedPart y3), (43, eS 2 eWantedPart a0), (0, eS 2 eWantedPart a0), (1, eS 2 eOfferedPart a1), (5, .ptr 0 0 0)] [some (.row 3 [.agg [eS 1 vi a2.Match, eS 1 vi a2.Cover.a0, eS 1 vi a2.Cover.a1]]), none, none, none, none, none, none] (by kernel_rfl) ?_
  obtain ⟨y5, hy5, h⟩ := bind_some h
  refine RegD.op (OpD.call (y' := eS 1 vi a2.Match) (obx := []) (oby := []) (ob2 := [some (.row 3 [.agg [eS 1 vi a2.Match, eS 1 vi a2.Cover.a0, eS 1 vi a2.Cover.a1]]), none, none, none, none, none, none, none]) (tch := []) 0 _ _ (cy (I0 49 (.call 28 [(.t 48)]))) (agraffebase_CopyInts_2_ok n a2.Match y5 hy5) [] (by kernel_rfl) (.cons rfl (.cons rfl .nil)) (by kernel_rfl) (by kernel_rfl) ObsRen.nil (by kernel_rfl) ObsRen.nil (by kernel_rfl) rfl (.inr ⟨rfl, rfl⟩)) ?_
  obtain ⟨y6, hy6, h⟩ := bind_some h
  refine RegD.op (OpD.call (y' := .tup [vi y6.2, vi y6.1]) (obx := []) (oby := []) (ob2 := [some (.row 3 [.agg [eS 1 vi a2.Match, eS 1 vi a2.Cover.a0, eS 1 vi a2.Cover.a1]]), none, none, none, none, none, none, none, none]) (tch := []) 0 _ _ (cy (I0 50 (.call 58 [(.t 44), (.t 46), (.t 49)]))) (restore_CheckMatch_ok n y3 y4 a2.Match y6 hy6) [] (by kernel_rfl) (.cons rfl (.cons rfl (.cons rfl (.cons rfl .nil)))) (by kernel_rfl) (by kernel_rfl) ObsRen.nil (by kernel_rfl) ObsRen.nil (by kernel_rfl) rfl (.inr ⟨rfl, rfl⟩)) ?_
  refine RegD.run 5 [(8, vi y6.1), (7, vi y6.2), (52, vi y6.1), (51, vi y6.2), (42, .tup [vi y6.2, vi y6.1]), (50, .tup [vi y6.2, vi y6.1]), (49, eS 1 vi a2.Match), (48, eS 1 vi a2.Match), (47, .ptr 0 0 0), (46, eS 2 eOfferedPart y4), (45, eS 2 eOfferedPart a1), (44, eS 2 eWantedPart y3), (43, eS 2 eWantedPart a0), (0, eS 2 eWantedPart a0), (1, eS 2 eOfferedPart a1), (5, .ptr 0 0 0)] [some (.row 3 [.agg [eS 1 vi a2.Match, eS 1 vi a2.Cover.a0, eS 1 vi a2.Cover.a1]]), none, none, none, none, none, none, none, none, none, none, none, none, none] (by kernel_rfl) ?_
  refine RegD.done rfl (by kernel_rfl) (S' := ⟨[(0, eS 2 eWantedPart a0), (1, eS 2 eOfferedPart a1), (5, .ptr 0 0 0), (7, vi y6.2), (8, vi y6.1)], [some (.row 3 [.agg [eS 1 vi a2.Match, eS 1 vi a2.Cover.a0, eS 1 vi a2.Cover.a1]])]⟩) (sc [0] (by decide) (by kernel_rfl) (.cons rfl .nil) rfl rfl) ?_
  refine TriE.seq ?_
  refine TriE.sees (Sees.less (fr' := [(0, eS 2 eWantedPart a0), (1, eS 2 eOfferedPart a1), (5, .ptr 0 0 0), (7, vi y6.2), (8, vi y6.1)]) (.cons rfl (.cons rfl (.cons rfl (.cons rfl (.cons rfl .nil)))))) ?_
  refine TriE.draw (by kernel_rfl) ?_
  refine RegD.run 1 [(54, eS 2 eWantedPart a0), (0, eS 2 eWantedPart a0), (1, eS 2 eOfferedPart a1), (5, .ptr 0 0 0), (7, vi y6.2), (8, vi y6.1)] [some (.row 3 [.agg [eS 1 vi a2.Match, eS 1 vi a2.Cover.a0, eS 1 vi a2.Cover.a1]]), none] (by kernel_rfl) ?_
  obtain ⟨y7, hy7, h⟩ := bind_some h
  refine RegD.op (OpD.call (y' := eS 2 eWantedPart y7) (obx := []) (oby := []) (ob2 := [some (.row 3 [.agg [eS 1 vi a2.Match, eS 1 vi a2.Cover.a0, eS 1 vi a2.Cover.a1]]), none, none]) (tch := []) 0 _ _ (cy (I0 55 (.call 59 [(.t 54)]))) (agraffelaw08_wanted_ok n a0 y7 hy7) [] (by kernel_rfl) (.cons rfl (.cons rfl .nil)) (by kernel_rfl) (by kernel_rfl) ObsRen.nil (by kernel_rfl) ObsRen.nil (by kernel_rfl) rfl (.inr ⟨rfl, rfl⟩)) ?_
  refine RegD.run 1 [(56, eS 2 eOfferedPart a1), (55, eS 2 eWantedPart y7), (54, eS 2 eWantedPart a0), (0, eS 2 eWantedPart a0), (1, eS 2 eOfferedPart a1), (5, .ptr 0 0 0), (7, vi y6.2), (8, vi y6.1)] [some (.row 3 [.agg [eS 1 vi a2.Match, eS 1 vi a2.Cover.a0, eS 1 vi a2.Cover.a1]]), none, none, none] (by kernel_rfl) ?_
  obtain ⟨y8, hy8, h⟩ := bind_some h
  refine RegD.op (OpD.call (y' := eS 2 eOfferedPart y8) (obx := []) (oby := []) (ob2 := [some (.row 3 [.agg [eS 1 vi a2.Match, eS 1 vi a2.Cover.a0, eS 1 vi a2.Cover.a1]]), none, none, none, none]) (tch := []) 0 _ _ (cy (I0 57 (.call 60 [(.t 56)]))) (agraffelaw08_offered_ok n a1 y8 hy8) [] (by kernel_rfl) (.cons rfl (.cons rfl .nil)) (by kernel_rfl) (by kernel_rfl) ObsRen.nil (by kernel_rfl) ObsRen.nil (by kernel_rfl) rfl (.inr ⟨rfl, rfl⟩)) ?_
  refine RegD.run 3 [(60, eS 1 vi a2.Cover.a0), (59, .ptr 0 0 1), (58, .ptr 0 0 1), (57, eS 2 eOfferedPart y8), (56, eS 2 eOfferedPart a1), (55, eS 2 eWantedPart y7), (54, eS 2 eWantedPart a0), (0, eS 2 eWantedPart a0), (1, eS 2 eOfferedPart a1), (5, .ptr 0 0 0), (7, vi y6.2), (8, vi y6.1)] [some (.row 3 [.agg [eS 1 vi a2.Match, eS 1 vi a2.Cover.a0, eS 1 vi a2.Cover.a1]]), none, none, none, none, none, none, none] (by kernel_rfl) ?_
  obtain ⟨y9, hy9, h⟩ := bind_some h
  refine RegD.op (OpD.call (y' := eS 1 vi a2.Cover.a0) (obx := []) (oby := []) (ob2 := [some (.row 3 [.agg [eS 1 vi a2.Match, eS 1 vi a2.Cover.a0, eS 1 vi a2.Cover.a1]]), none, none, none, none, none, none, none, none]) (tch := []) 0 _ _ (cy (I0 61 (.call 28 [(.t 60)]))) (agraffebase_CopyInts_2_ok n a2.Cover.a0 y9 hy9) [] (by kernel_rfl) (.cons rfl (.cons rfl .nil)) (by kernel_rfl) (by kernel_rfl) ObsRen.nil (by kernel_rfl) ObsRen.nil (by kernel_rfl) rfl (.inr ⟨rfl, rfl⟩)) ?_
  refine RegD.run 3 [(64, eS 1 vi a2.Cover.a1), (63, .ptr 0 0 2), (62, .ptr 0 0 1), (61, eS 1 vi a2.Cover.a0), (60, eS 1 vi a2.Cover.a0), (59, .ptr 0 0 1), (58, .ptr 0 0 1), (57, eS 2 eOfferedPart y8), (56, eS 2 eOfferedPart a1), (55, eS 2 eWantedPart y7), (54, eS 2 eWantedPart a0), (0, eS 2 eWantedPart a0), (1, eS 2 eOfferedPart a1), (5, .ptr 0 0 0), (7, vi y6.2), (8, vi y6.1)] [some (.row 3 [.agg [eS 1 vi a2.Match, eS 1 vi a2.Cover.a0, eS 1 vi a2.Cover.a1]]), none, none, none, none, none, none, none, none, none, none, none] (by kernel_rfl) ?_
  obtain ⟨y10, hy10, h⟩ := bind_some h
  refine RegD.op (OpD.call (y' := eS 1 vi a2.Cover.a1) (obx := []) (oby := []) (ob2 := [some (.row 3 [.agg [eS 1 vi a2.Match, eS 1 vi a2.Cover.a0, eS 1 vi a2.Cover.a1]]), none, none, none, none, none, none, none, none, none, none, none, none]) (tch := []) 0 _ _ (cy (I0 65 (.call 28 [(.t 64)]))) (agraffebase_CopyInts_2_ok n a2.Cover.a1 y10 hy10) [] (by kernel_rfl) (.cons rfl (.cons rfl .nil)) (by kernel_rfl) (by kernel_rfl) ObsRen.nil (by kernel_rfl) ObsRen.nil (by kernel_rfl) rfl (.inr ⟨rfl, rfl⟩)) ?_
  refine RegD.run 1 [(66, .agg [eS 1 vi a2.Cover.a0, eS 1 vi a2.Cover.a1]), (65, eS 1 vi a2.Cover.a1), (64, eS 1 vi a2.Cover.a1), (63, .ptr 0 0 2), (62, .ptr 0 0 1), (61, eS 1 vi a2.Cover.a0), (60, eS 1 vi a2.Cover.a0), (59, .ptr 0 0 1), (58, .ptr 0 0 1), (57, eS 2 eOfferedPart y8), (56, eS 2 eOfferedPart a1), (55, eS 2 eWantedPart y7), (54, eS 2 eWantedPart a0), (0, eS 2 eWantedPart a0), (1, eS 2 eOfferedPart a1), (5, .ptr 0 0 0), (7, vi y6.2), (8, vi y6.1)] [some (.row 3 [.agg [eS 1 vi a2.Match, eS 1 vi a2.Cover.a0, eS 1 vi a2.Cover.a1]]), none, none, none, none, none, none, none, none, none, none, none, none, none] (by kernel_rfl) ?_
  obtain ⟨y11, hy11, h⟩ := bind_some h
  refine RegD.op (OpD.call (y' := .tup [vi y11.2, vi y11.1]) (obx := []) (oby := []) (ob2 := [some (.row 3 [.agg [eS 1 vi a2.Match, eS 1 vi a2.Cover.a0, eS 1 vi a2.Cover.a1]]), none, none, none, none, none, none, none, none, none, none, none, none, none, none]) (tch := []) 0 _ _ (cy (I0 67 (.call 61 [(.t 55), (.t 57), (.t 66)]))) (restore_CheckCover_ok n y7 y8 a2.Cover y11 hy11) [] (by kernel_rfl) (.cons rfl (.cons rfl (.cons rfl (.cons rfl .nil)))) (by kernel_rfl) (by kernel_rfl) ObsRen.nil (by kernel_rfl) ObsRen.nil (by kernel_rfl) rfl (.inr ⟨rfl, rfl⟩)) ?_
  refine RegD.run 5 [(10, vi y11.1), (9, vi y11.2), (69, vi y11.1), (68, vi y11.2), (53, .tup [vi y11.2, vi y11.1]), (67, .tup [vi y11.2, vi y11.1]), (66, .agg [eS 1 vi a2.Cover.a0, eS 1 vi a2.Cover.a1]), (65, eS 1 vi a2.Cover.a1), (64, eS 1 vi a2.Cover.a1), (63, .ptr 0 0 2), (62, .ptr 0 0 1), (61, eS 1 vi a2.Cover.a0), (60, eS 1 vi a2.Cover.a0), (59, .ptr 0 0 1), (58, .ptr 0 0 1), (57, eS 2 eOfferedPart y8), (56, eS 2 eOfferedPart a1), (55, eS 2 eWantedPart y7), (54, eS 2 eWantedPart a0), (0, eS 2 eWantedPart a0), (1, eS 2 eOfferedPart a1), (5, .ptr 0 0 0), (7, vi y6.2), (8, vi y6.1)] [some (.row 3 [.agg [eS 1 vi a2.Match, eS 1 vi a2.Cover.a0, eS 1 vi a2.Cover.a1]]), none, none, none, none, none, none, none, none, none, none, none, none, none, none, none, none, none, none, none] (by kernel_rfl) ?_
  refine RegD.done rfl (by kernel_rfl) (S' := ⟨[(0, eS 2 eWantedPart a0), (1, eS 2 eOfferedPart a1), (5, .ptr 0 0 0), (7, vi y6.2), (8, vi y6.1), (9, vi y11.2), (10, vi y11.1)], [some (.row 3 [.agg [eS 1 vi a2.Match, eS 1 vi a2.Cover.a0, eS 1 vi a2.Cover.a1]])]⟩) (sc [0] (by decide) (by kernel_rfl) (.cons rfl .nil) rfl rfl) ?_
  refine TriE.seq ?_
  refine sj ?_
  refine rn 2 [(0, eS 2 eWantedPart a0), (1, eS 2 eOfferedPart a1), (5, .ptr 0 0 0), (7, vi y6.2), (8, vi y6.1), (9, vi y11.2), (10, vi y11.1), (70, eS 2 eWantedPart a0), (71, eS 2 eOfferedPart a1)] [some (.row 3 [.agg [eS 1 vi a2.Match, eS 1 vi a2.Cover.a0, eS 1 vi a2.Cover.a1]])] ?_
  obtain ⟨y12, hy12, h⟩ := bind_some h
  refine RegJ.op (Op1.call (y' := vi y12) (obx := []) (oby := []) (ob2 := [some (.row 3 [.agg [eS 1 vi a2.Match, eS 1 vi a2.Cover.a0, eS 1 vi a2.Cover.a1]])]) _ _ (cy (I0 72 (.call 62 [(.t 70), (.t 71)]))) rfl (agrafferef08_CheckBoth_ok n a0 a1 y12 hy12) [] (by kernel_rfl) (.cons rfl (.cons rfl (.cons rfl .nil))) (by kernel_rfl) (by kernel_rfl) ObsRen.nil (by kernel_rfl) ObsRen.nil (by kernel_rfl)) ?_
  refine jq 1 [(0, eS 2 eWantedPart a0), (1, eS 2 eOfferedPart a1), (5, .ptr 0 0 0), (7, vi y6.2), (8, vi y6.1), (9, vi y11.2), (10, vi y11.1), (11, vi y12)] [some (.row 3 [.agg [eS 1 vi a2.Match, eS 1 vi a2.Cover.a0, eS 1 vi a2.Cover.a1]])] ?_
  refine sr [(0, eS 2 eWantedPart a0), (1, eS 2 eOfferedPart a1), (5, .ptr 0 0 0), (7, vi y6.2), (8, vi y6.1), (9, vi y11.2), (10, vi y11.1), (11, vi y12), (74, vb (y12 != (0 : Int)))] [some (.row 3 [.agg [eS 1 vi a2.Match, eS 1 vi a2.Cover.a0, eS 1 vi a2.Cover.a1]])] ?_
  refine TriE.cond (b := (y12 != (0 : Int))) rfl (fun c3 => ?_) (fun c3 => ?_)
  · have h := cond_t h c3
    refine sj ?_
    refine rn 4 [(7, vi y6.2), (9, vi y11.2), (10, vi y11.1), (11, vi y12), (78, vb (y6.1 == y12))] [some (.row 3 [.agg [eS 1 vi a2.Match, eS 1 vi a2.Cover.a0, eS 1 vi a2.Cover.a1]])] ?_
    refine RegJ.op (Op1.valk (v := vi y11.1) _ _ (cy (IG 79 (.mov (.t 10)) 78 true)) rfl (by kernel_rfl) (fun hg => (.cons rfl .nil))) ?_
    refine RegJ.op (Op1.valk (v := vi y12) _ _ (cy (IG 80 (.mov (.t 11)) 78 true)) rfl (by kernel_rfl) (fun hg => (.cons rfl .nil))) ?_
    refine RegJ.op (Op1.valk (v := vb (y11.1 == y12)) _ _ (cy (IG 81 (.bin .eql false (.t 79) (.t 80)) 78 true)) rfl (by kernel_rfl) (fun hg => (.cons hg (.cons hg .nil)))) ?_
    refine RegJ.op (Op1.and (cy (I0 82 (.pick (.t 78) (.t 81) (.c (.p (.bool false)))))) rfl rfl (by first | exact hokA1 | exact hokA0 | simp)) ?_
    refine rn 1 [(7, vi y6.2), (9, vi y11.2), (83, vb ((y6.1 == y12) && (y11.1 == y12)))] [some (.row 3 [.agg [eS 1 vi a2.Match, eS 1 vi a2.Cover.a0, eS 1 vi a2.Cover.a1]])] ?_
    refine RegJ.op (Op1.valk (v := vi y6.2) _ _ (cy (IG 84 (.mov (.t 7)) 83 true)) rfl (by kernel_rfl) (fun hg => (.cons rfl .nil))) ?_
    refine RegJ.op (Op1.valk (v := vb (y6.2 == (0 : Int))) _ _ (cy (IG 85 (.bin .eql false (.t 84) (.c (.p (.int .i64 0)))) 83 true)) rfl (by kernel_rfl) (fun hg => (.cons hg (.cons rfl .nil)))) ?_
    refine RegJ.op (Op1.and (cy (I0 86 (.pick (.t 83) (.t 85) (.c (.p (.bool false)))))) rfl rfl (by first | exact hokA1 | exact hokA0 | simp)) ?_
    refine rn 1 [(9, vi y11.2), (87, vb (((y6.1 == y12) && (y11.1 == y12)) && (y6.2 == (0 : Int))))] [some (.row 3 [.agg [eS 1 vi a2.Match, eS 1 vi a2.Cover.a0, eS 1 vi a2.Cover.a1]])] ?_
    refine RegJ.op (Op1.valk (v := vi y11.2) _ _ (cy (IG 88 (.mov (.t 9)) 87 true)) rfl (by kernel_rfl) (fun hg => (.cons rfl .nil))) ?_
    refine RegJ.op (Op1.valk (v := vb (y11.2 == (0 : Int))) _ _ (cy (IG 89 (.bin .eql false (.t 88) (.c (.p (.int .i64 0)))) 87 true)) rfl (by kernel_rfl) (fun hg => (.cons hg (.cons rfl .nil)))) ?_
    refine RegJ.op (Op1.and (cy (I0 90 (.pick (.t 87) (.t 89) (.c (.p (.bool false)))))) rfl rfl (by first | exact hokA1 | exact hokA0 | simp)) ?_
    refine jq 1 [(6, vb ((((y6.1 == y12) && (y11.1 == y12)) && (y6.2 == (0 : Int))) && (y11.2 == (0 : Int))))] [some (.row 3 [.agg [eS 1 vi a2.Match, eS 1 vi a2.Cover.a0, eS 1 vi a2.Cover.a1]])] ?_
    refine TriE.ret ?_
    have h := Option.some.inj h
    subst h
    exact DoneS.ret (S' := ⟨[(6, vb ((((y6.1 == y12) && (y11.1 == y12)) && (y6.2 == (0 : Int))) && (y11.2 == (0 : Int))))], []⟩) (sc [] (by decide) (by kernel_rfl) ObRen.nil rfl rfl) rfl rfl
  have h := cond_f h c3
  refine TriE.skip ?_
  refine sj ?_
  refine rn 4 [(0, eS 2 eWantedPart a0), (1, eS 2 eOfferedPart a1), (5, .ptr 0 0 0), (7, vi y6.2), (8, vi y6.1), (9, vi y11.2), (10, vi y11.1), (92, eS 2 eWantedPart a0), (93, eS 2 eOfferedPart a1), (95, eS 1 vi a2.Match)] [some (.row 3 [.agg [eS 1 vi a2.Match, eS 1 vi a2.Cover.a0, eS 1 vi a2.Cover.a1]])] ?_
  obtain ⟨y13, hy13, h⟩ := bind_some h
  refine RegJ.op (Op1.call (y' := .tup [vi y13.2, vi y13.1]) (obx := []) (oby := []) (ob2 := [some (.row 3 [.agg [eS 1 vi a2.Match, eS 1 vi a2.Cover.a0, eS 1 vi a2.Cover.a1]])]) _ _ (cy (I0 96 (.call 63 [(.t 92), (.t 93), (.t 95)]))) rfl (agrafferef08_CheckMatch_ok n a0 a1 a2.Match y13 hy13) [] (by kernel_rfl) (.cons rfl (.cons rfl (.cons rfl (.cons rfl .nil)))) (by kernel_rfl) (by kernel_rfl) ObsRen.nil (by kernel_rfl) ObsRen.nil (by kernel_rfl)) ?_
  refine jq 5 [(0, eS 2 eWantedPart a0), (1, eS 2 eOfferedPart a1), (5, .ptr 0 0 0), (7, vi y6.2), (8, vi y6.1), (9, vi y11.2), (10, vi y11.1), (12, vi y13.2), (13, vi y13.1)] [some (.row 3 [.agg [eS 1 vi a2.Match, eS 1 vi a2.Cover.a0, eS 1 vi a2.Cover.a1]])] ?_
  refine sj ?_
  refine rn 4 [(7, vi y6.2), (8, vi y6.1), (9, vi y11.2), (10, vi y11.1), (12, vi y13.2), (13, vi y13.1), (100, eS 2 eWantedPart a0), (101, eS 2 eOfferedPart a1), (103, .agg [eS 1 vi a2.Cover.a0, eS 1 vi a2.Cover.a1])] [some (.row 3 [.agg [eS 1 vi a2.Match, eS 1 vi a2.Cover.a0, eS 1 vi a2.Cover.a1]])] ?_
  obtain ⟨y14, hy14, h⟩ := bind_some h
  refine RegJ.op (Op1.call (y' := .tup [vi y14.2, vi y14.1]) (obx := []) (oby := []) (ob2 := [some (.row 3 [.agg [eS 1 vi a2.Match, eS 1 vi a2.Cover.a0, eS 1 vi a2.Cover.a1]])]) _ _ (cy (I0 104 (.call 64 [(.t 100), (.t 101), (.t 103)]))) rfl (agrafferef08_CheckCover_ok n a0 a1 a2.Cover y14 hy14) [] (by kernel_rfl) (.cons rfl (.cons rfl (.cons rfl (.cons rfl .nil)))) (by kernel_rfl) (by kernel_rfl) ObsRen.nil (by kernel_rfl) ObsRen.nil (by kernel_rfl)) ?_
  refine jq 5 [(7, vi y6.2), (8, vi y6.1), (9, vi y11.2), (10, vi y11.1), (12, vi y13.2), (13, vi y13.1), (14, vi y14.2), (15, vi y14.1)] [some (.row 3 [.agg [eS 1 vi a2.Match, eS 1 vi a2.Cover.a0, eS 1 vi a2.Cover.a1]])] ?_
  refine sj ?_
  refine rn 4 [(7, vi y6.2), (9, vi y11.2), (10, vi y11.1), (12, vi y13.2), (13, vi y13.1), (14, vi y14.2), (15, vi y14.1), (110, vb (y6.1 == y13.1))] [some (.row 3 [.agg [eS 1 vi a2.Match, eS 1 vi a2.Cover.a0, eS 1 vi a2.Cover.a1]])] ?_
  refine RegJ.op (Op1.valk (v := vi y6.2) _ _ (cy (IG 111 (.mov (.t 7)) 110 true)) rfl (by kernel_rfl) (fun hg => (.cons rfl .nil))) ?_
  refine RegJ.op (Op1.valk (v := vi y13.2) _ _ (cy (IG 112 (.mov (.t 12)) 110 true)) rfl (by kernel_rfl) (fun hg => (.cons rfl .nil))) ?_
  refine RegJ.op (Op1.valk (v := vb (y6.2 == y13.2)) _ _ (cy (IG 113 (.bin .eql false (.t 111) (.t 112)) 110 true)) rfl (by kernel_rfl) (fun hg => (.cons hg (.cons hg .nil)))) ?_
  refine RegJ.op (Op1.and (cy (I0 114 (.pick (.t 110) (.t 113) (.c (.p (.bool false)))))) rfl rfl (by first | exact hokA1 | exact hokA0 | simp)) ?_
  refine rn 1 [(7, vi y6.2), (9, vi y11.2), (10, vi y11.1), (13, vi y13.1), (14, vi y14.2), (15, vi y14.1), (115, vb ((y6.1 == y13.1) && (y6.2 == y13.2)))] [some (.row 3 [.agg [eS 1 vi a2.Match, eS 1 vi a2.Cover.a0, eS 1 vi a2.Cover.a1]])] ?_
  refine RegJ.op (Op1.valk (v := vi y11.1) _ _ (cy (IG 116 (.mov (.t 10)) 115 true)) rfl (by kernel_rfl) (fun hg => (.cons rfl .nil))) ?_
  refine RegJ.op (Op1.valk (v := vi y14.1) _ _ (cy (IG 117 (.mov (.t 15)) 115 true)) rfl (by kernel_rfl) (fun hg => (.cons rfl .nil))) ?_
  refine RegJ.op (Op1.valk (v := vb (y11.1 == y14.1)) _ _ (cy (IG 118 (.bin .eql false (.t 116) (.t 117)) 115 true)) rfl (by kernel_rfl) (fun hg => (.cons hg (.cons hg .nil)))) ?_
  refine RegJ.op (Op1.and (cy (I0 119 (.pick (.t 115) (.t 118) (.c (.p (.bool false)))))) rfl rfl (by first | exact hokA1 | exact hokA0 | simp)) ?_
  refine rn 1 [(7, vi y6.2), (9, vi y11.2), (13, vi y13.1), (14, vi y14.2), (15, vi y14.1), (120, vb (((y6.1 == y13.1) && (y6.2 == y13.2)) && (y11.1 == y14.1)))] [some (.row 3 [.agg [eS 1 vi a2.Match, eS 1 vi a2.Cover.a0, eS 1 vi a2.Cover.a1]])] ?_
  refine RegJ.op (Op1.valk (v := vi y11.2) _ _ (cy (IG 121 (.mov (.t 9)) 120 true)) rfl (by kernel_rfl) (fun hg => (.cons rfl .nil))) ?_
  refine RegJ.op (Op1.valk (v := vi y14.2) _ _ (cy (IG 122 (.mov (.t 14)) 120 true)) rfl (by kernel_rfl) (fun hg => (.cons rfl .nil))) ?_
  refine RegJ.op (Op1.valk (v := vb (y11.2 == y14.2)) _ _ (cy (IG 123 (.bin .eql false (.t 121) (.t 122)) 120 true)) rfl (by kernel_rfl) (fun hg => (.cons hg (.cons hg .nil)))) ?_
  refine RegJ.op (Op1.and (cy (I0 124 (.pick (.t 120) (.t 123) (.c (.p (.bool false)))))) rfl rfl (by first | exact hokA1 | exact hokA0 | simp)) ?_
  refine rn 1 [(7, vi y6.2), (9, vi y11.2), (13, vi y13.1), (15, vi y14.1), (125, vb ((((y6.1 == y13.1) && (y6.2 == y13.2)) && (y11.1 == y14.1)) && (y11.2 == y14.2)))] [some (.row 3 [.agg [eS 1 vi a2.Match, eS 1 vi a2.Cover.a0, eS 1 vi a2.Cover.a1]])] ?_
  refine RegJ.op (Op1.valk (v := vi y13.1) _ _ (cy (IG 126 (.mov (.t 13)) 125 true)) rfl (by kernel_rfl) (fun hg => (.cons rfl .nil))) ?_
  refine RegJ.op (Op1.valk (v := vb (y13.1 != (0 : Int))) _ _ (cy (IG 127 (.bin .neq false (.t 126) (.c (.p (.int .i64 0)))) 125 true)) rfl (by kernel_rfl) (fun hg => (.cons hg (.cons rfl .nil)))) ?_
  refine RegJ.op (Op1.valk (v := vb (y13.1 != (0 : Int))) _ _ (cy (IG 128 (.mov (.t 127)) 125 true)) rfl (by kernel_rfl) (fun hg => (.cons hg .nil))) ?_
  refine RegJ.op (Op1.valk (v := vi y14.1) _ _ (cy (IG 129 (.mov (.t 15)) 128 false)) rfl (by kernel_rfl) (fun hg => (.cons rfl .nil))) ?_
  refine RegJ.op (Op1.valk (v := vb (y14.1 != (0 : Int))) _ _ (cy (IG 130 (.bin .neq false (.t 129) (.c (.p (.int .i64 0)))) 128 false)) rfl (by kernel_rfl) (fun hg => (.cons hg (.cons rfl .nil)))) ?_
  refine RegJ.op (Op1.org (g := (((y6.1 == y13.1) && (y6.2 == y13.2)) && (y11.1 == y14.1)) && (y11.2 == y14.2)) (cy (IG 131 (.pick (.t 128) (.c (.p (.bool true))) (.t 130)) 125 true)) rfl rfl rfl (fun hg => by first | exact hokO2 hg | exact hokO3 hg | exact hokO1 | exact hokO0 | (rw [hg]; simp) | simp_all)) ?_
  refine RegJ.op (Op1.valk (v := vb ((y13.1 != (0 : Int)) || (y14.1 != (0 : Int)))) _ _ (cy (IG 132 (.mov (.t 131)) 125 true)) rfl (by kernel_rfl) (fun hg => (.cons hg .nil))) ?_
  refine RegJ.op (Op1.valk (v := vi y6.2) _ _ (cy (IG 133 (.mov (.t 7)) 132 false)) rfl (by kernel_rfl) (fun hg => (.cons rfl .nil))) ?_
  refine RegJ.op (Op1.valk (v := vi y11.2) _ _ (cy (IG 134 (.mov (.t 9)) 132 false)) rfl (by kernel_rfl) (fun hg => (.cons rfl .nil))) ?_
  refine RegJ.op (Op1.valk (v := vb (decide (y6.2 ≤ y11.2))) _ _ (cy (IG 135 (.bin .leq false (.t 133) (.t 134)) 132 false)) rfl (by kernel_rfl) (fun hg => (.cons hg (.cons hg .nil)))) ?_
  refine RegJ.op (Op1.org (g := (((y6.1 == y13.1) && (y6.2 == y13.2)) && (y11.1 == y14.1)) && (y11.2 == y14.2)) (cy (IG 136 (.pick (.t 132) (.c (.p (.bool true))) (.t 135)) 125 true)) rfl rfl rfl (fun hg => by first | exact hokO2 hg | exact hokO3 hg | exact hokO1 | exact hokO0 | (rw [hg]; simp) | simp_all)) ?_
  refine RegJ.op (Op1.and (cy (I0 137 (.pick (.t 125) (.t 136) (.c (.p (.bool false)))))) rfl rfl (by first | exact hokA1 | exact hokA0 | simp)) ?_
  refine jq 1 [(6, vb (((((y6.1 == y13.1) && (y6.2 == y13.2)) && (y11.1 == y14.1)) && (y11.2 == y14.2)) && (((y13.1 != (0 : Int)) || (y14.1 != (0 : Int))) || (decide (y6.2 ≤ y11.2)))))] [some (.row 3 [.agg [eS 1 vi a2.Match, eS 1 vi a2.Cover.a0, eS 1 vi a2.Cover.a1]])] ?_
  refine TriE.ret ?_
  have h := Option.some.inj h
  subst h
  exact DoneS.ret (S' := ⟨[(6, vb (((((y6.1 == y13.1) && (y6.2 == y13.2)) && (y11.1 == y14.1)) && (y11.2 == y14.2)) && (((y13.1 != (0 : Int)) || (y14.1 != (0 : Int))) || (decide (y6.2 ≤ y11.2)))))], []⟩) (sc [] (by decide) (by kernel_rfl) ObRen.nil rfl rfl) rfl rfl
end Go.Proofs.YtcdcpambkdlhjaaGreat.As
