/- The code computes what the plain functions say, part 2: no condition. -/
import Derived.Test.YtcdcpambkdlhjaaGreatWalk1
namespace Go.Proofs.YtcdcpambkdlhjaaGreat.As
open Go Go.Proofs
set_option maxRecDepth 4000
theorem agrafferef08_task_ok (n : Nat) (a0 : List Task) (a1 : Int) (r : Int) (h : agrafferef08_task n a0 a1 = some r) : FnL Tryz.prog 88 [eS 6 eTask a0, vi a1] [] (vi r) [] := by
  dsimp only [agrafferef08_task] at h
  refine FnL.ofS (ts := [4]) Tryz.call88 Tryz.func88 rfl rfl (Nat.le_of_ble_eq_true rfl) (Nat.le_of_ble_eq_true rfl) (fun j h => absurd h (Nat.not_lt_zero j)) ?_
  refine sr [(0, eS 6 eTask a0), (1, vi a1)] [] ?_
  refine sj ?_
  refine rn 2 [(0, eS 6 eTask a0), (1, vi a1), (11, eS 6 eTask a0), (12, vi a1)] [] ?_
  obtain ⟨c1, h⟩ := chk_some h
  refine jv (.fptr 6 (List.map eTask a0) a1.toNat 0) (cy (I0 13 (.iaddr 6 (.t 11) (.t 12)))) (ok_iaddr_m (j := a1.toNat) rfl rfl (inB_to c1) (inB_lt c1)) rfl ?_
  obtain ⟨c2, h⟩ := chk_some h
  refine jv (.agg [vt ((ix a0 a1.toNat).Name), vi ((ix a0 a1.toNat).Cents), vi ((ix a0 a1.toNat).Hours), eS 1 vt ((ix a0 a1.toNat).Needs), eS 1 (eS 1 vt) ((ix a0 a1.toNat).OneOf), eS 2 ePartCount ((ix a0 a1.toNat).Parts)]) (cy (I0 14 (.load true 6 (.t 13)))) (ok_load_fm (v := .agg [vt ((ix a0 a1.toNat).Name), vi ((ix a0 a1.toNat).Cents), vi ((ix a0 a1.toNat).Hours), eS 1 vt ((ix a0 a1.toNat).Needs), eS 1 (eS 1 vt) ((ix a0 a1.toNat).OneOf), eS 2 ePartCount ((ix a0 a1.toNat).Parts)]) rfl c2 rfl) rfl ?_
  refine jq 2 [(0, eS 6 eTask a0), (1, vi a1), (5, .ptr 0 0 0)] [some (.row 6 [.agg [vt ((ix a0 a1.toNat).Name), vi ((ix a0 a1.toNat).Cents), vi ((ix a0 a1.toNat).Hours), eS 1 vt ((ix a0 a1.toNat).Needs), eS 1 (eS 1 vt) ((ix a0 a1.toNat).OneOf), eS 2 ePartCount ((ix a0 a1.toNat).Parts)]])] ?_
  refine TriE.seq ?_
  refine sj ?_
  refine rn 2 [(0, eS 6 eTask a0), (1, vi a1), (5, .ptr 0 0 0), (16, vt ((ix a0 a1.toNat).Name))] [some (.row 6 [.agg [vt ((ix a0 a1.toNat).Name), vi ((ix a0 a1.toNat).Cents), vi ((ix a0 a1.toNat).Hours), eS 1 vt ((ix a0 a1.toNat).Needs), eS 1 (eS 1 vt) ((ix a0 a1.toNat).OneOf), eS 2 ePartCount ((ix a0 a1.toNat).Parts)]])] ?_
  obtain ⟨y1, hy1, h⟩ := bind_some h
  refine RegJ.op (Op1.call (y' := vb y1) (obx := []) (oby := []) (ob2 := [some (.row 6 [.agg [vt ((ix a0 a1.toNat).Name), vi ((ix a0 a1.toNat).Cents), vi ((ix a0 a1.toNat).Hours), eS 1 vt ((ix a0 a1.toNat).Needs), eS 1 (eS 1 vt) ((ix a0 a1.toNat).OneOf), eS 2 ePartCount ((ix a0 a1.toNat).Parts)]])]) _ _ (cy (I0 17 (.call 92 [(.t 16)]))) rfl (agraffebase_IsName_ok n ((ix a0 a1.toNat).Name) y1 hy1) [] (by kernel_rfl) (.cons rfl (.cons rfl .nil)) (by kernel_rfl) (by kernel_rfl) ObsRen.nil (by kernel_rfl) ObsRen.nil (by kernel_rfl)) ?_
  refine jq 1 [(0, eS 6 eTask a0), (1, vi a1), (5, .ptr 0 0 0), (18, vb (!y1))] [some (.row 6 [.agg [vt ((ix a0 a1.toNat).Name), vi ((ix a0 a1.toNat).Cents), vi ((ix a0 a1.toNat).Hours), eS 1 vt ((ix a0 a1.toNat).Needs), eS 1 (eS 1 vt) ((ix a0 a1.toNat).OneOf), eS 2 ePartCount ((ix a0 a1.toNat).Parts)]])] ?_
  refine TriE.cond (b := !y1) rfl (fun c3 => ?_) (fun c3 => ?_)
  · have h := cond_t h c3
    refine sr [(4, vi 4)] [some (.row 6 [.agg [vt ((ix a0 a1.toNat).Name), vi ((ix a0 a1.toNat).Cents), vi ((ix a0 a1.toNat).Hours), eS 1 vt ((ix a0 a1.toNat).Needs), eS 1 (eS 1 vt) ((ix a0 a1.toNat).OneOf), eS 2 ePartCount ((ix a0 a1.toNat).Parts)]])] ?_
    refine TriE.ret ?_
    have h := Option.some.inj h
    subst h
    exact DoneS.ret (S' := ⟨[(4, vi 4)], []⟩) (sc [] (by decide) (by kernel_rfl) ObRen.nil rfl rfl) rfl rfl
  have h := cond_f h c3
  refine TriE.skip ?_
  refine TriE.seq ?_
  refine TriE.seq ?_
  refine TriE.sees (Sees.less (fr' := [(0, eS 6 eTask a0), (1, vi a1), (5, .ptr 0 0 0)]) (.cons rfl (.cons rfl (.cons rfl .nil)))) ?_
  refine TriE.draw (by kernel_rfl) ?_
  refine RegD.run 2 [(20, vi a1), (19, eS 6 eTask a0), (0, eS 6 eTask a0), (1, vi a1), (5, .ptr 0 0 0)] [some (.row 6 [.agg [vt ((ix a0 a1.toNat).Name), vi ((ix a0 a1.toNat).Cents), vi ((ix a0 a1.toNat).Hours), eS 1 vt ((ix a0 a1.toNat).Needs), eS 1 (eS 1 vt) ((ix a0 a1.toNat).OneOf), eS 2 ePartCount ((ix a0 a1.toNat).Parts)]]), none, none] (by kernel_rfl) ?_
  obtain ⟨c4, h⟩ := chk_some h
  refine dv (eS 6 eTask (List.take a1.toNat a0)) (cy (I0 21 (.slc 6 (.t 19) none (some (.t 20)) none))) (ok_slc_hi (j := a1.toNat) rfl rfl (inC_to c4) (inC_le c4)) rfl ?_
  refine RegD.run 2 [(23, vt ((ix a0 a1.toNat).Name)), (22, .ptr 0 0 0), (21, eS 6 eTask (List.take a1.toNat a0)), (20, vi a1), (19, eS 6 eTask a0), (0, eS 6 eTask a0), (1, vi a1), (5, .ptr 0 0 0)] [some (.row 6 [.agg [vt ((ix a0 a1.toNat).Name), vi ((ix a0 a1.toNat).Cents), vi ((ix a0 a1.toNat).Hours), eS 1 vt ((ix a0 a1.toNat).Needs), eS 1 (eS 1 vt) ((ix a0 a1.toNat).OneOf), eS 2 ePartCount ((ix a0 a1.toNat).Parts)]]), none, none, none, none, none] (by kernel_rfl) ?_
  obtain ⟨y2, hy2, h⟩ := bind_some h
  refine RegD.op (OpD.call (y' := vi y2) (obx := []) (oby := []) (ob2 := [some (.row 6 [.agg [vt ((ix a0 a1.toNat).Name), vi ((ix a0 a1.toNat).Cents), vi ((ix a0 a1.toNat).Hours), eS 1 vt ((ix a0 a1.toNat).Needs), eS 1 (eS 1 vt) ((ix a0 a1.toNat).OneOf), eS 2 ePartCount ((ix a0 a1.toNat).Parts)]]), none, none, none, none, none, none]) (tch := []) 0 _ _ (cy (I0 24 (.call 73 [(.t 21), (.t 23)]))) (agrafferef08_Find_ok n (List.take a1.toNat a0) ((ix a0 a1.toNat).Name) y2 hy2) [] (by kernel_rfl) (.cons rfl (.cons rfl (.cons rfl .nil))) (by kernel_rfl) (by kernel_rfl) ObsRen.nil (by kernel_rfl) ObsRen.nil (by kernel_rfl) rfl (.inr ⟨rfl, rfl⟩)) ?_
  refine RegD.run 1 [(25, vb (decide ((0 : Int) ≤ y2))), (24, vi y2), (23, vt ((ix a0 a1.toNat).Name)), (22, .ptr 0 0 0), (21, eS 6 eTask (List.take a1.toNat a0)), (20, vi a1), (19, eS 6 eTask a0), (0, eS 6 eTask a0), (1, vi a1), (5, .ptr 0 0 0)] [some (.row 6 [.agg [vt ((ix a0 a1.toNat).Name), vi ((ix a0 a1.toNat).Cents), vi ((ix a0 a1.toNat).Hours), eS 1 vt ((ix a0 a1.toNat).Needs), eS 1 (eS 1 vt) ((ix a0 a1.toNat).OneOf), eS 2 ePartCount ((ix a0 a1.toNat).Parts)]]), none, none, none, none, none, none, none] (by kernel_rfl) ?_
  refine RegD.done rfl (by kernel_rfl) (S' := ⟨[(0, eS 6 eTask a0), (5, .ptr 0 0 0), (25, vb (decide ((0 : Int) ≤ y2)))], [some (.row 6 [.agg [vt ((ix a0 a1.toNat).Name), vi ((ix a0 a1.toNat).Cents), vi ((ix a0 a1.toNat).Hours), eS 1 vt ((ix a0 a1.toNat).Needs), eS 1 (eS 1 vt) ((ix a0 a1.toNat).OneOf), eS 2 ePartCount ((ix a0 a1.toNat).Parts)]])]⟩) (sc [0] (by decide) (by kernel_rfl) (.cons rfl .nil) rfl rfl) ?_
  refine TriE.cond (b := decide ((0 : Int) ≤ y2)) rfl (fun c5 => ?_) (fun c5 => ?_)
  · have h := cond_t h c5
    refine sr [(4, vi 5)] [some (.row 6 [.agg [vt ((ix a0 a1.toNat).Name), vi ((ix a0 a1.toNat).Cents), vi ((ix a0 a1.toNat).Hours), eS 1 vt ((ix a0 a1.toNat).Needs), eS 1 (eS 1 vt) ((ix a0 a1.toNat).OneOf), eS 2 ePartCount ((ix a0 a1.toNat).Parts)]])] ?_
    refine TriE.ret ?_
    have h := Option.some.inj h
    subst h
    exact DoneS.ret (S' := ⟨[(4, vi 5)], []⟩) (sc [] (by decide) (by kernel_rfl) ObRen.nil rfl rfl) rfl rfl
  have h := cond_f h c5
  refine TriE.skip ?_
  refine TriE.seq ?_
  refine sj ?_
  refine rn 2 [(0, eS 6 eTask a0), (5, .ptr 0 0 0), (27, vi ((ix a0 a1.toNat).Cents))] [some (.row 6 [.agg [vt ((ix a0 a1.toNat).Name), vi ((ix a0 a1.toNat).Cents), vi ((ix a0 a1.toNat).Hours), eS 1 vt ((ix a0 a1.toNat).Needs), eS 1 (eS 1 vt) ((ix a0 a1.toNat).OneOf), eS 2 ePartCount ((ix a0 a1.toNat).Parts)]])] ?_
  obtain ⟨y3, hy3, h⟩ := bind_some h
  refine RegJ.op (Op1.call (y' := vb ((decide (0 ≤ ((ix a0 a1.toNat).Cents))) && (decide (((ix a0 a1.toNat).Cents) ≤ 1000000000)))) (obx := []) (oby := []) (ob2 := [some (.row 6 [.agg [vt ((ix a0 a1.toNat).Name), vi ((ix a0 a1.toNat).Cents), vi ((ix a0 a1.toNat).Hours), eS 1 vt ((ix a0 a1.toNat).Needs), eS 1 (eS 1 vt) ((ix a0 a1.toNat).OneOf), eS 2 ePartCount ((ix a0 a1.toNat).Parts)]])]) _ _ (cy (I0 28 (.call 93 [(.t 27), (.c (.p (.int .i64 0))), (.c (.p (.int .i64 1000000000)))]))) rfl (agraffebase_Within_ok n ((ix a0 a1.toNat).Cents) 0 1000000000 y3 hy3) [] (by kernel_rfl) (.cons rfl (.cons rfl (.cons rfl (.cons rfl .nil)))) (by kernel_rfl) (by kernel_rfl) ObsRen.nil (by kernel_rfl) ObsRen.nil (by kernel_rfl)) ?_
  refine rn 2 [(0, eS 6 eTask a0), (5, .ptr 0 0 0), (30, vb (!((decide (0 ≤ ((ix a0 a1.toNat).Cents))) && (decide (((ix a0 a1.toNat).Cents) ≤ 1000000000)))))] [some (.row 6 [.agg [vt ((ix a0 a1.toNat).Name), vi ((ix a0 a1.toNat).Cents), vi ((ix a0 a1.toNat).Hours), eS 1 vt ((ix a0 a1.toNat).Needs), eS 1 (eS 1 vt) ((ix a0 a1.toNat).OneOf), eS 2 ePartCount ((ix a0 a1.toNat).Parts)]])] ?_
  refine RegJ.op (Op1.valk (v := .ptr 0 0 2) _ _ (cy (IG 31 (.faddr 2 (.t 5)) 30 false)) rfl (by kernel_rfl) (fun hg => (.cons rfl .nil))) ?_
  refine RegJ.op (Op1.valk (v := vi ((ix a0 a1.toNat).Hours)) _ _ (cy (IG 32 (.load false 1 (.t 31)) 30 false)) rfl (by kernel_rfl) (fun hg => (.cons hg .nil))) ?_
  obtain ⟨y4, hy4, h⟩ := bind_some h
  refine RegJ.op (Op1.callg (g := !(!((decide (0 ≤ ((ix a0 a1.toNat).Cents))) && (decide (((ix a0 a1.toNat).Cents) ≤ 1000000000))))) (y' := vb ((decide (0 ≤ ((ix a0 a1.toNat).Hours))) && (decide (((ix a0 a1.toNat).Hours) ≤ 10000)))) (obx := []) _ _ (cy (IG 33 (.call 93 [(.t 32), (.c (.p (.int .i64 0))), (.c (.p (.int .i64 10000)))]) 30 false)) rfl (fun hg => agraffebase_Within_ok n ((ix a0 a1.toNat).Hours) 0 10000 y4 (gcall_some hy4 hg)) [] (fun hg => by kernel_rfl) (fun hg => (.cons rfl (.cons hg (.cons rfl (.cons rfl .nil))))) (by kernel_rfl) (by kernel_rfl) ObsRen.nil (by kernel_rfl) (by kernel_rfl)) ?_
  refine RegJ.op (Op1.valk (v := vb (!((decide (0 ≤ ((ix a0 a1.toNat).Hours))) && (decide (((ix a0 a1.toNat).Hours) ≤ 10000))))) _ _ (cy (IG 34 (.un .not (.t 33)) 30 false)) rfl (by kernel_rfl) (fun hg => (.cons hg .nil))) ?_
  refine RegJ.op (Op1.or (cy (I0 35 (.pick (.t 30) (.c (.p (.bool true))) (.t 34)))) rfl rfl (by first | exact hokO1 | exact hokO0 | simp)) ?_
  refine jp [(0, eS 6 eTask a0), (5, .ptr 0 0 0), (35, vb ((!((decide (0 ≤ ((ix a0 a1.toNat).Cents))) && (decide (((ix a0 a1.toNat).Cents) ≤ 1000000000)))) || (!((decide (0 ≤ ((ix a0 a1.toNat).Hours))) && (decide (((ix a0 a1.toNat).Hours) ≤ 10000))))))] ?_
  refine TriE.cond (b := (!((decide (0 ≤ ((ix a0 a1.toNat).Cents))) && (decide (((ix a0 a1.toNat).Cents) ≤ 1000000000)))) || (!((decide (0 ≤ ((ix a0 a1.toNat).Hours))) && (decide (((ix a0 a1.toNat).Hours) ≤ 10000))))) rfl (fun c6 => ?_) (fun c6 => ?_)
  · have h := cond_t h c6
    refine sr [(4, vi 2)] [some (.row 6 [.agg [vt ((ix a0 a1.toNat).Name), vi ((ix a0 a1.toNat).Cents), vi ((ix a0 a1.toNat).Hours), eS 1 vt ((ix a0 a1.toNat).Needs), eS 1 (eS 1 vt) ((ix a0 a1.toNat).OneOf), eS 2 ePartCount ((ix a0 a1.toNat).Parts)]])] ?_
    refine TriE.ret ?_
    have h := Option.some.inj h
    subst h
    exact DoneS.ret (S' := ⟨[(4, vi 2)], []⟩) (sc [] (by decide) (by kernel_rfl) ObRen.nil rfl rfl) rfl rfl
  have h := cond_f h c6
  refine TriE.skip ?_
  refine sj ?_
  refine rn 2 [(0, eS 6 eTask a0), (5, .ptr 0 0 0), (37, eS 1 vt ((ix a0 a1.toNat).Needs))] [some (.row 6 [.agg [vt ((ix a0 a1.toNat).Name), vi ((ix a0 a1.toNat).Cents), vi ((ix a0 a1.toNat).Hours), eS 1 vt ((ix a0 a1.toNat).Needs), eS 1 (eS 1 vt) ((ix a0 a1.toNat).OneOf), eS 2 ePartCount ((ix a0 a1.toNat).Parts)]])] ?_
  refine jv (vi ((((ix a0 a1.toNat).Needs).length : Nat) : Int)) (cy (I0 38 (.len 0 (.t 37)))) (ok_len_m rfl) rfl ?_
  refine jv (vb (decide (10 < (((ix a0 a1.toNat).Needs).length)))) (cy (I0 39 (.bin .gtr false (.t 38) (.c (.p (.int .i64 10)))))) (n_gtr (i := ((ix a0 a1.toNat).Needs).length) (j := 10) rfl rfl) rfl ?_
  refine rn 1 [(0, eS 6 eTask a0), (5, .ptr 0 0 0), (40, vb (decide (10 < (((ix a0 a1.toNat).Needs).length))))] [some (.row 6 [.agg [vt ((ix a0 a1.toNat).Name), vi ((ix a0 a1.toNat).Cents), vi ((ix a0 a1.toNat).Hours), eS 1 vt ((ix a0 a1.toNat).Needs), eS 1 (eS 1 vt) ((ix a0 a1.toNat).OneOf), eS 2 ePartCount ((ix a0 a1.toNat).Parts)]])] ?_
  refine RegJ.op (Op1.valk (v := .ptr 0 0 4) _ _ (cy (IG 41 (.faddr 4 (.t 5)) 40 false)) rfl (by kernel_rfl) (fun hg => (.cons rfl .nil))) ?_
  refine RegJ.op (Op1.valk (v := eS 1 (eS 1 vt) ((ix a0 a1.toNat).OneOf)) _ _ (cy (IG 42 (.load false 1 (.t 41)) 40 false)) rfl (by kernel_rfl) (fun hg => (.cons hg .nil))) ?_
  refine RegJ.op (Op1.valg (v := vi ((((ix a0 a1.toNat).OneOf).length : Nat) : Int)) _ _ (cy (IG 43 (.len 0 (.t 42)) 40 false)) rfl (fun hg => (ok_len_m rfl)) (fun hg => (.cons hg .nil))) ?_
  refine RegJ.op (Op1.valg (v := vb (decide (6 < (((ix a0 a1.toNat).OneOf).length)))) _ _ (cy (IG 44 (.bin .gtr false (.t 43) (.c (.p (.int .i64 6)))) 40 false)) rfl (fun hg => (n_gtr (i := ((ix a0 a1.toNat).OneOf).length) (j := 6) rfl rfl)) (fun hg => (.cons hg (.cons rfl .nil)))) ?_
  refine RegJ.op (Op1.or (cy (I0 45 (.pick (.t 40) (.c (.p (.bool true))) (.t 44)))) rfl rfl (by first | exact hokO1 | exact hokO0 | simp)) ?_
  refine rn 1 [(0, eS 6 eTask a0), (5, .ptr 0 0 0), (46, vb ((decide (10 < (((ix a0 a1.toNat).Needs).length))) || (decide (6 < (((ix a0 a1.toNat).OneOf).length)))))] [some (.row 6 [.agg [vt ((ix a0 a1.toNat).Name), vi ((ix a0 a1.toNat).Cents), vi ((ix a0 a1.toNat).Hours), eS 1 vt ((ix a0 a1.toNat).Needs), eS 1 (eS 1 vt) ((ix a0 a1.toNat).OneOf), eS 2 ePartCount ((ix a0 a1.toNat).Parts)]])] ?_
  refine RegJ.op (Op1.valk (v := .ptr 0 0 5) _ _ (cy (IG 47 (.faddr 5 (.t 5)) 46 false)) rfl (by kernel_rfl) (fun hg => (.cons rfl .nil))) ?_
  refine RegJ.op (Op1.valk (v := eS 2 ePartCount ((ix a0 a1.toNat).Parts)) _ _ (cy (IG 48 (.load false 1 (.t 47)) 46 false)) rfl (by kernel_rfl) (fun hg => (.cons hg .nil))) ?_
  refine RegJ.op (Op1.valg (v := vi ((((ix a0 a1.toNat).Parts).length : Nat) : Int)) _ _ (cy (IG 49 (.len 0 (.t 48)) 46 false)) rfl (fun hg => (ok_len_m rfl)) (fun hg => (.cons hg .nil))) ?_
  refine RegJ.op (Op1.valg (v := vb (decide (10 < (((ix a0 a1.toNat).Parts).length)))) _ _ (cy (IG 50 (.bin .gtr false (.t 49) (.c (.p (.int .i64 10)))) 46 false)) rfl (fun hg => (n_gtr (i := ((ix a0 a1.toNat).Parts).length) (j := 10) rfl rfl)) (fun hg => (.cons hg (.cons rfl .nil)))) ?_
  refine RegJ.op (Op1.or (cy (I0 51 (.pick (.t 46) (.c (.p (.bool true))) (.t 50)))) rfl rfl (by first | exact hokO1 | exact hokO0 | simp)) ?_
  refine jq 1 [(0, eS 6 eTask a0), (5, .ptr 0 0 0), (6, vb (((decide (10 < (((ix a0 a1.toNat).Needs).length))) || (decide (6 < (((ix a0 a1.toNat).OneOf).length)))) || (decide (10 < (((ix a0 a1.toNat).Parts).length)))))] [some (.row 6 [.agg [vt ((ix a0 a1.toNat).Name), vi ((ix a0 a1.toNat).Cents), vi ((ix a0 a1.toNat).Hours), eS 1 vt ((ix a0 a1.toNat).Needs), eS 1 (eS 1 vt) ((ix a0 a1.toNat).OneOf), eS 2 ePartCount ((ix a0 a1.toNat).Parts)]])] ?_
  refine TriE.seqK h (fun (v7 : Bool) => St.mk [(0, eS 6 eTask a0), (5, .ptr 0 0 0), (6, vb v7)] [some (.row 6 [.agg [vt ((ix a0 a1.toNat).Name), vi ((ix a0 a1.toNat).Cents), vi ((ix a0 a1.toNat).Hours), eS 1 vt ((ix a0 a1.toNat).Needs), eS 1 (eS 1 vt) ((ix a0 a1.toNat).OneOf), eS 2 ePartCount ((ix a0 a1.toNat).Parts)]])]) ?_ ?_
  · rintro v7 h
    refine TriE.seq ?_
    refine sr [(0, eS 6 eTask a0), (5, .ptr 0 0 0), (69, vb v7)] [some (.row 6 [.agg [vt ((ix a0 a1.toNat).Name), vi ((ix a0 a1.toNat).Cents), vi ((ix a0 a1.toNat).Hours), eS 1 vt ((ix a0 a1.toNat).Needs), eS 1 (eS 1 vt) ((ix a0 a1.toNat).OneOf), eS 2 ePartCount ((ix a0 a1.toNat).Parts)]])] ?_
    refine TriE.cond (b := v7) rfl (fun c11 => ?_) (fun c11 => ?_)
    · have h := cond_t h c11
      refine sr [(4, vi 8)] [some (.row 6 [.agg [vt ((ix a0 a1.toNat).Name), vi ((ix a0 a1.toNat).Cents), vi ((ix a0 a1.toNat).Hours), eS 1 vt ((ix a0 a1.toNat).Needs), eS 1 (eS 1 vt) ((ix a0 a1.toNat).OneOf), eS 2 ePartCount ((ix a0 a1.toNat).Parts)]])] ?_
      refine TriE.ret ?_
      have h := Option.some.inj h
      subst h
      exact DoneS.ret (S' := ⟨[(4, vi 8)], []⟩) (sc [] (by decide) (by kernel_rfl) ObRen.nil rfl rfl) rfl rfl
    have h := cond_f h c11
    refine TriE.skip ?_
    refine TriE.seq ?_
    refine sj ?_
    refine rn 3 [(0, eS 6 eTask a0), (5, .ptr 0 0 0), (70, eS 6 eTask a0), (72, eS 1 vt ((ix a0 a1.toNat).Needs))] [some (.row 6 [.agg [vt ((ix a0 a1.toNat).Name), vi ((ix a0 a1.toNat).Cents), vi ((ix a0 a1.toNat).Hours), eS 1 vt ((ix a0 a1.toNat).Needs), eS 1 (eS 1 vt) ((ix a0 a1.toNat).OneOf), eS 2 ePartCount ((ix a0 a1.toNat).Parts)]])] ?_
    obtain ⟨y8, hy8, h⟩ := bind_some h
    refine RegJ.op (Op1.call (y' := vi y8) (obx := []) (oby := []) (ob2 := [some (.row 6 [.agg [vt ((ix a0 a1.toNat).Name), vi ((ix a0 a1.toNat).Cents), vi ((ix a0 a1.toNat).Hours), eS 1 vt ((ix a0 a1.toNat).Needs), eS 1 (eS 1 vt) ((ix a0 a1.toNat).OneOf), eS 2 ePartCount ((ix a0 a1.toNat).Parts)]])]) _ _ (cy (I0 73 (.call 97 [(.t 70), (.t 72)]))) rfl (agrafferef08_tasks_ok n a0 ((ix a0 a1.toNat).Needs) y8 hy8) [] (by kernel_rfl) (.cons rfl (.cons rfl (.cons rfl .nil))) (by kernel_rfl) (by kernel_rfl) ObsRen.nil (by kernel_rfl) ObsRen.nil (by kernel_rfl)) ?_
    refine jq 1 [(0, eS 6 eTask a0), (5, .ptr 0 0 0), (8, vi y8)] [some (.row 6 [.agg [vt ((ix a0 a1.toNat).Name), vi ((ix a0 a1.toNat).Cents), vi ((ix a0 a1.toNat).Hours), eS 1 vt ((ix a0 a1.toNat).Needs), eS 1 (eS 1 vt) ((ix a0 a1.toNat).OneOf), eS 2 ePartCount ((ix a0 a1.toNat).Parts)]])] ?_
    refine sr [(0, eS 6 eTask a0), (5, .ptr 0 0 0), (8, vi y8), (75, vb (y8 != (0 : Int)))] [some (.row 6 [.agg [vt ((ix a0 a1.toNat).Name), vi ((ix a0 a1.toNat).Cents), vi ((ix a0 a1.toNat).Hours), eS 1 vt ((ix a0 a1.toNat).Needs), eS 1 (eS 1 vt) ((ix a0 a1.toNat).OneOf), eS 2 ePartCount ((ix a0 a1.toNat).Parts)]])] ?_
    refine TriE.cond (b := (y8 != (0 : Int))) rfl (fun c12 => ?_) (fun c12 => ?_)
    · have h := cond_t h c12
      refine sr [(4, vi y8)] [some (.row 6 [.agg [vt ((ix a0 a1.toNat).Name), vi ((ix a0 a1.toNat).Cents), vi ((ix a0 a1.toNat).Hours), eS 1 vt ((ix a0 a1.toNat).Needs), eS 1 (eS 1 vt) ((ix a0 a1.toNat).OneOf), eS 2 ePartCount ((ix a0 a1.toNat).Parts)]])] ?_
      refine TriE.ret ?_
      have h := Option.some.inj h
      subst h
      exact DoneS.ret (S' := ⟨[(4, vi y8)], []⟩) (sc [] (by decide) (by kernel_rfl) ObRen.nil rfl rfl) rfl rfl
    have h := cond_f h c12
    refine TriE.skip ?_
    refine TriE.seqK h (fun (_ : Unit) => St.mk [(5, .ptr 0 0 0)] [some (.row 6 [.agg [vt ((ix a0 a1.toNat).Name), vi ((ix a0 a1.toNat).Cents), vi ((ix a0 a1.toNat).Hours), eS 1 vt ((ix a0 a1.toNat).Needs), eS 1 (eS 1 vt) ((ix a0 a1.toNat).OneOf), eS 2 ePartCount ((ix a0 a1.toNat).Parts)]])]) ?_ ?_
    · rintro ⟨⟩ h
      refine sj ?_
      refine rn 2 [(102, eS 2 ePartCount ((ix a0 a1.toNat).Parts))] [some (.row 6 [.agg [vt ((ix a0 a1.toNat).Name), vi ((ix a0 a1.toNat).Cents), vi ((ix a0 a1.toNat).Hours), eS 1 vt ((ix a0 a1.toNat).Needs), eS 1 (eS 1 vt) ((ix a0 a1.toNat).OneOf), eS 2 ePartCount ((ix a0 a1.toNat).Parts)]])] ?_
      obtain ⟨y12, hy12, h⟩ := bind_some h
      refine RegJ.op (Op1.call (y' := vi y12) (obx := []) (oby := []) (ob2 := [some (.row 6 [.agg [vt ((ix a0 a1.toNat).Name), vi ((ix a0 a1.toNat).Cents), vi ((ix a0 a1.toNat).Hours), eS 1 vt ((ix a0 a1.toNat).Needs), eS 1 (eS 1 vt) ((ix a0 a1.toNat).OneOf), eS 2 ePartCount ((ix a0 a1.toNat).Parts)]])]) _ _ (cy (I0 103 (.call 110 [(.t 102), (.c (.p (.int .i64 1000)))]))) rfl (agrafferef08_counts_ok n ((ix a0 a1.toNat).Parts) 1000 y12 hy12) [] (by kernel_rfl) (.cons rfl (.cons rfl (.cons rfl .nil))) (by kernel_rfl) (by kernel_rfl) ObsRen.nil (by kernel_rfl) ObsRen.nil (by kernel_rfl)) ?_
      refine jq 1 [(4, vi y12)] [some (.row 6 [.agg [vt ((ix a0 a1.toNat).Name), vi ((ix a0 a1.toNat).Cents), vi ((ix a0 a1.toNat).Hours), eS 1 vt ((ix a0 a1.toNat).Needs), eS 1 (eS 1 vt) ((ix a0 a1.toNat).OneOf), eS 2 ePartCount ((ix a0 a1.toNat).Parts)]])] ?_
      refine TriE.ret ?_
      have h := Option.some.inj h
      subst h
      exact DoneS.ret (S' := ⟨[(4, vi y12)], []⟩) (sc [] (by decide) (by kernel_rfl) ObRen.nil rfl rfl) rfl rfl
    intro k2 h
    refine sr [(0, eS 6 eTask a0), (5, .ptr 0 0 0), (9, vi 0)] [some (.row 6 [.agg [vt ((ix a0 a1.toNat).Name), vi ((ix a0 a1.toNat).Cents), vi ((ix a0 a1.toNat).Hours), eS 1 vt ((ix a0 a1.toNat).Needs), eS 1 (eS 1 vt) ((ix a0 a1.toNat).OneOf), eS 2 ePartCount ((ix a0 a1.toNat).Parts)]])] ?_
    refine TriE.block ?_
    refine TriE.sees (S' := ⟨[(0, eS 6 eTask a0), (5, .ptr 0 0 0), (9, vi 0)], [some (.row 6 [.agg [vt ((ix a0 a1.toNat).Name), vi ((ix a0 a1.toNat).Cents), vi ((ix a0 a1.toNat).Hours), eS 1 vt ((ix a0 a1.toNat).Needs), eS 1 (eS 1 vt) ((ix a0 a1.toNat).OneOf), eS 2 ePartCount ((ix a0 a1.toNat).Parts)]])]⟩) sy ?_
    refine TriE.loopN h (fun (v10 : Nat) => St.mk [(0, eS 6 eTask a0), (5, .ptr 0 0 0), (9, vi v10)] [some (.row 6 [.agg [vt ((ix a0 a1.toNat).Name), vi ((ix a0 a1.toNat).Cents), vi ((ix a0 a1.toNat).Hours), eS 1 vt ((ix a0 a1.toNat).Needs), eS 1 (eS 1 vt) ((ix a0 a1.toNat).OneOf), eS 2 ePartCount ((ix a0 a1.toNat).Parts)]])]) rfl ?_
    clear h
    rintro back v10 h
    dsimp only [agrafferef08_task_L2] at h
    refine TriE.seq ?_
    refine sj ?_
    refine rn 3 [(0, eS 6 eTask a0), (5, .ptr 0 0 0), (9, vi v10), (77, vi v10), (79, eS 1 (eS 1 vt) ((ix a0 a1.toNat).OneOf))] [some (.row 6 [.agg [vt ((ix a0 a1.toNat).Name), vi ((ix a0 a1.toNat).Cents), vi ((ix a0 a1.toNat).Hours), eS 1 vt ((ix a0 a1.toNat).Needs), eS 1 (eS 1 vt) ((ix a0 a1.toNat).OneOf), eS 2 ePartCount ((ix a0 a1.toNat).Parts)]])] ?_
    refine jv (vi ((((ix a0 a1.toNat).OneOf).length : Nat) : Int)) (cy (I0 80 (.len 0 (.t 79)))) (ok_len_m rfl) rfl ?_
    refine jv (vb (decide (v10 < (((ix a0 a1.toNat).OneOf).length)))) (cy (I0 81 (.bin .lss false (.t 77) (.t 80)))) (n_lss (i := v10) (j := ((ix a0 a1.toNat).OneOf).length) rfl rfl) rfl ?_
    refine jp [(0, eS 6 eTask a0), (5, .ptr 0 0 0), (9, vi v10), (81, vb (decide (v10 < (((ix a0 a1.toNat).OneOf).length))))] ?_
    refine TriE.cond (b := decide (v10 < (((ix a0 a1.toNat).OneOf).length))) rfl (fun c13 => ?_) (fun c13 => ?_)
    · have h := cond_t h c13
      refine TriE.skip ?_
      refine TriE.seq ?_
      refine TriE.block ?_
      refine TriE.seq ?_
      refine sj ?_
      refine rn 3 [(0, eS 6 eTask a0), (5, .ptr 0 0 0), (9, vi v10), (85, eS 1 (eS 1 vt) ((ix a0 a1.toNat).OneOf)), (86, vi v10)] [some (.row 6 [.agg [vt ((ix a0 a1.toNat).Name), vi ((ix a0 a1.toNat).Cents), vi ((ix a0 a1.toNat).Hours), eS 1 vt ((ix a0 a1.toNat).Needs), eS 1 (eS 1 vt) ((ix a0 a1.toNat).OneOf), eS 2 ePartCount ((ix a0 a1.toNat).Parts)]])] ?_
      obtain ⟨c14, h⟩ := chk_some h
      refine jv (.fptr 1 (List.map (eS 1 vt) ((ix a0 a1.toNat).OneOf)) v10 0) (cy (I0 87 (.iaddr 1 (.t 85) (.t 86)))) (ok_iaddr_m (j := v10) rfl rfl rfl c14) rfl ?_
      refine jv (eS 1 vt (ix ((ix a0 a1.toNat).OneOf) v10)) (cy (I0 88 (.load false 1 (.t 87)))) (ok_load_fm (v := eS 1 vt (ix ((ix a0 a1.toNat).OneOf) v10)) rfl c14 rfl) rfl ?_
      refine jv (vi (((ix ((ix a0 a1.toNat).OneOf) v10).length : Nat) : Int)) (cy (I0 89 (.len 0 (.t 88)))) (ok_len_m rfl) rfl ?_
      refine jv (vb (decide (((ix ((ix a0 a1.toNat).OneOf) v10).length) = 0))) (cy (I0 90 (.bin .eql false (.t 89) (.c (.p (.int .i64 0)))))) (n_eql (i := (ix ((ix a0 a1.toNat).OneOf) v10).length) (j := 0) rfl rfl) rfl ?_
      refine jp [(0, eS 6 eTask a0), (5, .ptr 0 0 0), (9, vi v10), (90, vb (decide (((ix ((ix a0 a1.toNat).OneOf) v10).length) = 0)))] ?_
      refine TriE.cond (b := decide (((ix ((ix a0 a1.toNat).OneOf) v10).length) = 0)) rfl (fun c15 => ?_) (fun c15 => ?_)
      · have h := cond_t h c15
        refine sr [(4, vi 10)] [some (.row 6 [.agg [vt ((ix a0 a1.toNat).Name), vi ((ix a0 a1.toNat).Cents), vi ((ix a0 a1.toNat).Hours), eS 1 vt ((ix a0 a1.toNat).Needs), eS 1 (eS 1 vt) ((ix a0 a1.toNat).OneOf), eS 2 ePartCount ((ix a0 a1.toNat).Parts)]])] ?_
        refine TriE.ret ?_
        have h := Option.some.inj h
        subst h
        exact DoneS.ret (S' := ⟨[(4, vi 10)], []⟩) (sc [] (by decide) (by kernel_rfl) ObRen.nil rfl rfl) rfl rfl
      have h := cond_f h c15
      refine TriE.skip ?_
      refine sj ?_
      refine rn 4 [(0, eS 6 eTask a0), (5, .ptr 0 0 0), (9, vi v10), (91, eS 6 eTask a0), (93, eS 1 (eS 1 vt) ((ix a0 a1.toNat).OneOf)), (94, vi v10)] [some (.row 6 [.agg [vt ((ix a0 a1.toNat).Name), vi ((ix a0 a1.toNat).Cents), vi ((ix a0 a1.toNat).Hours), eS 1 vt ((ix a0 a1.toNat).Needs), eS 1 (eS 1 vt) ((ix a0 a1.toNat).OneOf), eS 2 ePartCount ((ix a0 a1.toNat).Parts)]])] ?_
      refine jv (.fptr 1 (List.map (eS 1 vt) ((ix a0 a1.toNat).OneOf)) v10 0) (cy (I0 95 (.iaddr 1 (.t 93) (.t 94)))) (ok_iaddr_m (j := v10) rfl rfl rfl c14) rfl ?_
      refine jv (eS 1 vt (ix ((ix a0 a1.toNat).OneOf) v10)) (cy (I0 96 (.load false 1 (.t 95)))) (ok_load_fm (v := eS 1 vt (ix ((ix a0 a1.toNat).OneOf) v10)) rfl c14 rfl) rfl ?_
      obtain ⟨y11, hy11, h⟩ := bind_some h
      refine RegJ.op (Op1.call (y' := vi y11) (obx := []) (oby := []) (ob2 := [some (.row 6 [.agg [vt ((ix a0 a1.toNat).Name), vi ((ix a0 a1.toNat).Cents), vi ((ix a0 a1.toNat).Hours), eS 1 vt ((ix a0 a1.toNat).Needs), eS 1 (eS 1 vt) ((ix a0 a1.toNat).OneOf), eS 2 ePartCount ((ix a0 a1.toNat).Parts)]])]) _ _ (cy (I0 97 (.call 97 [(.t 91), (.t 96)]))) rfl (agrafferef08_tasks_ok n a0 (ix ((ix a0 a1.toNat).OneOf) v10) y11 hy11) [] (by kernel_rfl) (.cons rfl (.cons rfl (.cons rfl .nil))) (by kernel_rfl) (by kernel_rfl) ObsRen.nil (by kernel_rfl) ObsRen.nil (by kernel_rfl)) ?_
      refine jq 1 [(0, eS 6 eTask a0), (5, .ptr 0 0 0), (9, vi v10), (10, vi y11)] [some (.row 6 [.agg [vt ((ix a0 a1.toNat).Name), vi ((ix a0 a1.toNat).Cents), vi ((ix a0 a1.toNat).Hours), eS 1 vt ((ix a0 a1.toNat).Needs), eS 1 (eS 1 vt) ((ix a0 a1.toNat).OneOf), eS 2 ePartCount ((ix a0 a1.toNat).Parts)]])] ?_
      refine sr [(0, eS 6 eTask a0), (5, .ptr 0 0 0), (9, vi v10), (10, vi y11), (99, vb (y11 != (0 : Int)))] [some (.row 6 [.agg [vt ((ix a0 a1.toNat).Name), vi ((ix a0 a1.toNat).Cents), vi ((ix a0 a1.toNat).Hours), eS 1 vt ((ix a0 a1.toNat).Needs), eS 1 (eS 1 vt) ((ix a0 a1.toNat).OneOf), eS 2 ePartCount ((ix a0 a1.toNat).Parts)]])] ?_
      refine TriE.cond (b := (y11 != (0 : Int))) rfl (fun c16 => ?_) (fun c16 => ?_)
      · have h := cond_t h c16
        refine sr [(4, vi y11)] [some (.row 6 [.agg [vt ((ix a0 a1.toNat).Name), vi ((ix a0 a1.toNat).Cents), vi ((ix a0 a1.toNat).Hours), eS 1 vt ((ix a0 a1.toNat).Needs), eS 1 (eS 1 vt) ((ix a0 a1.toNat).OneOf), eS 2 ePartCount ((ix a0 a1.toNat).Parts)]])] ?_
        refine TriE.ret ?_
        have h := Option.some.inj h
        subst h
        exact DoneS.ret (S' := ⟨[(4, vi y11)], []⟩) (sc [] (by decide) (by kernel_rfl) ObRen.nil rfl rfl) rfl rfl
      have h := cond_f h c16
      refine TriE.skip ?_
      refine TriE.regJ ?_
      refine rn 1 [(0, eS 6 eTask a0), (5, .ptr 0 0 0), (82, vi v10)] [some (.row 6 [.agg [vt ((ix a0 a1.toNat).Name), vi ((ix a0 a1.toNat).Cents), vi ((ix a0 a1.toNat).Hours), eS 1 vt ((ix a0 a1.toNat).Needs), eS 1 (eS 1 vt) ((ix a0 a1.toNat).OneOf), eS 2 ePartCount ((ix a0 a1.toNat).Parts)]])] ?_
      obtain ⟨c17, h⟩ := chk_some h
      refine jv (vi ((v10 + 1 : Nat) : Int)) (cy (I0 83 (.bin .add false (.t 82) (.c (.p (.int .i64 1)))))) (r_addn (i := v10) (j := 1) rfl rfl c17) rfl ?_
      refine jq 1 [(0, eS 6 eTask a0), (5, .ptr 0 0 0), (9, vi ((v10 + 1 : Nat) : Int))] [some (.row 6 [.agg [vt ((ix a0 a1.toNat).Name), vi ((ix a0 a1.toNat).Cents), vi ((ix a0 a1.toNat).Hours), eS 1 vt ((ix a0 a1.toNat).Needs), eS 1 (eS 1 vt) ((ix a0 a1.toNat).OneOf), eS 2 ePartCount ((ix a0 a1.toNat).Parts)]])] ?_
      exact Vs.intro sy ⟨(v10 + 1), rfl, h⟩
    have h := cond_f h c13
    refine TriE.exit ?_
    exact Vs.intro sy ⟨(), rfl, h⟩
  intro k1 h
  refine sr [(0, eS 6 eTask a0), (5, .ptr 0 0 0), (6, vb (((decide (10 < (((ix a0 a1.toNat).Needs).length))) || (decide (6 < (((ix a0 a1.toNat).OneOf).length)))) || (decide (10 < (((ix a0 a1.toNat).Parts).length))))), (7, vi 0)] [some (.row 6 [.agg [vt ((ix a0 a1.toNat).Name), vi ((ix a0 a1.toNat).Cents), vi ((ix a0 a1.toNat).Hours), eS 1 vt ((ix a0 a1.toNat).Needs), eS 1 (eS 1 vt) ((ix a0 a1.toNat).OneOf), eS 2 ePartCount ((ix a0 a1.toNat).Parts)]])] ?_
  refine TriE.block ?_
  refine TriE.sees (S' := ⟨[(0, eS 6 eTask a0), (5, .ptr 0 0 0), (6, vb (((decide (10 < (((ix a0 a1.toNat).Needs).length))) || (decide (6 < (((ix a0 a1.toNat).OneOf).length)))) || (decide (10 < (((ix a0 a1.toNat).Parts).length))))), (7, vi 0)], [some (.row 6 [.agg [vt ((ix a0 a1.toNat).Name), vi ((ix a0 a1.toNat).Cents), vi ((ix a0 a1.toNat).Hours), eS 1 vt ((ix a0 a1.toNat).Needs), eS 1 (eS 1 vt) ((ix a0 a1.toNat).OneOf), eS 2 ePartCount ((ix a0 a1.toNat).Parts)]])]⟩) sy ?_
  refine TriE.loopN h (fun (t : Bool × Nat) => match t with | (v5, v6) => St.mk [(0, eS 6 eTask a0), (5, .ptr 0 0 0), (6, vb v5), (7, vi v6)] [some (.row 6 [.agg [vt ((ix a0 a1.toNat).Name), vi ((ix a0 a1.toNat).Cents), vi ((ix a0 a1.toNat).Hours), eS 1 vt ((ix a0 a1.toNat).Needs), eS 1 (eS 1 vt) ((ix a0 a1.toNat).OneOf), eS 2 ePartCount ((ix a0 a1.toNat).Parts)]])]) rfl ?_
  clear h
  rintro back ⟨v5, v6⟩ h
  dsimp only [agrafferef08_task_L1] at h
  refine TriE.seq ?_
  refine sj ?_
  refine rn 3 [(0, eS 6 eTask a0), (5, .ptr 0 0 0), (6, vb v5), (7, vi v6), (52, vi v6), (54, eS 1 (eS 1 vt) ((ix a0 a1.toNat).OneOf))] [some (.row 6 [.agg [vt ((ix a0 a1.toNat).Name), vi ((ix a0 a1.toNat).Cents), vi ((ix a0 a1.toNat).Hours), eS 1 vt ((ix a0 a1.toNat).Needs), eS 1 (eS 1 vt) ((ix a0 a1.toNat).OneOf), eS 2 ePartCount ((ix a0 a1.toNat).Parts)]])] ?_
  refine jv (vi ((((ix a0 a1.toNat).OneOf).length : Nat) : Int)) (cy (I0 55 (.len 0 (.t 54)))) (ok_len_m rfl) rfl ?_
  refine jv (vb (decide (v6 < (((ix a0 a1.toNat).OneOf).length)))) (cy (I0 56 (.bin .lss false (.t 52) (.t 55)))) (n_lss (i := v6) (j := ((ix a0 a1.toNat).OneOf).length) rfl rfl) rfl ?_
  refine jp [(0, eS 6 eTask a0), (5, .ptr 0 0 0), (6, vb v5), (7, vi v6), (56, vb (decide (v6 < (((ix a0 a1.toNat).OneOf).length))))] ?_
  refine TriE.cond (b := decide (v6 < (((ix a0 a1.toNat).OneOf).length))) rfl (fun c7 => ?_) (fun c7 => ?_)
  · have h := cond_t h c7
    refine TriE.skip ?_
    refine TriE.seq ?_
    refine TriE.block ?_
    refine TriE.regJ ?_
    refine rn 2 [(0, eS 6 eTask a0), (5, .ptr 0 0 0), (7, vi v6), (60, vb v5)] [some (.row 6 [.agg [vt ((ix a0 a1.toNat).Name), vi ((ix a0 a1.toNat).Cents), vi ((ix a0 a1.toNat).Hours), eS 1 vt ((ix a0 a1.toNat).Needs), eS 1 (eS 1 vt) ((ix a0 a1.toNat).OneOf), eS 2 ePartCount ((ix a0 a1.toNat).Parts)]])] ?_
    refine RegJ.op (Op1.valk (v := .ptr 0 0 4) _ _ (cy (IG 61 (.faddr 4 (.t 5)) 60 false)) rfl (by kernel_rfl) (fun hg => (.cons rfl .nil))) ?_
    refine RegJ.op (Op1.valk (v := eS 1 (eS 1 vt) ((ix a0 a1.toNat).OneOf)) _ _ (cy (IG 62 (.load false 1 (.t 61)) 60 false)) rfl (by kernel_rfl) (fun hg => (.cons hg .nil))) ?_
    refine RegJ.op (Op1.valk (v := vi v6) _ _ (cy (IG 63 (.mov (.t 7)) 60 false)) rfl (by kernel_rfl) (fun hg => (.cons rfl .nil))) ?_
    obtain ⟨c8, h⟩ := chk_some h
    refine RegJ.op (Op1.valg (v := .fptr 1 (List.map (eS 1 vt) ((ix a0 a1.toNat).OneOf)) v6 0) _ _ (cy (IG 64 (.iaddr 1 (.t 62) (.t 63)) 60 false)) rfl (fun hg => (ok_iaddr_m (j := v6) rfl rfl rfl (gor c8 hg))) (fun hg => (.cons hg (.cons hg .nil)))) ?_
    obtain ⟨c9, h⟩ := chk_some h
    refine RegJ.op (Op1.valg (v := eS 1 vt (ix ((ix a0 a1.toNat).OneOf) v6)) _ _ (cy (IG 65 (.load false 1 (.t 64)) 60 false)) rfl (fun hg => (ok_load_fm (v := eS 1 vt (ix ((ix a0 a1.toNat).OneOf) v6)) rfl (gor c9 hg) rfl)) (fun hg => (.cons hg .nil))) ?_
    refine RegJ.op (Op1.valg (v := vi (((ix ((ix a0 a1.toNat).OneOf) v6).length : Nat) : Int)) _ _ (cy (IG 66 (.len 0 (.t 65)) 60 false)) rfl (fun hg => (ok_len_m rfl)) (fun hg => (.cons hg .nil))) ?_
    refine RegJ.op (Op1.valg (v := vb (decide (6 < ((ix ((ix a0 a1.toNat).OneOf) v6).length)))) _ _ (cy (IG 67 (.bin .gtr false (.t 66) (.c (.p (.int .i64 6)))) 60 false)) rfl (fun hg => (n_gtr (i := (ix ((ix a0 a1.toNat).OneOf) v6).length) (j := 6) rfl rfl)) (fun hg => (.cons hg (.cons rfl .nil)))) ?_
    refine RegJ.op (Op1.or (cy (I0 68 (.pick (.t 60) (.c (.p (.bool true))) (.t 67)))) rfl rfl (by first | exact hokO1 | exact hokO0 | simp)) ?_
    refine jq 1 [(0, eS 6 eTask a0), (5, .ptr 0 0 0), (7, vi v6), (6, vb (v5 || (decide (6 < ((ix ((ix a0 a1.toNat).OneOf) v6).length)))))] [some (.row 6 [.agg [vt ((ix a0 a1.toNat).Name), vi ((ix a0 a1.toNat).Cents), vi ((ix a0 a1.toNat).Hours), eS 1 vt ((ix a0 a1.toNat).Needs), eS 1 (eS 1 vt) ((ix a0 a1.toNat).OneOf), eS 2 ePartCount ((ix a0 a1.toNat).Parts)]])] ?_
    refine TriE.regJ ?_
    refine rn 1 [(0, eS 6 eTask a0), (5, .ptr 0 0 0), (6, vb (v5 || (decide (6 < ((ix ((ix a0 a1.toNat).OneOf) v6).length))))), (57, vi v6)] [some (.row 6 [.agg [vt ((ix a0 a1.toNat).Name), vi ((ix a0 a1.toNat).Cents), vi ((ix a0 a1.toNat).Hours), eS 1 vt ((ix a0 a1.toNat).Needs), eS 1 (eS 1 vt) ((ix a0 a1.toNat).OneOf), eS 2 ePartCount ((ix a0 a1.toNat).Parts)]])] ?_
    obtain ⟨c10, h⟩ := chk_some h
    refine jv (vi ((v6 + 1 : Nat) : Int)) (cy (I0 58 (.bin .add false (.t 57) (.c (.p (.int .i64 1)))))) (r_addn (i := v6) (j := 1) rfl rfl c10) rfl ?_
    refine jq 1 [(0, eS 6 eTask a0), (5, .ptr 0 0 0), (6, vb (v5 || (decide (6 < ((ix ((ix a0 a1.toNat).OneOf) v6).length))))), (7, vi ((v6 + 1 : Nat) : Int))] [some (.row 6 [.agg [vt ((ix a0 a1.toNat).Name), vi ((ix a0 a1.toNat).Cents), vi ((ix a0 a1.toNat).Hours), eS 1 vt ((ix a0 a1.toNat).Needs), eS 1 (eS 1 vt) ((ix a0 a1.toNat).OneOf), eS 2 ePartCount ((ix a0 a1.toNat).Parts)]])] ?_
    exact Vs.intro sy ⟨(v5 || (decide (6 < ((ix ((ix a0 a1.toNat).OneOf) v6).length))), v6 + 1), rfl, h⟩
  have h := cond_f h c7
  refine TriE.exit ?_
  exact Vs.intro sy ⟨v5, rfl, h⟩
theorem agrafferef08_Leads_ok (n : Nat) (a0 : Task) (r : (List Str)) (h : agrafferef08_Leads n a0 = some r) : FnL Tryz.prog 80 [.agg [vt a0.Name, vi a0.Cents, vi a0.Hours, eS 1 vt a0.Needs, eS 1 (eS 1 vt) a0.OneOf, eS 2 ePartCount a0.Parts]] [] (eS 1 vt r) [] := by
  dsimp only [agrafferef08_Leads] at h
  refine FnL.ofS (ts := [2]) Tryz.call80 Tryz.func80 rfl rfl (Nat.le_of_ble_eq_true rfl) (Nat.le_of_ble_eq_true rfl) (fun j h => absurd h (Nat.not_lt_zero j)) ?_
  refine sr [(1, .ptr 0 0 0)] [some (.row 6 [.agg [vt a0.Name, vi a0.Cents, vi a0.Hours, eS 1 vt a0.Needs, eS 1 (eS 1 vt) a0.OneOf, eS 2 ePartCount a0.Parts]])] ?_
  refine sj ?_
  refine rn 2 [(1, .ptr 0 0 0), (6, eS 1 vt a0.Needs)] [some (.row 6 [.agg [vt a0.Name, vi a0.Cents, vi a0.Hours, eS 1 vt a0.Needs, eS 1 (eS 1 vt) a0.OneOf, eS 2 ePartCount a0.Parts]])] ?_
  obtain ⟨y1, hy1, h⟩ := bind_some h
  refine RegJ.op (Op1.call (y' := .own 1 0 a0.Needs.length) (obx := []) (oby := [some (.row 1 (List.map vt a0.Needs))]) (ob2 := [some (.row 6 [.agg [vt a0.Name, vi a0.Cents, vi a0.Hours, eS 1 vt a0.Needs, eS 1 (eS 1 vt) a0.OneOf, eS 2 ePartCount a0.Parts]]), some (.row 1 (List.map vt a0.Needs))]) _ _ (cy (I0 7 (.call 18 [(.t 6)]))) rfl (agraffebase_CopyTexts_2_ok n a0.Needs y1 hy1) [] (by kernel_rfl) (.cons rfl (.cons rfl .nil)) (by kernel_rfl) (by kernel_rfl) ObsRen.nil (by kernel_rfl) (.same (row_ren vt_frz _ _ _) .nil) (by kernel_rfl)) ?_
  refine jq 1 [(1, .ptr 0 0 0), (3, .own 1 0 a0.Needs.length)] [some (.row 6 [.agg [vt a0.Name, vi a0.Cents, vi a0.Hours, eS 1 vt a0.Needs, eS 1 (eS 1 vt) a0.OneOf, eS 2 ePartCount a0.Parts]]), some (.row 1 (List.map vt a0.Needs))] ?_
  refine TriE.seqK h (fun (v4 : (List Str)) => St.mk [(3, .own 0 0 v4.length)] [some (.row 1 (List.map vt v4))]) ?_ ?_
  · rintro v4 h
    refine sr [(2, .own 0 0 v4.length)] [some (.row 1 (List.map vt v4))] ?_
    refine TriE.ret ?_
    have h := Option.some.inj h
    subst h
    exact DoneS.ret (S' := ⟨[(2, eS 1 vt v4)], []⟩) (Sees.trans (Sees.freeze 0 (fr' := [(2, eS 1 vt v4)]) (ob' := [none]) rfl (frz_row vt_frzE _) (.cons (frz_full rfl) .nil) rfl) (sc [] (by decide) (by kernel_rfl) ObRen.nil rfl rfl)) rfl rfl
  intro k1 h
  refine sr [(1, .ptr 0 0 0), (3, .own 1 0 a0.Needs.length), (4, vi 0)] [some (.row 6 [.agg [vt a0.Name, vi a0.Cents, vi a0.Hours, eS 1 vt a0.Needs, eS 1 (eS 1 vt) a0.OneOf, eS 2 ePartCount a0.Parts]]), some (.row 1 (List.map vt a0.Needs))] ?_
  refine TriE.block ?_
  refine TriE.sees (S' := ⟨[(1, .ptr 0 0 0), (3, .own 1 0 a0.Needs.length), (4, vi 0)], [some (.row 6 [.agg [vt a0.Name, vi a0.Cents, vi a0.Hours, eS 1 vt a0.Needs, eS 1 (eS 1 vt) a0.OneOf, eS 2 ePartCount a0.Parts]]), some (.row 1 (List.map vt a0.Needs))]⟩) sy ?_
  refine TriE.loopN h (fun (t : Nat × (List Str)) => match t with | (v2, v3) => St.mk [(1, .ptr 0 0 0), (3, .own 1 0 v3.length), (4, vi v2)] [some (.row 6 [.agg [vt a0.Name, vi a0.Cents, vi a0.Hours, eS 1 vt a0.Needs, eS 1 (eS 1 vt) a0.OneOf, eS 2 ePartCount a0.Parts]]), some (.row 1 (List.map vt v3))]) rfl ?_
  clear h
  rintro back ⟨v2, v3⟩ h
  dsimp only [agrafferef08_Leads_L1] at h
  refine TriE.seq ?_
  refine sj ?_
  refine rn 3 [(1, .ptr 0 0 0), (3, .own 1 0 v3.length), (4, vi v2), (8, vi v2), (10, eS 1 (eS 1 vt) a0.OneOf)] [some (.row 6 [.agg [vt a0.Name, vi a0.Cents, vi a0.Hours, eS 1 vt a0.Needs, eS 1 (eS 1 vt) a0.OneOf, eS 2 ePartCount a0.Parts]]), some (.row 1 (List.map vt v3))] ?_
  refine jv (vi ((a0.OneOf.length : Nat) : Int)) (cy (I0 11 (.len 0 (.t 10)))) (ok_len_m rfl) rfl ?_
  refine jv (vb (decide (v2 < a0.OneOf.length))) (cy (I0 12 (.bin .lss false (.t 8) (.t 11)))) (n_lss (i := v2) (j := a0.OneOf.length) rfl rfl) rfl ?_
  refine jp [(1, .ptr 0 0 0), (3, .own 1 0 v3.length), (4, vi v2), (12, vb (decide (v2 < a0.OneOf.length)))] ?_
  refine TriE.cond (b := decide (v2 < a0.OneOf.length)) rfl (fun c1 => ?_) (fun c1 => ?_)
  · have h := cond_t h c1
    refine TriE.skip ?_
    refine TriE.seq ?_
    refine TriE.block ?_
    refine TriE.regJ ?_
    refine rn 4 [(1, .ptr 0 0 0), (4, vi v2), (15, .own 1 0 v3.length), (17, eS 1 (eS 1 vt) a0.OneOf), (18, vi v2)] [some (.row 6 [.agg [vt a0.Name, vi a0.Cents, vi a0.Hours, eS 1 vt a0.Needs, eS 1 (eS 1 vt) a0.OneOf, eS 2 ePartCount a0.Parts]]), some (.row 1 (List.map vt v3))] ?_
    refine jv (.fptr 1 (List.map (eS 1 vt) a0.OneOf) v2 0) (cy (I0 19 (.iaddr 1 (.t 17) (.t 18)))) (ok_iaddr_m (j := v2) rfl rfl rfl c1) rfl ?_
    refine jv (eS 1 vt (ix a0.OneOf v2)) (cy (I0 20 (.load false 1 (.t 19)))) (ok_load_fm (v := eS 1 vt (ix a0.OneOf v2)) rfl c1 rfl) rfl ?_
    obtain ⟨c2, h⟩ := chk_some h
    refine je (.own 2 0 ((v3 ++ (ix a0.OneOf v2)).length)) [some (.row 6 [.agg [vt a0.Name, vi a0.Cents, vi a0.Hours, eS 1 vt a0.Needs, eS 1 (eS 1 vt) a0.OneOf, eS 2 ePartCount a0.Parts]]), none, some (.row 1 (List.map vt (v3 ++ (ix a0.OneOf v2))))] (cy (I0 21 (.app 1 16 (.t 15) (.t 20)))) (ok_app_own (l := v3) (l2 := (ix a0.OneOf v2)) (e := vt) (u := eS 1 vt (ix a0.OneOf v2)) rfl rfl rfl rfl els_sl c2) rfl rfl rfl ?_
    refine jq 1 [(1, .ptr 0 0 0), (4, vi v2), (3, .own 2 0 ((v3 ++ (ix a0.OneOf v2)).length))] [some (.row 6 [.agg [vt a0.Name, vi a0.Cents, vi a0.Hours, eS 1 vt a0.Needs, eS 1 (eS 1 vt) a0.OneOf, eS 2 ePartCount a0.Parts]]), none, some (.row 1 (List.map vt (v3 ++ (ix a0.OneOf v2))))] ?_
    refine TriE.regJ ?_
    refine rn 1 [(1, .ptr 0 0 0), (3, .own 2 0 ((v3 ++ (ix a0.OneOf v2)).length)), (13, vi v2)] [some (.row 6 [.agg [vt a0.Name, vi a0.Cents, vi a0.Hours, eS 1 vt a0.Needs, eS 1 (eS 1 vt) a0.OneOf, eS 2 ePartCount a0.Parts]]), none, some (.row 1 (List.map vt (v3 ++ (ix a0.OneOf v2))))] ?_
    obtain ⟨c3, h⟩ := chk_some h
    refine jv (vi ((v2 + 1 : Nat) : Int)) (cy (I0 14 (.bin .add false (.t 13) (.c (.p (.int .i64 1)))))) (r_addn (i := v2) (j := 1) rfl rfl c3) rfl ?_
    refine jq 1 [(1, .ptr 0 0 0), (3, .own 2 0 ((v3 ++ (ix a0.OneOf v2)).length)), (4, vi ((v2 + 1 : Nat) : Int))] [some (.row 6 [.agg [vt a0.Name, vi a0.Cents, vi a0.Hours, eS 1 vt a0.Needs, eS 1 (eS 1 vt) a0.OneOf, eS 2 ePartCount a0.Parts]]), none, some (.row 1 (List.map vt (v3 ++ (ix a0.OneOf v2))))] ?_
    exact Vs.intro (sc [0, 2] (by decide) (by kernel_rfl) (.cons rfl (obRen_row vt_frz rfl .nil)) rfl rfl) ⟨(v2 + 1, (v3 ++ (ix a0.OneOf v2))), rfl, h⟩
  have h := cond_f h c1
  refine TriE.exit ?_
  exact Vs.intro (sc [1] (by decide) (by kernel_rfl) (obRen_row vt_frz rfl .nil) rfl rfl) ⟨v3, rfl, h⟩
theorem agraffebase_HasText_2_ok (n : Nat) (a0 : List Str) (a1 : Str) (r : Bool) (h : agraffebase_HasText_2 n a0 a1 = some r) : FnL Tryz.prog 81 [.own 0 0 a0.length, vt a1] [some (.row 1 (List.map vt a0))] (vb r) [some (.row 1 (List.map vt a0))] := by
  dsimp only [agraffebase_HasText_2] at h
  refine FnL.ofS (ts := [4]) Tryz.call81 Tryz.func81 rfl rfl (Nat.le_of_ble_eq_true rfl) (Nat.le_of_ble_eq_true rfl) (hall_of (.cons rfl .nil)) ?_
  refine sr [(0, .own 0 0 a0.length), (1, vt a1)] [some (.row 1 (List.map vt a0))] ?_
  refine TriE.seqK h (fun (_ : Unit) => St.mk [] [some (.row 1 (List.map vt a0))]) ?_ ?_
  · rintro ⟨⟩ h
    refine sr [(4, vb false)] [some (.row 1 (List.map vt a0))] ?_
    refine TriE.ret ?_
    have h := Option.some.inj h
    subst h
    exact DoneS.ret (S' := ⟨[(4, vb false)], [some (.row 1 (List.map vt a0))]⟩) Sees.refl rfl rfl
  intro k1 h
  refine sr [(0, .own 0 0 a0.length), (1, vt a1), (5, vi 0)] [some (.row 1 (List.map vt a0))] ?_
  refine TriE.block ?_
  refine TriE.sees (S' := ⟨[(0, .own 0 0 a0.length), (1, vt a1), (5, vi 0)], [some (.row 1 (List.map vt a0))]⟩) sy ?_
  refine TriE.loopN h (fun (v1 : Nat) => St.mk [(0, .own 0 0 a0.length), (1, vt a1), (5, vi v1)] [some (.row 1 (List.map vt a0))]) rfl ?_
  clear h
  rintro back v1 h
  dsimp only [agraffebase_HasText_2_L1] at h
  refine TriE.seq ?_
  refine sj ?_
  refine rn 3 [(0, .own 0 0 a0.length), (1, vt a1), (5, vi v1), (6, vi v1), (8, vi (a0.length : Int))] [some (.row 1 (List.map vt a0))] ?_
  refine jv (vb (decide (v1 < a0.length))) (cy (I0 9 (.bin .lss false (.t 6) (.t 8)))) (n_lss (i := v1) (j := a0.length) rfl rfl) rfl ?_
  refine jp [(0, .own 0 0 a0.length), (1, vt a1), (5, vi v1), (9, vb (decide (v1 < a0.length)))] ?_
  refine TriE.cond (b := decide (v1 < a0.length)) rfl (fun c1 => ?_) (fun c1 => ?_)
  · have h := cond_t h c1
    refine TriE.skip ?_
    refine TriE.seq ?_
    refine TriE.block ?_
    refine sj ?_
    refine rn 2 [(0, .own 0 0 a0.length), (1, vt a1), (5, vi v1), (12, .own 0 0 a0.length), (13, vi v1)] [some (.row 1 (List.map vt a0))] ?_
    refine jv (.ptr 0 v1 0) (cy (I0 14 (.iaddr 1 (.t 12) (.t 13)))) (ok_iaddr_o0 (j := v1) rfl rfl rfl rfl c1) rfl ?_
    refine jv (vt (ix a0 v1)) (cy (I0 15 (.load false 1 (.t 14)))) (ok_load_pm (l := a0) (e := vt) (v := vt (ix a0 v1)) rfl rfl c1 rfl) rfl ?_
    refine jq 2 [(0, .own 0 0 a0.length), (1, vt a1), (5, vi v1), (17, vb ((ix a0 v1) == a1))] [some (.row 1 (List.map vt a0))] ?_
    refine TriE.cond (b := ((ix a0 v1) == a1)) rfl (fun c2 => ?_) (fun c2 => ?_)
    · have h := cond_t h c2
      refine sr [(4, vb true)] [some (.row 1 (List.map vt a0))] ?_
      refine TriE.ret ?_
      have h := Option.some.inj h
      subst h
      exact DoneS.ret (S' := ⟨[(4, vb true)], [some (.row 1 (List.map vt a0))]⟩) Sees.refl rfl rfl
    have h := cond_f h c2
    refine TriE.skip ?_
    refine TriE.regJ ?_
    refine rn 1 [(0, .own 0 0 a0.length), (1, vt a1), (10, vi v1)] [some (.row 1 (List.map vt a0))] ?_
    obtain ⟨c3, h⟩ := chk_some h
    refine jv (vi ((v1 + 1 : Nat) : Int)) (cy (I0 11 (.bin .add false (.t 10) (.c (.p (.int .i64 1)))))) (r_addn (i := v1) (j := 1) rfl rfl c3) rfl ?_
    refine jq 1 [(0, .own 0 0 a0.length), (1, vt a1), (5, vi ((v1 + 1 : Nat) : Int))] [some (.row 1 (List.map vt a0))] ?_
    exact Vs.intro sy ⟨(v1 + 1), rfl, h⟩
  have h := cond_f h c1
  refine TriE.exit ?_
  exact Vs.intro sy ⟨(), rfl, h⟩
theorem agrafferef08_Order_ok (n : Nat) (a0 : List Task) (a1 : List Str) (r : (List Str)) (h : agrafferef08_Order n a0 a1 = some r) : FnL Tryz.prog 78 [eS 6 eTask a0, eS 1 vt a1] [] (eS 1 vt r) [] := by
  dsimp only [agrafferef08_Order] at h
  refine FnL.ofS (ts := [4]) Tryz.call78 Tryz.func78 rfl rfl (Nat.le_of_ble_eq_true rfl) (Nat.le_of_ble_eq_true rfl) (fun j h => absurd h (Nat.not_lt_zero j)) ?_
  refine sr [(0, eS 6 eTask a0), (1, eS 1 vt a1)] [] ?_
  refine sr [(0, eS 6 eTask a0), (1, eS 1 vt a1), (5, .emp)] [] ?_
  refine TriE.block ?_
  refine TriE.sees (S' := ⟨[(0, eS 6 eTask a0), (1, eS 1 vt a1), (5, .own 0 0 ([] : List Str).length)], [some (.row 1 (List.map vt ([] : List Str)))]⟩) (Sees.trans (Sees.co (fr' := [(0, eS 6 eTask a0), (1, eS 1 vt a1), (5, .own 0 0 0)]) (ob' := []) (.cons .same (.cons .same (.cons .own .nil))) ObCo.nil 1) sy) ?_
  refine TriE.loopN h (fun (v26 : (List Str)) => St.mk [(0, eS 6 eTask a0), (1, eS 1 vt a1), (5, .own 0 0 v26.length)] [some (.row 1 (List.map vt v26))]) rfl ?_
  clear h
  rintro back v26 h
  dsimp only [agrafferef08_Order_L3] at h
  refine TriE.block ?_
  refine sr [(0, eS 6 eTask a0), (1, eS 1 vt a1), (5, .own 0 0 v26.length), (6, vi (-1))] [some (.row 1 (List.map vt v26))] ?_
  refine TriE.seqK h (fun (v51 : Int) => St.mk [(0, eS 6 eTask a0), (1, eS 1 vt a1), (5, .own 0 0 v26.length), (6, vi v51)] [some (.row 1 (List.map vt v26))]) ?_ ?_
  · rintro v51 h
    refine TriE.seq ?_
    refine sr [(0, eS 6 eTask a0), (1, eS 1 vt a1), (5, .own 0 0 v26.length), (6, vi v51), (70, vb (decide (v51 < (0 : Int))))] [some (.row 1 (List.map vt v26))] ?_
    refine TriE.cond (b := decide (v51 < (0 : Int))) rfl (fun c8 => ?_) (fun c8 => ?_)
    · have h := cond_t h c8
      refine sr [(4, .own 0 0 v26.length)] [some (.row 1 (List.map vt v26))] ?_
      refine TriE.ret ?_
      have h := Option.some.inj h
      subst h
      exact DoneS.ret (S' := ⟨[(4, eS 1 vt v26)], []⟩) (Sees.trans (Sees.freeze 0 (fr' := [(4, eS 1 vt v26)]) (ob' := [none]) rfl (frz_row vt_frzE _) (.cons (frz_full rfl) .nil) rfl) (sc [] (by decide) (by kernel_rfl) ObRen.nil rfl rfl)) rfl rfl
    have h := cond_f h c8
    refine TriE.skip ?_
    refine TriE.regJ ?_
    refine rn 3 [(0, eS 6 eTask a0), (1, eS 1 vt a1), (72, .own 0 0 v26.length), (73, eS 6 eTask a0), (74, vi v51)] [some (.row 1 (List.map vt v26))] ?_
    obtain ⟨c9, h⟩ := chk_some h
    refine jv (.fptr 6 (List.map eTask a0) v51.toNat 0) (cy (I0 75 (.iaddr 6 (.t 73) (.t 74)))) (ok_iaddr_m (j := v51.toNat) rfl rfl (inB_to c9) (inB_lt c9)) rfl ?_
    refine rn 1 [(0, eS 6 eTask a0), (1, eS 1 vt a1), (72, .own 0 0 v26.length), (76, .fptr 6 (List.map eTask a0) v51.toNat 0)] [some (.row 1 (List.map vt v26))] ?_
    obtain ⟨c10, h⟩ := chk_some h
    refine jv (vt ((ix a0 v51.toNat).Name)) (cy (I0 77 (.load false 1 (.t 76)))) (ok_load_fm (v := vt ((ix a0 v51.toNat).Name)) rfl c10 rfl) rfl ?_
    refine rn 1 [(0, eS 6 eTask a0), (1, eS 1 vt a1), (72, .own 0 0 v26.length), (78, .own 1 0 1)] [some (.row 1 (List.map vt v26)), some (.row 1 [vt ((ix a0 v51.toNat).Name)])] ?_
    obtain ⟨c11, h⟩ := chk_some h
    refine je (.own 2 0 ((v26 ++ ([(ix a0 v51.toNat).Name] : List Str)).length)) [none, some (.row 1 [vt ((ix a0 v51.toNat).Name)]), some (.row 1 (List.map vt (v26 ++ ([(ix a0 v51.toNat).Name] : List Str))))] (cy (I0 79 (.app 1 16 (.t 72) (.t 78)))) (ok_app_own (l := v26) (l2 := ([(ix a0 v51.toNat).Name] : List Str)) (e := vt) (u := .own 1 0 1) rfl rfl rfl rfl rfl c11) rfl rfl rfl ?_
    refine jq 1 [(0, eS 6 eTask a0), (1, eS 1 vt a1), (5, .own 2 0 ((v26 ++ ([(ix a0 v51.toNat).Name] : List Str)).length))] [none, some (.row 1 [vt ((ix a0 v51.toNat).Name)]), some (.row 1 (List.map vt (v26 ++ ([(ix a0 v51.toNat).Name] : List Str))))] ?_
    exact Vs.intro (sc [2] (by decide) (by kernel_rfl) (obRen_row vt_frz rfl .nil) rfl rfl) ⟨(v26 ++ ([(ix a0 v51.toNat).Name] : List Str)), rfl, h⟩
  intro k3 h
  refine sr [(0, eS 6 eTask a0), (1, eS 1 vt a1), (5, .own 0 0 v26.length), (6, vi (-1)), (7, vi 0)] [some (.row 1 (List.map vt v26))] ?_
  refine TriE.block ?_
  refine TriE.sees (S' := ⟨[(0, eS 6 eTask a0), (1, eS 1 vt a1), (5, .own 0 0 v26.length), (6, vi (-1)), (7, vi 0)], [some (.row 1 (List.map vt v26))]⟩) sy ?_
  refine TriE.loopN h (fun (t : Int × Nat) => match t with | (v38, v39) => St.mk [(0, eS 6 eTask a0), (1, eS 1 vt a1), (5, .own 0 0 v26.length), (6, vi v38), (7, vi v39)] [some (.row 1 (List.map vt v26))]) rfl ?_
  clear h
  rintro back ⟨v38, v39⟩ h
  dsimp only [agrafferef08_Order_L2] at h
  refine TriE.seq ?_
  refine sj ?_
  refine rn 2 [(0, eS 6 eTask a0), (1, eS 1 vt a1), (5, .own 0 0 v26.length), (6, vi v38), (7, vi v39), (11, vi v39), (12, eS 6 eTask a0)] [some (.row 1 (List.map vt v26))] ?_
  refine jv (vi (a0.length : Int)) (cy (I0 13 (.len 0 (.t 12)))) (ok_len_m rfl) rfl ?_
  refine jv (vb (decide (v39 < a0.length))) (cy (I0 14 (.bin .lss false (.t 11) (.t 13)))) (n_lss (i := v39) (j := a0.length) rfl rfl) rfl ?_
  refine rn 1 [(0, eS 6 eTask a0), (1, eS 1 vt a1), (5, .own 0 0 v26.length), (6, vi v38), (7, vi v39), (15, vb (decide (v39 < a0.length)))] [some (.row 1 (List.map vt v26))] ?_
  refine RegJ.op (Op1.valk (v := vi v38) _ _ (cy (IG 16 (.mov (.t 6)) 15 true)) rfl (by kernel_rfl) (fun hg => (.cons rfl .nil))) ?_
  refine RegJ.op (Op1.valk (v := vb (decide (v38 < (0 : Int)))) _ _ (cy (IG 17 (.bin .lss false (.t 16) (.c (.p (.int .i64 0)))) 15 true)) rfl (by kernel_rfl) (fun hg => (.cons hg (.cons rfl .nil)))) ?_
  refine RegJ.op (Op1.and (cy (I0 18 (.pick (.t 15) (.t 17) (.c (.p (.bool false)))))) rfl rfl (by first | exact hokA1 | exact hokA0 | simp)) ?_
  refine jp [(0, eS 6 eTask a0), (1, eS 1 vt a1), (5, .own 0 0 v26.length), (6, vi v38), (7, vi v39), (18, vb ((decide (v39 < a0.length)) && (decide (v38 < (0 : Int)))))] ?_
  refine TriE.cond (b := (decide (v39 < a0.length)) && (decide (v38 < (0 : Int)))) rfl (fun c1 => ?_) (fun c1 => ?_)
  · have h := cond_t h c1
    refine TriE.skip ?_
    refine TriE.seqK h (fun (v50 : Int) => St.mk [(0, eS 6 eTask a0), (1, eS 1 vt a1), (5, .own 0 0 v26.length), (6, vi v50), (7, vi v39)] [some (.row 1 (List.map vt v26))]) ?_ ?_
    · rintro v50 h
      refine TriE.regJ ?_
      refine rn 1 [(0, eS 6 eTask a0), (1, eS 1 vt a1), (5, .own 0 0 v26.length), (6, vi v50), (19, vi v39)] [some (.row 1 (List.map vt v26))] ?_
      obtain ⟨c7, h⟩ := chk_some h
      refine jv (vi ((v39 + 1 : Nat) : Int)) (cy (I0 20 (.bin .add false (.t 19) (.c (.p (.int .i64 1)))))) (r_addn (i := v39) (j := 1) rfl rfl c7) rfl ?_
      refine jq 1 [(0, eS 6 eTask a0), (1, eS 1 vt a1), (5, .own 0 0 v26.length), (6, vi v50), (7, vi ((v39 + 1 : Nat) : Int))] [some (.row 1 (List.map vt v26))] ?_
      exact Vs.intro sy ⟨(v50, v39 + 1), rfl, h⟩
    intro k2 h
    refine TriE.block ?_
    refine TriE.seq ?_
    refine sj ?_
    refine rn 3 [(0, eS 6 eTask a0), (1, eS 1 vt a1), (5, .own 0 0 v26.length), (6, vi v38), (7, vi v39), (21, eS 1 vt a1), (22, eS 6 eTask a0), (23, vi v39)] [some (.row 1 (List.map vt v26))] ?_
    obtain ⟨c2, h⟩ := chk_some h
    refine jv (.fptr 6 (List.map eTask a0) v39 0) (cy (I0 24 (.iaddr 6 (.t 22) (.t 23)))) (ok_iaddr_m (j := v39) rfl rfl rfl c2) rfl ?_
    refine rn 1 [(0, eS 6 eTask a0), (1, eS 1 vt a1), (5, .own 0 0 v26.length), (6, vi v38), (7, vi v39), (21, eS 1 vt a1), (25, .fptr 6 (List.map eTask a0) v39 0)] [some (.row 1 (List.map vt v26))] ?_
    refine jv (vt ((ix a0 v39).Name)) (cy (I0 26 (.load false 1 (.t 25)))) (ok_load_fm (v := vt ((ix a0 v39).Name)) rfl c2 rfl) rfl ?_
    obtain ⟨y40, hy40, h⟩ := bind_some h
    refine RegJ.op (Op1.call (y' := vb y40) (obx := []) (oby := []) (ob2 := [some (.row 1 (List.map vt v26))]) _ _ (cy (I0 27 (.call 81 [(.t 21), (.t 26)]))) rfl (agraffebase_HasText_ok n a1 ((ix a0 v39).Name) y40 hy40) [] (by kernel_rfl) (.cons rfl (.cons rfl (.cons rfl .nil))) (by kernel_rfl) (by kernel_rfl) ObsRen.nil (by kernel_rfl) ObsRen.nil (by kernel_rfl)) ?_
    refine rn 2 [(0, eS 6 eTask a0), (1, eS 1 vt a1), (5, .own 0 0 v26.length), (6, vi v38), (7, vi v39), (29, vb (!y40))] [some (.row 1 (List.map vt v26))] ?_
    refine RegJ.op (Op1.valk (v := .own 0 0 v26.length) _ _ (cy (IG 30 (.mov (.t 5)) 29 false)) rfl (by kernel_rfl) (fun hg => (.cons rfl .nil))) ?_
    refine RegJ.op (Op1.valk (v := eS 6 eTask a0) _ _ (cy (IG 31 (.mov (.t 0)) 29 false)) rfl (by kernel_rfl) (fun hg => (.cons rfl .nil))) ?_
    refine RegJ.op (Op1.valk (v := vi v39) _ _ (cy (IG 32 (.mov (.t 7)) 29 false)) rfl (by kernel_rfl) (fun hg => (.cons rfl .nil))) ?_
    refine RegJ.op (Op1.valg (v := .fptr 6 (List.map eTask a0) v39 0) _ _ (cy (IG 33 (.iaddr 6 (.t 31) (.t 32)) 29 false)) rfl (fun hg => (ok_iaddr_m (j := v39) rfl rfl rfl c2)) (fun hg => (.cons hg (.cons hg .nil)))) ?_
    refine RegJ.op (Op1.valk (v := .fptr 6 (List.map eTask a0) v39 0) _ _ (cy (IG 34 (.faddr 0 (.t 33)) 29 false)) rfl (by kernel_rfl) (fun hg => (.cons hg .nil))) ?_
    refine RegJ.op (Op1.valg (v := vt ((ix a0 v39).Name)) _ _ (cy (IG 35 (.load false 1 (.t 34)) 29 false)) rfl (fun hg => (ok_load_fm (v := vt ((ix a0 v39).Name)) rfl c2 rfl)) (fun hg => (.cons hg .nil))) ?_
    obtain ⟨y41, hy41, h⟩ := bind_some h
    refine RegJ.op (Op1.callg (g := !(!y40)) (y' := vb y41) (obx := [some (.row 1 (List.map vt v26))]) _ _ (cy (IG 36 (.call 81 [(.t 30), (.t 35)]) 29 false)) rfl (fun hg => agraffebase_HasText_2_ok n v26 ((ix a0 v39).Name) y41 (gcall_some hy41 hg)) [0] (fun hg => by kernel_rfl) (fun hg => (.cons rfl (.cons hg (.cons hg .nil)))) (by kernel_rfl) (by kernel_rfl) (.same (row_ren vt_frz _ _ _) .nil) (by kernel_rfl) (by kernel_rfl)) ?_
    refine RegJ.op (Op1.or (cy (I0 37 (.pick (.t 29) (.c (.p (.bool true))) (.t 36)))) rfl rfl (by first | exact hokO1 | exact hokO0 | simp)) ?_
    refine jp [(0, eS 6 eTask a0), (1, eS 1 vt a1), (5, .own 0 0 v26.length), (6, vi v38), (7, vi v39), (37, vb ((!y40) || y41))] ?_
    refine TriE.cond (b := (!y40) || y41) rfl (fun c3 => ?_) (fun c3 => ?_)
    · have h := cond_t h c3
      refine TriE.exit ?_
      exact Vs.intro sy ⟨v38, rfl, h⟩
    have h := cond_f h c3
    refine TriE.skip ?_
    refine sr [(0, eS 6 eTask a0), (1, eS 1 vt a1), (5, .own 0 0 v26.length), (6, vi v38), (7, vi v39), (8, vb true)] [some (.row 1 (List.map vt v26))] ?_
    refine sj ?_
    refine rn 2 [(0, eS 6 eTask a0), (1, eS 1 vt a1), (5, .own 0 0 v26.length), (6, vi v38), (7, vi v39), (8, vb true), (38, eS 6 eTask a0), (39, vi v39)] [some (.row 1 (List.map vt v26))] ?_
    refine jv (.fptr 6 (List.map eTask a0) v39 0) (cy (I0 40 (.iaddr 6 (.t 38) (.t 39)))) (ok_iaddr_m (j := v39) rfl rfl rfl c2) rfl ?_
    refine jv (.agg [vt ((ix a0 v39).Name), vi ((ix a0 v39).Cents), vi ((ix a0 v39).Hours), eS 1 vt ((ix a0 v39).Needs), eS 1 (eS 1 vt) ((ix a0 v39).OneOf), eS 2 ePartCount ((ix a0 v39).Parts)]) (cy (I0 41 (.load true 6 (.t 40)))) (ok_load_fm (v := .agg [vt ((ix a0 v39).Name), vi ((ix a0 v39).Cents), vi ((ix a0 v39).Hours), eS 1 vt ((ix a0 v39).Needs), eS 1 (eS 1 vt) ((ix a0 v39).OneOf), eS 2 ePartCount ((ix a0 v39).Parts)]) rfl c2 rfl) rfl ?_
    obtain ⟨y42, hy42, h⟩ := bind_some h
    refine RegJ.op (Op1.call (y' := eS 1 vt y42) (obx := []) (oby := []) (ob2 := [some (.row 1 (List.map vt v26))]) _ _ (cy (I0 42 (.call 80 [(.t 41)]))) rfl (agrafferef08_Leads_ok n (ix a0 v39) y42 hy42) [] (by kernel_rfl) (.cons rfl (.cons rfl .nil)) (by kernel_rfl) (by kernel_rfl) ObsRen.nil (by kernel_rfl) ObsRen.nil (by kernel_rfl)) ?_
    refine jq 1 [(0, eS 6 eTask a0), (1, eS 1 vt a1), (5, .own 0 0 v26.length), (6, vi v38), (7, vi v39), (8, vb true), (9, eS 1 vt y42)] [some (.row 1 (List.map vt v26))] ?_
    refine TriE.seqK h (fun (v49 : Bool) => St.mk [(0, eS 6 eTask a0), (1, eS 1 vt a1), (5, .own 0 0 v26.length), (6, vi v38), (7, vi v39), (8, vb v49)] [some (.row 1 (List.map vt v26))]) ?_ ?_
    · rintro v49 h
      refine sr [(0, eS 6 eTask a0), (1, eS 1 vt a1), (5, .own 0 0 v26.length), (6, vi v38), (7, vi v39), (67, vb v49)] [some (.row 1 (List.map vt v26))] ?_
      refine TriE.cond (b := v49) rfl (fun c6 => ?_) (fun c6 => ?_)
      · have h := cond_t h c6
        refine tr [(0, eS 6 eTask a0), (1, eS 1 vt a1), (5, .own 0 0 v26.length), (7, vi v39), (6, vi v39)] [some (.row 1 (List.map vt v26))] ?_
        exact Vs.intro sy ⟨(v39 : Int), rfl, h⟩
      have h := cond_f h c6
      refine TriE.skip ?_
      exact Vs.intro sy ⟨v38, rfl, h⟩
    intro k1 h
    refine sr [(0, eS 6 eTask a0), (1, eS 1 vt a1), (5, .own 0 0 v26.length), (6, vi v38), (7, vi v39), (8, vb true), (9, eS 1 vt y42), (10, vi 0)] [some (.row 1 (List.map vt v26))] ?_
    refine TriE.block ?_
    refine TriE.sees (S' := ⟨[(0, eS 6 eTask a0), (1, eS 1 vt a1), (5, .own 0 0 v26.length), (6, vi v38), (7, vi v39), (8, vb true), (9, eS 1 vt y42), (10, vi 0)], [some (.row 1 (List.map vt v26))]⟩) sy ?_
    refine TriE.loopN h (fun (t : Bool × Nat) => match t with | (v45, v46) => St.mk [(0, eS 6 eTask a0), (1, eS 1 vt a1), (5, .own 0 0 v26.length), (6, vi v38), (7, vi v39), (8, vb v45), (9, eS 1 vt y42), (10, vi v46)] [some (.row 1 (List.map vt v26))]) rfl ?_
    clear h
    rintro back ⟨v45, v46⟩ h
    dsimp only [agrafferef08_Order_L1] at h
    refine TriE.seq ?_
    refine sj ?_
    refine rn 2 [(0, eS 6 eTask a0), (1, eS 1 vt a1), (5, .own 0 0 v26.length), (6, vi v38), (7, vi v39), (8, vb v45), (9, eS 1 vt y42), (10, vi v46), (43, vi v46), (44, eS 1 vt y42)] [some (.row 1 (List.map vt v26))] ?_
    refine jv (vi (y42.length : Int)) (cy (I0 45 (.len 0 (.t 44)))) (ok_len_m rfl) rfl ?_
    refine jv (vb (decide (v46 < y42.length))) (cy (I0 46 (.bin .lss false (.t 43) (.t 45)))) (n_lss (i := v46) (j := y42.length) rfl rfl) rfl ?_
    refine jp [(0, eS 6 eTask a0), (1, eS 1 vt a1), (5, .own 0 0 v26.length), (6, vi v38), (7, vi v39), (8, vb v45), (9, eS 1 vt y42), (10, vi v46), (46, vb (decide (v46 < y42.length)))] ?_
    refine TriE.cond (b := decide (v46 < y42.length)) rfl (fun c4 => ?_) (fun c4 => ?_)
    · have h := cond_t h c4
      refine TriE.skip ?_
      refine TriE.seq ?_
      refine TriE.block ?_
      refine TriE.regJ ?_
      refine rn 2 [(0, eS 6 eTask a0), (1, eS 1 vt a1), (5, .own 0 0 v26.length), (6, vi v38), (7, vi v39), (9, eS 1 vt y42), (10, vi v46), (50, vb v45)] [some (.row 1 (List.map vt v26))] ?_
      refine RegJ.op (Op1.valk (v := eS 1 vt a1) _ _ (cy (IG 51 (.mov (.t 1)) 50 true)) rfl (by kernel_rfl) (fun hg => (.cons rfl .nil))) ?_
      refine RegJ.op (Op1.valk (v := eS 1 vt y42) _ _ (cy (IG 52 (.mov (.t 9)) 50 true)) rfl (by kernel_rfl) (fun hg => (.cons rfl .nil))) ?_
      refine RegJ.op (Op1.valk (v := vi v46) _ _ (cy (IG 53 (.mov (.t 10)) 50 true)) rfl (by kernel_rfl) (fun hg => (.cons rfl .nil))) ?_
      refine RegJ.op (Op1.valg (v := .fptr 1 (List.map vt y42) v46 0) _ _ (cy (IG 54 (.iaddr 1 (.t 52) (.t 53)) 50 true)) rfl (fun hg => (ok_iaddr_m (j := v46) rfl rfl rfl c4)) (fun hg => (.cons hg (.cons hg .nil)))) ?_
      refine RegJ.op (Op1.valg (v := vt (ix y42 v46)) _ _ (cy (IG 55 (.load false 1 (.t 54)) 50 true)) rfl (fun hg => (ok_load_fm (v := vt (ix y42 v46)) rfl c4 rfl)) (fun hg => (.cons hg .nil))) ?_
      obtain ⟨y47, hy47, h⟩ := bind_some h
      refine RegJ.op (Op1.callg (g := v45) (y' := vb y47) (obx := []) _ _ (cy (IG 56 (.call 81 [(.t 51), (.t 55)]) 50 true)) rfl (fun hg => agraffebase_HasText_ok n a1 (ix y42 v46) y47 (gcall_some hy47 hg)) [] (fun hg => by kernel_rfl) (fun hg => (.cons rfl (.cons hg (.cons hg .nil)))) (by kernel_rfl) (by kernel_rfl) ObsRen.nil (by kernel_rfl) (by kernel_rfl)) ?_
      refine RegJ.op (Op1.valk (v := vb (!y47)) _ _ (cy (IG 57 (.un .not (.t 56)) 50 true)) rfl (by kernel_rfl) (fun hg => (.cons hg .nil))) ?_
      refine RegJ.op (Op1.valk (v := vb (!y47)) _ _ (cy (IG 58 (.mov (.t 57)) 50 true)) rfl (by kernel_rfl) (fun hg => (.cons hg .nil))) ?_
      refine RegJ.op (Op1.valk (v := .own 0 0 v26.length) _ _ (cy (IG 59 (.mov (.t 5)) 58 false)) rfl (by kernel_rfl) (fun hg => (.cons rfl .nil))) ?_
      refine RegJ.op (Op1.valk (v := eS 1 vt y42) _ _ (cy (IG 60 (.mov (.t 9)) 58 false)) rfl (by kernel_rfl) (fun hg => (.cons rfl .nil))) ?_
      refine RegJ.op (Op1.valk (v := vi v46) _ _ (cy (IG 61 (.mov (.t 10)) 58 false)) rfl (by kernel_rfl) (fun hg => (.cons rfl .nil))) ?_
      refine RegJ.op (Op1.valg (v := .fptr 1 (List.map vt y42) v46 0) _ _ (cy (IG 62 (.iaddr 1 (.t 60) (.t 61)) 58 false)) rfl (fun hg => (ok_iaddr_m (j := v46) rfl rfl rfl c4)) (fun hg => (.cons hg (.cons hg .nil)))) ?_
      refine RegJ.op (Op1.valg (v := vt (ix y42 v46)) _ _ (cy (IG 63 (.load false 1 (.t 62)) 58 false)) rfl (fun hg => (ok_load_fm (v := vt (ix y42 v46)) rfl c4 rfl)) (fun hg => (.cons hg .nil))) ?_
      obtain ⟨y48, hy48, h⟩ := bind_some h
      refine RegJ.op (Op1.callg (g := v45 && !(!y47)) (y' := vb y48) (obx := [some (.row 1 (List.map vt v26))]) _ _ (cy (IG 64 (.call 81 [(.t 59), (.t 63)]) 58 false)) rfl (fun hg => agraffebase_HasText_2_ok n v26 (ix y42 v46) y48 (gcall_some hy48 hg)) [0] (fun hg => by kernel_rfl) (fun hg => (.cons rfl (.cons hg (.cons hg .nil)))) (by kernel_rfl) (by kernel_rfl) (.same (row_ren vt_frz _ _ _) .nil) (by kernel_rfl) (by kernel_rfl)) ?_
      refine RegJ.op (Op1.org (g := v45) (cy (IG 65 (.pick (.t 58) (.c (.p (.bool true))) (.t 64)) 50 true)) rfl rfl rfl (fun hg => by first | exact hokO2 hg | exact hokO3 hg | exact hokO1 | exact hokO0 | (rw [hg]; simp) | simp_all)) ?_
      refine RegJ.op (Op1.and (cy (I0 66 (.pick (.t 50) (.t 65) (.c (.p (.bool false)))))) rfl rfl (by first | exact hokA1 | exact hokA0 | simp)) ?_
      refine jq 1 [(0, eS 6 eTask a0), (1, eS 1 vt a1), (5, .own 0 0 v26.length), (6, vi v38), (7, vi v39), (9, eS 1 vt y42), (10, vi v46), (8, vb (v45 && ((!y47) || y48)))] [some (.row 1 (List.map vt v26))] ?_
      refine TriE.regJ ?_
      refine rn 1 [(0, eS 6 eTask a0), (1, eS 1 vt a1), (5, .own 0 0 v26.length), (6, vi v38), (7, vi v39), (9, eS 1 vt y42), (8, vb (v45 && ((!y47) || y48))), (47, vi v46)] [some (.row 1 (List.map vt v26))] ?_
      obtain ⟨c5, h⟩ := chk_some h
      refine jv (vi ((v46 + 1 : Nat) : Int)) (cy (I0 48 (.bin .add false (.t 47) (.c (.p (.int .i64 1)))))) (r_addn (i := v46) (j := 1) rfl rfl c5) rfl ?_
      refine jq 1 [(0, eS 6 eTask a0), (1, eS 1 vt a1), (5, .own 0 0 v26.length), (6, vi v38), (7, vi v39), (9, eS 1 vt y42), (8, vb (v45 && ((!y47) || y48))), (10, vi ((v46 + 1 : Nat) : Int))] [some (.row 1 (List.map vt v26))] ?_
      exact Vs.intro sy ⟨(v45 && ((!y47) || y48), v46 + 1), rfl, h⟩
    have h := cond_f h c4
    refine TriE.exit ?_
    exact Vs.intro sy ⟨v45, rfl, h⟩
  have h := cond_f h c1
  refine TriE.exit ?_
  exact Vs.intro sy ⟨v38, rfl, h⟩
theorem agrafferef08_CheckTasks_ok (n : Nat) (a0 : List Task) (r : Int) (h : agrafferef08_CheckTasks n a0 = some r) : FnL Tryz.prog 21 [eS 6 eTask a0] [] (vi r) [] := by
  dsimp only [agrafferef08_CheckTasks] at h
  refine FnL.ofS (ts := [2]) Tryz.call21 Tryz.func21 rfl rfl (Nat.le_of_ble_eq_true rfl) (Nat.le_of_ble_eq_true rfl) (fun j h => absurd h (Nat.not_lt_zero j)) ?_
  refine sr [(0, eS 6 eTask a0)] [] ?_
  refine TriE.seq ?_
  refine sj ?_
  refine rn 1 [(0, eS 6 eTask a0), (7, eS 6 eTask a0)] [] ?_
  refine jv (vi (a0.length : Int)) (cy (I0 8 (.len 0 (.t 7)))) (ok_len_m rfl) rfl ?_
  refine jv (vb (decide (60 < a0.length))) (cy (I0 9 (.bin .gtr false (.t 8) (.c (.p (.int .i64 60)))))) (n_gtr (i := a0.length) (j := 60) rfl rfl) rfl ?_
  refine jp [(0, eS 6 eTask a0), (9, vb (decide (60 < a0.length)))] ?_
  refine TriE.cond (b := decide (60 < a0.length)) rfl (fun c1 => ?_) (fun c1 => ?_)
  · have h := cond_t h c1
    refine sr [(2, vi 8)] [] ?_
    refine TriE.ret ?_
    have h := Option.some.inj h
    subst h
    exact DoneS.ret (S' := ⟨[(2, vi 8)], []⟩) Sees.refl rfl rfl
  have h := cond_f h c1
  refine TriE.skip ?_
  refine TriE.seqK h (fun (_ : Unit) => St.mk [(0, eS 6 eTask a0)] []) ?_ ?_
  · rintro ⟨⟩ h
    refine sr [(0, eS 6 eTask a0), (5, .emp)] [] ?_
    refine TriE.seqK h (fun (v6 : (List Str)) => St.mk [(0, eS 6 eTask a0), (5, .own 0 0 v6.length)] [some (.row 1 (List.map vt v6))]) ?_ ?_
    · rintro v6 h
      refine TriE.seq ?_
      refine sj ?_
      refine rn 2 [(0, eS 6 eTask a0), (36, eS 6 eTask a0), (37, .own 0 0 v6.length)] [some (.row 1 (List.map vt v6))] ?_
      refine RegJ.sees (Sees.freeze 0 (fr' := [(0, eS 6 eTask a0), (36, eS 6 eTask a0), (37, eS 1 vt v6)]) (ob' := [none]) rfl (frz_row vt_frzE _) (.cons (.refl _) (.cons (.refl _) (.cons (frz_full rfl) .nil))) rfl) ?_
      obtain ⟨y7, hy7, h⟩ := bind_some h
      refine RegJ.op (Op1.call (y' := eS 1 vt y7) (obx := []) (oby := []) (ob2 := [none]) _ _ (cy (I0 38 (.call 78 [(.t 36), (.t 37)]))) rfl (agrafferef08_Order_ok n a0 v6 y7 hy7) [] (by kernel_rfl) (.cons rfl (.cons rfl (.cons rfl .nil))) (by kernel_rfl) (by kernel_rfl) ObsRen.nil (by kernel_rfl) ObsRen.nil (by kernel_rfl)) ?_
      refine jv (vi (y7.length : Int)) (cy (I0 39 (.len 0 (.t 38)))) (ok_len_m rfl) rfl ?_
      refine rn 1 [(39, vi (y7.length : Int)), (40, eS 6 eTask a0)] [none] ?_
      refine jv (vi (a0.length : Int)) (cy (I0 41 (.len 0 (.t 40)))) (ok_len_m rfl) rfl ?_
      refine jv (vb (decide (y7.length < a0.length))) (cy (I0 42 (.bin .lss false (.t 39) (.t 41)))) (n_lss (i := y7.length) (j := a0.length) rfl rfl) rfl ?_
      refine jp [(42, vb (decide (y7.length < a0.length)))] ?_
      refine TriE.cond (b := decide (y7.length < a0.length)) rfl (fun c8 => ?_) (fun c8 => ?_)
      · have h := cond_t h c8
        refine sr [(2, vi 21)] [none] ?_
        refine TriE.ret ?_
        have h := Option.some.inj h
        subst h
        exact DoneS.ret (S' := ⟨[(2, vi 21)], []⟩) (sc [] (by decide) (by kernel_rfl) ObRen.nil rfl rfl) rfl rfl
      have h := cond_f h c8
      refine TriE.skip ?_
      refine sr [(2, vi 0)] [none] ?_
      refine TriE.ret ?_
      have h := Option.some.inj h
      subst h
      exact DoneS.ret (S' := ⟨[(2, vi 0)], []⟩) (sc [] (by decide) (by kernel_rfl) ObRen.nil rfl rfl) rfl rfl
    intro k2 h
    refine sr [(0, eS 6 eTask a0), (5, .emp), (6, vi 0)] [] ?_
    refine TriE.block ?_
    refine TriE.sees (S' := ⟨[(0, eS 6 eTask a0), (5, .own 0 0 ([] : List Str).length), (6, vi 0)], [some (.row 1 (List.map vt ([] : List Str)))]⟩) (Sees.trans (Sees.co (fr' := [(0, eS 6 eTask a0), (5, .own 0 0 0), (6, vi 0)]) (ob' := []) (.cons .same (.cons .own (.cons .same .nil))) ObCo.nil 1) sy) ?_
    refine TriE.loopN h (fun (t : (List Str) × Nat) => match t with | (v4, v5) => St.mk [(0, eS 6 eTask a0), (5, .own 0 0 v4.length), (6, vi v5)] [some (.row 1 (List.map vt v4))]) rfl ?_
    clear h
    rintro back ⟨v4, v5⟩ h
    dsimp only [agrafferef08_CheckTasks_L2] at h
    refine TriE.seq ?_
    refine sj ?_
    refine rn 2 [(0, eS 6 eTask a0), (5, .own 0 0 v4.length), (6, vi v5), (22, vi v5), (23, eS 6 eTask a0)] [some (.row 1 (List.map vt v4))] ?_
    refine jv (vi (a0.length : Int)) (cy (I0 24 (.len 0 (.t 23)))) (ok_len_m rfl) rfl ?_
    refine jv (vb (decide (v5 < a0.length))) (cy (I0 25 (.bin .lss false (.t 22) (.t 24)))) (n_lss (i := v5) (j := a0.length) rfl rfl) rfl ?_
    refine jp [(0, eS 6 eTask a0), (5, .own 0 0 v4.length), (6, vi v5), (25, vb (decide (v5 < a0.length)))] ?_
    refine TriE.cond (b := decide (v5 < a0.length)) rfl (fun c5 => ?_) (fun c5 => ?_)
    · have h := cond_t h c5
      refine TriE.skip ?_
      refine TriE.seq ?_
      refine TriE.block ?_
      refine TriE.regJ ?_
      refine rn 3 [(0, eS 6 eTask a0), (6, vi v5), (28, .own 0 0 v4.length), (29, eS 6 eTask a0), (30, vi v5)] [some (.row 1 (List.map vt v4))] ?_
      refine jv (.fptr 6 (List.map eTask a0) v5 0) (cy (I0 31 (.iaddr 6 (.t 29) (.t 30)))) (ok_iaddr_m (j := v5) rfl rfl rfl c5) rfl ?_
      refine rn 1 [(0, eS 6 eTask a0), (6, vi v5), (28, .own 0 0 v4.length), (32, .fptr 6 (List.map eTask a0) v5 0)] [some (.row 1 (List.map vt v4))] ?_
      refine jv (vt ((ix a0 v5).Name)) (cy (I0 33 (.load false 1 (.t 32)))) (ok_load_fm (v := vt ((ix a0 v5).Name)) rfl c5 rfl) rfl ?_
      refine rn 1 [(0, eS 6 eTask a0), (6, vi v5), (28, .own 0 0 v4.length), (34, .own 1 0 1)] [some (.row 1 (List.map vt v4)), some (.row 1 [vt ((ix a0 v5).Name)])] ?_
      obtain ⟨c6, h⟩ := chk_some h
      refine je (.own 2 0 ((v4 ++ ([(ix a0 v5).Name] : List Str)).length)) [none, some (.row 1 [vt ((ix a0 v5).Name)]), some (.row 1 (List.map vt (v4 ++ ([(ix a0 v5).Name] : List Str))))] (cy (I0 35 (.app 1 16 (.t 28) (.t 34)))) (ok_app_own (l := v4) (l2 := ([(ix a0 v5).Name] : List Str)) (e := vt) (u := .own 1 0 1) rfl rfl rfl rfl rfl c6) rfl rfl rfl ?_
      refine jq 1 [(0, eS 6 eTask a0), (6, vi v5), (5, .own 2 0 ((v4 ++ ([(ix a0 v5).Name] : List Str)).length))] [none, some (.row 1 [vt ((ix a0 v5).Name)]), some (.row 1 (List.map vt (v4 ++ ([(ix a0 v5).Name] : List Str))))] ?_
      refine TriE.regJ ?_
      refine rn 1 [(0, eS 6 eTask a0), (5, .own 2 0 ((v4 ++ ([(ix a0 v5).Name] : List Str)).length)), (26, vi v5)] [none, some (.row 1 [vt ((ix a0 v5).Name)]), some (.row 1 (List.map vt (v4 ++ ([(ix a0 v5).Name] : List Str))))] ?_
      obtain ⟨c7, h⟩ := chk_some h
      refine jv (vi ((v5 + 1 : Nat) : Int)) (cy (I0 27 (.bin .add false (.t 26) (.c (.p (.int .i64 1)))))) (r_addn (i := v5) (j := 1) rfl rfl c7) rfl ?_
      refine jq 1 [(0, eS 6 eTask a0), (5, .own 2 0 ((v4 ++ ([(ix a0 v5).Name] : List Str)).length)), (6, vi ((v5 + 1 : Nat) : Int))] [none, some (.row 1 [vt ((ix a0 v5).Name)]), some (.row 1 (List.map vt (v4 ++ ([(ix a0 v5).Name] : List Str))))] ?_
      exact Vs.intro (sc [2] (by decide) (by kernel_rfl) (obRen_row vt_frz rfl .nil) rfl rfl) ⟨((v4 ++ ([(ix a0 v5).Name] : List Str)), v5 + 1), rfl, h⟩
    have h := cond_f h c5
    refine TriE.exit ?_
    exact Vs.intro sy ⟨v4, rfl, h⟩
  intro k1 h
  refine sr [(0, eS 6 eTask a0), (3, vi 0)] [] ?_
  refine TriE.block ?_
  refine TriE.sees (S' := ⟨[(0, eS 6 eTask a0), (3, vi 0)], []⟩) sy ?_
  refine TriE.loopN h (fun (v2 : Nat) => St.mk [(0, eS 6 eTask a0), (3, vi v2)] []) rfl ?_
  clear h
  rintro back v2 h
  dsimp only [agrafferef08_CheckTasks_L1] at h
  refine TriE.seq ?_
  refine sj ?_
  refine rn 2 [(0, eS 6 eTask a0), (3, vi v2), (10, vi v2), (11, eS 6 eTask a0)] [] ?_
  refine jv (vi (a0.length : Int)) (cy (I0 12 (.len 0 (.t 11)))) (ok_len_m rfl) rfl ?_
  refine jv (vb (decide (v2 < a0.length))) (cy (I0 13 (.bin .lss false (.t 10) (.t 12)))) (n_lss (i := v2) (j := a0.length) rfl rfl) rfl ?_
  refine jp [(0, eS 6 eTask a0), (3, vi v2), (13, vb (decide (v2 < a0.length)))] ?_
  refine TriE.cond (b := decide (v2 < a0.length)) rfl (fun c2 => ?_) (fun c2 => ?_)
  · have h := cond_t h c2
    refine TriE.skip ?_
    refine TriE.seq ?_
    refine TriE.block ?_
    refine sj ?_
    refine rn 2 [(0, eS 6 eTask a0), (3, vi v2), (16, eS 6 eTask a0), (17, vi v2)] [] ?_
    obtain ⟨y3, hy3, h⟩ := bind_some h
    refine RegJ.op (Op1.call (y' := vi y3) (obx := []) (oby := []) (ob2 := []) _ _ (cy (I0 18 (.call 88 [(.t 16), (.t 17)]))) rfl (agrafferef08_task_ok n a0 (v2 : Int) y3 hy3) [] (by kernel_rfl) (.cons rfl (.cons rfl (.cons rfl .nil))) (by kernel_rfl) (by kernel_rfl) ObsRen.nil (by kernel_rfl) ObsRen.nil (by kernel_rfl)) ?_
    refine jq 1 [(0, eS 6 eTask a0), (3, vi v2), (4, vi y3)] [] ?_
    refine sr [(0, eS 6 eTask a0), (3, vi v2), (4, vi y3), (20, vb (y3 != (0 : Int)))] [] ?_
    refine TriE.cond (b := (y3 != (0 : Int))) rfl (fun c3 => ?_) (fun c3 => ?_)
    · have h := cond_t h c3
      refine sr [(2, vi y3)] [] ?_
      refine TriE.ret ?_
      have h := Option.some.inj h
      subst h
      exact DoneS.ret (S' := ⟨[(2, vi y3)], []⟩) Sees.refl rfl rfl
    have h := cond_f h c3
    refine TriE.skip ?_
    refine TriE.regJ ?_
    refine rn 1 [(0, eS 6 eTask a0), (14, vi v2)] [] ?_
    obtain ⟨c4, h⟩ := chk_some h
    refine jv (vi ((v2 + 1 : Nat) : Int)) (cy (I0 15 (.bin .add false (.t 14) (.c (.p (.int .i64 1)))))) (r_addn (i := v2) (j := 1) rfl rfl c4) rfl ?_
    refine jq 1 [(0, eS 6 eTask a0), (3, vi ((v2 + 1 : Nat) : Int))] [] ?_
    exact Vs.intro sy ⟨(v2 + 1), rfl, h⟩
  have h := cond_f h c2
  refine TriE.exit ?_
  exact Vs.intro sy ⟨(), rfl, h⟩
theorem agraffelaw08_stock_ok (n : Nat) (a0 : List Stocked) (r : Unit) (h : agraffelaw08_stock n a0 = some r) : FnL Tryz.prog 23 [eS 3 eStocked a0] [] (eS 3 eStocked a0) [] := by
  dsimp only [agraffelaw08_stock] at h
  refine FnL.ofS (ts := [2]) Tryz.call23 Tryz.func23 rfl rfl (Nat.le_of_ble_eq_true rfl) (Nat.le_of_ble_eq_true rfl) (fun j h => absurd h (Nat.not_lt_zero j)) ?_
  refine sr [(0, eS 3 eStocked a0)] [] ?_
  refine sj ?_
  refine rn 2 [(3, .emp), (4, eS 3 eStocked a0)] [] ?_
  obtain ⟨c1, h⟩ := chk_some h
  refine je (.own 0 0 a0.length) [some (.row 3 (List.map eStocked a0))] (cy (I0 5 (.app 3 32 (.t 3) (.t 4)))) (ok_app_emp (e := eStocked) (l := a0) (u := eS 3 eStocked a0) rfl rfl els_sl c1) rfl rfl rfl ?_
  refine jq 1 [(2, .own 0 0 a0.length)] [some (.row 3 (List.map eStocked a0))] ?_
  refine TriE.ret ?_
  have h := Option.some.inj h
  subst h
  exact DoneS.ret (S' := ⟨[(2, eS 3 eStocked a0)], []⟩) (Sees.trans (Sees.freeze 0 (fr' := [(2, eS 3 eStocked a0)]) (ob' := [none]) rfl (frz_row eStocked_frzE _) (.cons (frz_full rfl) .nil) rfl) (sc [] (by decide) (by kernel_rfl) ObRen.nil rfl rfl)) rfl rfl
theorem restore_stocked_f1_ok (n : Nat) (a0 : Stocked) (a1 : Str) (r : Unit) (h : restore_stocked_f1 n a0 a1 = some r) : FnL Tryz.prog 158 [.agg [vt a0.Part, vi a0.Cents, vi a0.Count], .ptr 0 0 0] [some (.row 1 [vt a1])] (vb (a0.Part == a1)) [some (.row 1 [vt a1])] := by
  dsimp only [restore_stocked_f1] at h
  refine FnL.ofS (ts := [3]) Tryz.call158 Tryz.func158 rfl rfl (Nat.le_of_ble_eq_true rfl) (Nat.le_of_ble_eq_true rfl) (hall_of (.cons rfl .nil)) ?_
  refine sr [(1, .ptr 0 0 0), (2, .ptr 1 0 0)] [some (.row 1 [vt a1]), some (.row 3 [.agg [vt a0.Part, vi a0.Cents, vi a0.Count]])] ?_
  refine sr [(3, vb (a0.Part == a1))] [some (.row 1 [vt a1]), some (.row 3 [.agg [vt a0.Part, vi a0.Cents, vi a0.Count]])] ?_
  refine TriE.ret ?_
  have h := Option.some.inj h
  subst h
  exact DoneS.ret (S' := ⟨[(3, vb (a0.Part == a1))], [some (.row 1 [vt a1])]⟩) (sc [0] (by decide) (by kernel_rfl) (.cons rfl .nil) rfl rfl) rfl rfl
theorem slices_IndexFunc_Stocked_ok (n : Nat) (a0 : List Stocked) (a1 : Str) (r : Int) (h : slices_IndexFunc_Stocked n a0 a1 = some r) : FnL Tryz.prog 157 [eS 3 eStocked a0, .fn (.func 158) [] [.ptr 0 0 0]] [some (.row 1 [vt a1])] (vi r) [some (.row 1 [vt a1])] := by
  dsimp only [slices_IndexFunc_Stocked] at h
  refine FnL.ofS (ts := [4]) Tryz.call157 Tryz.func157 rfl rfl (Nat.le_of_ble_eq_true rfl) (Nat.le_of_ble_eq_true rfl) (hall_of (.cons rfl .nil)) ?_
  refine sr [(0, eS 3 eStocked a0), (1, .fn (.func 158) [] [.ptr 0 0 0])] [some (.row 1 [vt a1])] ?_
  refine TriE.seqK h (fun (_ : Unit) => St.mk [] [some (.row 1 [vt a1])]) ?_ ?_
  · rintro ⟨⟩ h
    refine sr [(4, vi (-1))] [some (.row 1 [vt a1])] ?_
    refine TriE.ret ?_
    have h := Option.some.inj h
    subst h
    exact DoneS.ret (S' := ⟨[(4, vi (-1))], [some (.row 1 [vt a1])]⟩) Sees.refl rfl rfl
  intro k1 h
  refine sj ?_
  refine rn 1 [(0, eS 3 eStocked a0), (1, .fn (.func 158) [] [.ptr 0 0 0]), (6, eS 3 eStocked a0)] [some (.row 1 [vt a1])] ?_
  refine jv (vi (a0.length : Int)) (cy (I0 7 (.len 0 (.t 6)))) (ok_len_m rfl) rfl ?_
  refine jq 1 [(0, eS 3 eStocked a0), (1, .fn (.func 158) [] [.ptr 0 0 0]), (7, vi (a0.length : Int)), (8, vi 0)] [some (.row 1 [vt a1])] ?_
  refine TriE.block ?_
  refine TriE.sees (S' := ⟨[(0, eS 3 eStocked a0), (1, .fn (.func 158) [] [.ptr 0 0 0]), (7, vi (a0.length : Int)), (8, vi 0)], [some (.row 1 [vt a1])]⟩) sy ?_
  refine TriE.loopN h (fun (v2 : Nat) => St.mk [(0, eS 3 eStocked a0), (1, .fn (.func 158) [] [.ptr 0 0 0]), (7, vi (a0.length : Int)), (8, vi v2)] [some (.row 1 [vt a1])]) rfl ?_
  clear h
  rintro back v2 h
  dsimp only [slices_IndexFunc_Stocked_L1] at h
  refine sj ?_
  refine jv (vb (decide (v2 < a0.length))) (cy (I0 9 (.bin .lss false (.t 8) (.t 7)))) (n_lss (i := v2) (j := a0.length) rfl rfl) rfl ?_
  refine jp [(0, eS 3 eStocked a0), (1, .fn (.func 158) [] [.ptr 0 0 0]), (7, vi (a0.length : Int)), (8, vi v2), (9, vb (decide (v2 < a0.length)))] ?_
  refine TriE.seq ?_
  refine TriE.cond (b := decide (v2 < a0.length)) rfl (fun c1 => ?_) (fun c1 => ?_)
  · have h := cond_t h c1
    refine TriE.skip ?_
    refine TriE.seq ?_
    refine TriE.block ?_
    refine sr [(0, eS 3 eStocked a0), (1, .fn (.func 158) [] [.ptr 0 0 0]), (7, vi (a0.length : Int)), (8, vi v2), (5, vi v2)] [some (.row 1 [vt a1])] ?_
    refine sj ?_
    refine rn 3 [(0, eS 3 eStocked a0), (1, .fn (.func 158) [] [.ptr 0 0 0]), (7, vi (a0.length : Int)), (8, vi v2), (5, vi v2), (11, .fn (.func 158) [] [.ptr 0 0 0]), (12, eS 3 eStocked a0), (13, vi v2)] [some (.row 1 [vt a1])] ?_
    refine jv (.fptr 3 (List.map eStocked a0) v2 0) (cy (I0 14 (.iaddr 3 (.t 12) (.t 13)))) (ok_iaddr_m (j := v2) rfl rfl rfl c1) rfl ?_
    refine jv (.agg [vt ((ix a0 v2).Part), vi ((ix a0 v2).Cents), vi ((ix a0 v2).Count)]) (cy (I0 15 (.load true 3 (.t 14)))) (ok_load_fm (v := .agg [vt ((ix a0 v2).Part), vi ((ix a0 v2).Cents), vi ((ix a0 v2).Count)]) rfl c1 rfl) rfl ?_
    obtain ⟨y3, hy3, h⟩ := bind_some h
    refine RegJ.op (Op1.dyn (y' := vb ((ix a0 v2).Part == a1)) (obx := [some (.row 1 [vt a1])]) (oby := [some (.row 1 [vt a1])]) (ob2 := [some (.row 1 [vt a1])]) _ _ _ (cy (I0 16 (.dyn (.t 11) [(.t 15)]))) rfl rfl (restore_stocked_f1_ok n (ix a0 v2) a1 y3 hy3) [0] (by kernel_rfl) (.cons rfl (.cons rfl .nil)) (by kernel_rfl) (by kernel_rfl) (.cons rfl .nil) (by kernel_rfl) (.cons rfl .nil) (by kernel_rfl)) ?_
    refine jp [(0, eS 3 eStocked a0), (1, .fn (.func 158) [] [.ptr 0 0 0]), (7, vi (a0.length : Int)), (8, vi v2), (5, vi v2), (16, vb ((ix a0 v2).Part == a1))] ?_
    refine TriE.cond (b := ((ix a0 v2).Part == a1)) rfl (fun c2 => ?_) (fun c2 => ?_)
    · have h := cond_t h c2
      refine sr [(4, vi v2)] [some (.row 1 [vt a1])] ?_
      refine TriE.ret ?_
      have h := Option.some.inj h
      subst h
      exact DoneS.ret (S' := ⟨[(4, vi v2)], [some (.row 1 [vt a1])]⟩) Sees.refl rfl rfl
    have h := cond_f h c2
    refine TriE.skip ?_
    refine TriE.regJ ?_
    obtain ⟨c3, h⟩ := chk_some h
    refine jv (vi ((v2 + 1 : Nat) : Int)) (cy (I0 18 (.bin .add false (.t 8) (.c (.p (.int .i64 1)))))) (r_addn (i := v2) (j := 1) rfl rfl c3) rfl ?_
    refine jq 1 [(0, eS 3 eStocked a0), (1, .fn (.func 158) [] [.ptr 0 0 0]), (7, vi (a0.length : Int)), (8, vi ((v2 + 1 : Nat) : Int))] [some (.row 1 [vt a1])] ?_
    exact Vs.intro sy ⟨(v2 + 1), rfl, h⟩
  have h := cond_f h c1
  refine TriE.exit ?_
  exact Vs.intro sy ⟨(), rfl, h⟩
theorem restore_stocked_ok (n : Nat) (a0 : List Stocked) (a1 : Str) (r : Int) (h : restore_stocked n a0 a1 = some r) : FnL Tryz.prog 90 [eS 3 eStocked a0, vt a1] [] (vi r) [] := by
  dsimp only [restore_stocked] at h
  refine FnL.ofS (ts := [4]) Tryz.call90 Tryz.func90 rfl rfl (Nat.le_of_ble_eq_true rfl) (Nat.le_of_ble_eq_true rfl) (fun j h => absurd h (Nat.not_lt_zero j)) ?_
  refine sr [(0, eS 3 eStocked a0), (3, .ptr 0 0 0)] [some (.row 1 [vt a1])] ?_
  refine sj ?_
  refine rn 2 [(5, eS 3 eStocked a0), (6, .fn (.func 158) [] [.ptr 0 0 0])] [some (.row 1 [vt a1])] ?_
  obtain ⟨y1, hy1, h⟩ := bind_some h
  refine RegJ.op (Op1.call (y' := vi y1) (obx := [some (.row 1 [vt a1])]) (oby := [some (.row 1 [vt a1])]) (ob2 := [some (.row 1 [vt a1])]) _ _ (cy (I0 7 (.call 157 [(.t 5), (.t 6)]))) rfl (slices_IndexFunc_Stocked_ok n a0 a1 y1 hy1) [0] (by kernel_rfl) (.cons rfl (.cons rfl (.cons rfl .nil))) (by kernel_rfl) (by kernel_rfl) (.cons rfl .nil) (by kernel_rfl) (.cons rfl .nil) (by kernel_rfl)) ?_
  refine jq 1 [(4, vi y1)] [some (.row 1 [vt a1])] ?_
  refine TriE.ret ?_
  have h := Option.some.inj h
  subst h
  exact DoneS.ret (S' := ⟨[(4, vi y1)], []⟩) (sc [] (by decide) (by kernel_rfl) ObRen.nil rfl rfl) rfl rfl
theorem restore_CheckStock_ok (n : Nat) (a0 : List Stocked) (r : Int) (h : restore_CheckStock n a0 = some r) : FnL Tryz.prog 22 [eS 3 eStocked a0] [] (vi r) [] := by
  dsimp only [restore_CheckStock] at h
  refine FnL.ofS (ts := [2]) Tryz.call22 Tryz.func22 rfl rfl (Nat.le_of_ble_eq_true rfl) (Nat.le_of_ble_eq_true rfl) (fun j h => absurd h (Nat.not_lt_zero j)) ?_
  refine sr [(0, eS 3 eStocked a0)] [] ?_
  refine TriE.seq ?_
  refine sj ?_
  refine rn 1 [(0, eS 3 eStocked a0), (5, eS 3 eStocked a0)] [] ?_
  refine jv (vi (a0.length : Int)) (cy (I0 6 (.len 0 (.t 5)))) (ok_len_m rfl) rfl ?_
  refine jv (vb (decide (60 < a0.length))) (cy (I0 7 (.bin .gtr false (.t 6) (.c (.p (.int .i64 60)))))) (n_gtr (i := a0.length) (j := 60) rfl rfl) rfl ?_
  refine jp [(0, eS 3 eStocked a0), (7, vb (decide (60 < a0.length)))] ?_
  refine TriE.cond (b := decide (60 < a0.length)) rfl (fun c1 => ?_) (fun c1 => ?_)
  · have h := cond_t h c1
    refine sr [(2, vi 8)] [] ?_
    refine TriE.ret ?_
    have h := Option.some.inj h
    subst h
    exact DoneS.ret (S' := ⟨[(2, vi 8)], []⟩) Sees.refl rfl rfl
  have h := cond_f h c1
  refine TriE.skip ?_
  refine TriE.seqK h (fun (_ : Unit) => St.mk [] []) ?_ ?_
  · rintro ⟨⟩ h
    refine sr [(2, vi 0)] [] ?_
    refine TriE.ret ?_
    have h := Option.some.inj h
    subst h
    exact DoneS.ret (S' := ⟨[(2, vi 0)], []⟩) Sees.refl rfl rfl
  intro k1 h
  refine sj ?_
  refine rn 1 [(0, eS 3 eStocked a0), (8, eS 3 eStocked a0)] [] ?_
  refine jv (vi (a0.length : Int)) (cy (I0 9 (.len 0 (.t 8)))) (ok_len_m rfl) rfl ?_
  refine jq 1 [(0, eS 3 eStocked a0), (8, eS 3 eStocked a0), (9, vi (a0.length : Int)), (10, vi 0)] [] ?_
  refine TriE.block ?_
  refine TriE.sees (S' := ⟨[(0, eS 3 eStocked a0), (8, eS 3 eStocked a0), (9, vi (a0.length : Int)), (10, vi 0)], []⟩) sy ?_
  refine TriE.loopN h (fun (v5 : Nat) => St.mk [(0, eS 3 eStocked a0), (8, eS 3 eStocked a0), (9, vi (a0.length : Int)), (10, vi v5)] []) rfl ?_
  clear h
  rintro back v5 h
  dsimp only [restore_CheckStock_L1] at h
  refine sj ?_
  refine jv (vb (decide (v5 < a0.length))) (cy (I0 11 (.bin .lss false (.t 10) (.t 9)))) (n_lss (i := v5) (j := a0.length) rfl rfl) rfl ?_
  refine jp [(0, eS 3 eStocked a0), (8, eS 3 eStocked a0), (9, vi (a0.length : Int)), (10, vi v5), (11, vb (decide (v5 < a0.length)))] ?_
  refine TriE.seq ?_
  refine TriE.cond (b := decide (v5 < a0.length)) rfl (fun c2 => ?_) (fun c2 => ?_)
  · have h := cond_t h c2
    refine TriE.skip ?_
    refine TriE.seq ?_
    refine TriE.block ?_
    refine sj ?_
    refine rn 1 [(0, eS 3 eStocked a0), (8, eS 3 eStocked a0), (9, vi (a0.length : Int)), (10, vi v5), (12, vi v5)] [] ?_
    refine jv (.fptr 3 (List.map eStocked a0) v5 0) (cy (I0 13 (.iaddr 3 (.t 8) (.t 10)))) (ok_iaddr_m (j := v5) rfl rfl rfl c2) rfl ?_
    refine jv (.agg [vt ((ix a0 v5).Part), vi ((ix a0 v5).Cents), vi ((ix a0 v5).Count)]) (cy (I0 14 (.load true 3 (.t 13)))) (ok_load_fm (v := .agg [vt ((ix a0 v5).Part), vi ((ix a0 v5).Cents), vi ((ix a0 v5).Count)]) rfl c2 rfl) rfl ?_
    refine jq 3 [(0, eS 3 eStocked a0), (8, eS 3 eStocked a0), (9, vi (a0.length : Int)), (10, vi v5), (4, .ptr 0 0 0), (3, vi v5)] [some (.row 3 [.agg [vt ((ix a0 v5).Part), vi ((ix a0 v5).Cents), vi ((ix a0 v5).Count)]])] ?_
    refine TriE.block ?_
    refine sj ?_
    refine rn 2 [(0, eS 3 eStocked a0), (8, eS 3 eStocked a0), (9, vi (a0.length : Int)), (10, vi v5), (4, .ptr 0 0 0), (3, vi v5), (17, vt ((ix a0 v5).Part))] [some (.row 3 [.agg [vt ((ix a0 v5).Part), vi ((ix a0 v5).Cents), vi ((ix a0 v5).Count)]])] ?_
    obtain ⟨y6, hy6, h⟩ := bind_some h
    refine RegJ.op (Op1.call (y' := vb y6) (obx := []) (oby := []) (ob2 := [some (.row 3 [.agg [vt ((ix a0 v5).Part), vi ((ix a0 v5).Cents), vi ((ix a0 v5).Count)]])]) _ _ (cy (I0 18 (.call 89 [(.t 17)]))) rfl (restore_isName_ok n ((ix a0 v5).Part) y6 hy6) [] (by kernel_rfl) (.cons rfl (.cons rfl .nil)) (by kernel_rfl) (by kernel_rfl) ObsRen.nil (by kernel_rfl) ObsRen.nil (by kernel_rfl)) ?_
    refine jq 2 [(0, eS 3 eStocked a0), (8, eS 3 eStocked a0), (9, vi (a0.length : Int)), (10, vi v5), (4, .ptr 0 0 0), (3, vi v5), (15, vb (!y6))] [some (.row 3 [.agg [vt ((ix a0 v5).Part), vi ((ix a0 v5).Cents), vi ((ix a0 v5).Count)]])] ?_
    refine TriE.cond (b := !y6) rfl (fun c3 => ?_) (fun c3 => ?_)
    · have h := cond_t h c3
      refine sr [(2, vi 4)] [some (.row 3 [.agg [vt ((ix a0 v5).Part), vi ((ix a0 v5).Cents), vi ((ix a0 v5).Count)]])] ?_
      refine TriE.ret ?_
      have h := Option.some.inj h
      subst h
      exact DoneS.ret (S' := ⟨[(2, vi 4)], []⟩) (sc [] (by decide) (by kernel_rfl) ObRen.nil rfl rfl) rfl rfl
    have h := cond_f h c3
    refine TriE.seq ?_
    refine TriE.sees (Sees.less (fr' := [(0, eS 3 eStocked a0), (8, eS 3 eStocked a0), (9, vi (a0.length : Int)), (10, vi v5), (4, .ptr 0 0 0), (3, vi v5)]) (.cons rfl (.cons rfl (.cons rfl (.cons rfl (.cons rfl (.cons rfl .nil))))))) ?_
    refine TriE.draw (by kernel_rfl) ?_
    refine RegD.run 2 [(22, vi v5), (21, eS 3 eStocked a0), (0, eS 3 eStocked a0), (8, eS 3 eStocked a0), (9, vi (a0.length : Int)), (10, vi v5), (4, .ptr 0 0 0), (3, vi v5)] [some (.row 3 [.agg [vt ((ix a0 v5).Part), vi ((ix a0 v5).Cents), vi ((ix a0 v5).Count)]]), none, none] (by kernel_rfl) ?_
    obtain ⟨c4, h⟩ := chk_some h
    refine dv (eS 3 eStocked (List.take v5 a0)) (cy (I0 23 (.slc 3 (.t 21) none (some (.t 22)) none))) (ok_slc_hi (j := v5) rfl rfl rfl c4) rfl ?_
    refine RegD.run 2 [(25, vt ((ix a0 v5).Part)), (24, .ptr 0 0 0), (23, eS 3 eStocked (List.take v5 a0)), (22, vi v5), (21, eS 3 eStocked a0), (0, eS 3 eStocked a0), (8, eS 3 eStocked a0), (9, vi (a0.length : Int)), (10, vi v5), (4, .ptr 0 0 0), (3, vi v5)] [some (.row 3 [.agg [vt ((ix a0 v5).Part), vi ((ix a0 v5).Cents), vi ((ix a0 v5).Count)]]), none, none, none, none, none] (by kernel_rfl) ?_
    obtain ⟨y7, hy7, h⟩ := bind_some h
    refine RegD.op (OpD.call (y' := vi y7) (obx := []) (oby := []) (ob2 := [some (.row 3 [.agg [vt ((ix a0 v5).Part), vi ((ix a0 v5).Cents), vi ((ix a0 v5).Count)]]), none, none, none, none, none, none]) (tch := []) 0 _ _ (cy (I0 26 (.call 90 [(.t 23), (.t 25)]))) (restore_stocked_ok n (List.take v5 a0) ((ix a0 v5).Part) y7 hy7) [] (by kernel_rfl) (.cons rfl (.cons rfl (.cons rfl .nil))) (by kernel_rfl) (by kernel_rfl) ObsRen.nil (by kernel_rfl) ObsRen.nil (by kernel_rfl) rfl (.inr ⟨rfl, rfl⟩)) ?_
    refine RegD.run 2 [(20, vb (decide ((0 : Int) ≤ y7))), (27, vb (decide ((0 : Int) ≤ y7))), (26, vi y7), (25, vt ((ix a0 v5).Part)), (24, .ptr 0 0 0), (23, eS 3 eStocked (List.take v5 a0)), (22, vi v5), (21, eS 3 eStocked a0), (0, eS 3 eStocked a0), (8, eS 3 eStocked a0), (9, vi (a0.length : Int)), (10, vi v5), (4, .ptr 0 0 0), (3, vi v5)] [some (.row 3 [.agg [vt ((ix a0 v5).Part), vi ((ix a0 v5).Cents), vi ((ix a0 v5).Count)]]), none, none, none, none, none, none, none, none] (by kernel_rfl) ?_
    refine RegD.done rfl (by kernel_rfl) (S' := ⟨[(0, eS 3 eStocked a0), (8, eS 3 eStocked a0), (9, vi (a0.length : Int)), (10, vi v5), (4, .ptr 0 0 0), (20, vb (decide ((0 : Int) ≤ y7)))], [some (.row 3 [.agg [vt ((ix a0 v5).Part), vi ((ix a0 v5).Cents), vi ((ix a0 v5).Count)]])]⟩) (sc [0] (by decide) (by kernel_rfl) (.cons rfl .nil) rfl rfl) ?_
    refine TriE.cond (b := decide ((0 : Int) ≤ y7)) rfl (fun c5 => ?_) (fun c5 => ?_)
    · have h := cond_t h c5
      refine sr [(2, vi 5)] [some (.row 3 [.agg [vt ((ix a0 v5).Part), vi ((ix a0 v5).Cents), vi ((ix a0 v5).Count)]])] ?_
      refine TriE.ret ?_
      have h := Option.some.inj h
      subst h
      exact DoneS.ret (S' := ⟨[(2, vi 5)], []⟩) (sc [] (by decide) (by kernel_rfl) ObRen.nil rfl rfl) rfl rfl
    have h := cond_f h c5
    refine sj ?_
    refine rn 2 [(0, eS 3 eStocked a0), (8, eS 3 eStocked a0), (9, vi (a0.length : Int)), (10, vi v5), (4, .ptr 0 0 0), (30, vi ((ix a0 v5).Cents))] [some (.row 3 [.agg [vt ((ix a0 v5).Part), vi ((ix a0 v5).Cents), vi ((ix a0 v5).Count)]])] ?_
    obtain ⟨y8, hy8, h⟩ := bind_some h
    refine RegJ.op (Op1.call (y' := vb ((decide (0 ≤ ((ix a0 v5).Cents))) && (decide (((ix a0 v5).Cents) ≤ 1000000000)))) (obx := []) (oby := []) (ob2 := [some (.row 3 [.agg [vt ((ix a0 v5).Part), vi ((ix a0 v5).Cents), vi ((ix a0 v5).Count)]])]) _ _ (cy (I0 31 (.call 91 [(.t 30), (.c (.p (.int .i64 0))), (.c (.p (.int .i64 1000000000)))]))) rfl (restore_within_ok n ((ix a0 v5).Cents) 0 1000000000 y8 hy8) [] (by kernel_rfl) (.cons rfl (.cons rfl (.cons rfl (.cons rfl .nil)))) (by kernel_rfl) (by kernel_rfl) ObsRen.nil (by kernel_rfl) ObsRen.nil (by kernel_rfl)) ?_
    refine rn 2 [(0, eS 3 eStocked a0), (8, eS 3 eStocked a0), (9, vi (a0.length : Int)), (10, vi v5), (4, .ptr 0 0 0), (33, vb (!((decide (0 ≤ ((ix a0 v5).Cents))) && (decide (((ix a0 v5).Cents) ≤ 1000000000)))))] [some (.row 3 [.agg [vt ((ix a0 v5).Part), vi ((ix a0 v5).Cents), vi ((ix a0 v5).Count)]])] ?_
    refine RegJ.op (Op1.valk (v := .ptr 0 0 2) _ _ (cy (IG 34 (.faddr 2 (.t 4)) 33 false)) rfl (by kernel_rfl) (fun hg => (.cons rfl .nil))) ?_
    refine RegJ.op (Op1.valk (v := vi ((ix a0 v5).Count)) _ _ (cy (IG 35 (.load false 1 (.t 34)) 33 false)) rfl (by kernel_rfl) (fun hg => (.cons hg .nil))) ?_
    obtain ⟨y9, hy9, h⟩ := bind_some h
    refine RegJ.op (Op1.callg (g := !(!((decide (0 ≤ ((ix a0 v5).Cents))) && (decide (((ix a0 v5).Cents) ≤ 1000000000))))) (y' := vb ((decide (0 ≤ ((ix a0 v5).Count))) && (decide (((ix a0 v5).Count) ≤ 10000)))) (obx := []) _ _ (cy (IG 36 (.call 91 [(.t 35), (.c (.p (.int .i64 0))), (.c (.p (.int .i64 10000)))]) 33 false)) rfl (fun hg => restore_within_ok n ((ix a0 v5).Count) 0 10000 y9 (gcall_some hy9 hg)) [] (fun hg => by kernel_rfl) (fun hg => (.cons rfl (.cons hg (.cons rfl (.cons rfl .nil))))) (by kernel_rfl) (by kernel_rfl) ObsRen.nil (by kernel_rfl) (by kernel_rfl)) ?_
    refine RegJ.op (Op1.valk (v := vb (!((decide (0 ≤ ((ix a0 v5).Count))) && (decide (((ix a0 v5).Count) ≤ 10000))))) _ _ (cy (IG 37 (.un .not (.t 36)) 33 false)) rfl (by kernel_rfl) (fun hg => (.cons hg .nil))) ?_
    refine RegJ.op (Op1.or (cy (I0 38 (.pick (.t 33) (.c (.p (.bool true))) (.t 37)))) rfl rfl (by first | exact hokO1 | exact hokO0 | simp)) ?_
    refine jq 1 [(0, eS 3 eStocked a0), (8, eS 3 eStocked a0), (9, vi (a0.length : Int)), (10, vi v5), (28, vb ((!((decide (0 ≤ ((ix a0 v5).Cents))) && (decide (((ix a0 v5).Cents) ≤ 1000000000)))) || (!((decide (0 ≤ ((ix a0 v5).Count))) && (decide (((ix a0 v5).Count) ≤ 10000))))))] [some (.row 3 [.agg [vt ((ix a0 v5).Part), vi ((ix a0 v5).Cents), vi ((ix a0 v5).Count)]])] ?_
    refine TriE.cond (b := (!((decide (0 ≤ ((ix a0 v5).Cents))) && (decide (((ix a0 v5).Cents) ≤ 1000000000)))) || (!((decide (0 ≤ ((ix a0 v5).Count))) && (decide (((ix a0 v5).Count) ≤ 10000))))) rfl (fun c6 => ?_) (fun c6 => ?_)
    · have h := cond_t h c6
      refine sr [(2, vi 2)] [some (.row 3 [.agg [vt ((ix a0 v5).Part), vi ((ix a0 v5).Cents), vi ((ix a0 v5).Count)]])] ?_
      refine TriE.ret ?_
      have h := Option.some.inj h
      subst h
      exact DoneS.ret (S' := ⟨[(2, vi 2)], []⟩) (sc [] (by decide) (by kernel_rfl) ObRen.nil rfl rfl) rfl rfl
    have h := cond_f h c6
    refine TriE.skip ?_
    refine TriE.regJ ?_
    obtain ⟨c7, h⟩ := chk_some h
    refine jv (vi ((v5 + 1 : Nat) : Int)) (cy (I0 39 (.bin .add false (.t 10) (.c (.p (.int .i64 1)))))) (r_addn (i := v5) (j := 1) rfl rfl c7) rfl ?_
    refine jq 1 [(0, eS 3 eStocked a0), (8, eS 3 eStocked a0), (9, vi (a0.length : Int)), (10, vi ((v5 + 1 : Nat) : Int))] [some (.row 3 [.agg [vt ((ix a0 v5).Part), vi ((ix a0 v5).Cents), vi ((ix a0 v5).Count)]])] ?_
    exact Vs.intro (sc [] (by decide) (by kernel_rfl) ObRen.nil rfl rfl) ⟨(v5 + 1), rfl, h⟩
  have h := cond_f h c2
  refine TriE.exit ?_
  exact Vs.intro sy ⟨(), rfl, h⟩
theorem agrafferef08_FindStock_ok (n : Nat) (a0 : List Stocked) (a1 : Str) (r : Int) (h : agrafferef08_FindStock n a0 a1 = some r) : FnL Tryz.prog 74 [eS 3 eStocked a0, vt a1] [] (vi r) [] := by
  dsimp only [agrafferef08_FindStock] at h
  refine FnL.ofS (ts := [4]) Tryz.call74 Tryz.func74 rfl rfl (Nat.le_of_ble_eq_true rfl) (Nat.le_of_ble_eq_true rfl) (fun j h => absurd h (Nat.not_lt_zero j)) ?_
  refine sr [(0, eS 3 eStocked a0), (1, vt a1)] [] ?_
  refine TriE.seqK h (fun (_ : Unit) => St.mk [] []) ?_ ?_
  · rintro ⟨⟩ h
    refine sr [(4, vi (-1))] [] ?_
    refine TriE.ret ?_
    have h := Option.some.inj h
    subst h
    exact DoneS.ret (S' := ⟨[(4, vi (-1))], []⟩) Sees.refl rfl rfl
  intro k1 h
  refine sr [(0, eS 3 eStocked a0), (1, vt a1), (5, vi 0)] [] ?_
  refine TriE.block ?_
  refine TriE.sees (S' := ⟨[(0, eS 3 eStocked a0), (1, vt a1), (5, vi 0)], []⟩) sy ?_
  refine TriE.loopN h (fun (v1 : Nat) => St.mk [(0, eS 3 eStocked a0), (1, vt a1), (5, vi v1)] []) rfl ?_
  clear h
  rintro back v1 h
  dsimp only [agrafferef08_FindStock_L1] at h
  refine TriE.seq ?_
  refine sj ?_
  refine rn 2 [(0, eS 3 eStocked a0), (1, vt a1), (5, vi v1), (6, vi v1), (7, eS 3 eStocked a0)] [] ?_
  refine jv (vi (a0.length : Int)) (cy (I0 8 (.len 0 (.t 7)))) (ok_len_m rfl) rfl ?_
  refine jv (vb (decide (v1 < a0.length))) (cy (I0 9 (.bin .lss false (.t 6) (.t 8)))) (n_lss (i := v1) (j := a0.length) rfl rfl) rfl ?_
  refine jp [(0, eS 3 eStocked a0), (1, vt a1), (5, vi v1), (9, vb (decide (v1 < a0.length)))] ?_
  refine TriE.cond (b := decide (v1 < a0.length)) rfl (fun c1 => ?_) (fun c1 => ?_)
  · have h := cond_t h c1
    refine TriE.skip ?_
    refine TriE.seq ?_
    refine TriE.block ?_
    refine sj ?_
    refine rn 2 [(0, eS 3 eStocked a0), (1, vt a1), (5, vi v1), (12, eS 3 eStocked a0), (13, vi v1)] [] ?_
    refine jv (.fptr 3 (List.map eStocked a0) v1 0) (cy (I0 14 (.iaddr 3 (.t 12) (.t 13)))) (ok_iaddr_m (j := v1) rfl rfl rfl c1) rfl ?_
    refine rn 1 [(0, eS 3 eStocked a0), (1, vt a1), (5, vi v1), (15, .fptr 3 (List.map eStocked a0) v1 0)] [] ?_
    refine jv (vt ((ix a0 v1).Part)) (cy (I0 16 (.load false 1 (.t 15)))) (ok_load_fm (v := vt ((ix a0 v1).Part)) rfl c1 rfl) rfl ?_
    refine jq 2 [(0, eS 3 eStocked a0), (1, vt a1), (5, vi v1), (18, vb (((ix a0 v1).Part) == a1))] [] ?_
    refine TriE.cond (b := (((ix a0 v1).Part) == a1)) rfl (fun c2 => ?_) (fun c2 => ?_)
    · have h := cond_t h c2
      refine sr [(4, vi v1)] [] ?_
      refine TriE.ret ?_
      have h := Option.some.inj h
      subst h
      exact DoneS.ret (S' := ⟨[(4, vi v1)], []⟩) Sees.refl rfl rfl
    have h := cond_f h c2
    refine TriE.skip ?_
    refine TriE.regJ ?_
    refine rn 1 [(0, eS 3 eStocked a0), (1, vt a1), (10, vi v1)] [] ?_
    obtain ⟨c3, h⟩ := chk_some h
    refine jv (vi ((v1 + 1 : Nat) : Int)) (cy (I0 11 (.bin .add false (.t 10) (.c (.p (.int .i64 1)))))) (r_addn (i := v1) (j := 1) rfl rfl c3) rfl ?_
    refine jq 1 [(0, eS 3 eStocked a0), (1, vt a1), (5, vi ((v1 + 1 : Nat) : Int))] [] ?_
    exact Vs.intro sy ⟨(v1 + 1), rfl, h⟩
  have h := cond_f h c1
  refine TriE.exit ?_
  exact Vs.intro sy ⟨(), rfl, h⟩
theorem agrafferef08_CheckStock_ok (n : Nat) (a0 : List Stocked) (r : Int) (h : agrafferef08_CheckStock n a0 = some r) : FnL Tryz.prog 24 [eS 3 eStocked a0] [] (vi r) [] := by
  dsimp only [agrafferef08_CheckStock] at h
  refine FnL.ofS (ts := [2]) Tryz.call24 Tryz.func24 rfl rfl (Nat.le_of_ble_eq_true rfl) (Nat.le_of_ble_eq_true rfl) (fun j h => absurd h (Nat.not_lt_zero j)) ?_
  refine sr [(0, eS 3 eStocked a0)] [] ?_
  refine TriE.seq ?_
  refine sj ?_
  refine rn 1 [(0, eS 3 eStocked a0), (4, eS 3 eStocked a0)] [] ?_
  refine jv (vi (a0.length : Int)) (cy (I0 5 (.len 0 (.t 4)))) (ok_len_m rfl) rfl ?_
  refine jv (vb (decide (60 < a0.length))) (cy (I0 6 (.bin .gtr false (.t 5) (.c (.p (.int .i64 60)))))) (n_gtr (i := a0.length) (j := 60) rfl rfl) rfl ?_
  refine jp [(0, eS 3 eStocked a0), (6, vb (decide (60 < a0.length)))] ?_
  refine TriE.cond (b := decide (60 < a0.length)) rfl (fun c1 => ?_) (fun c1 => ?_)
  · have h := cond_t h c1
    refine sr [(2, vi 8)] [] ?_
    refine TriE.ret ?_
    have h := Option.some.inj h
    subst h
    exact DoneS.ret (S' := ⟨[(2, vi 8)], []⟩) Sees.refl rfl rfl
  have h := cond_f h c1
  refine TriE.skip ?_
  refine TriE.seqK h (fun (_ : Unit) => St.mk [] []) ?_ ?_
  · rintro ⟨⟩ h
    refine sr [(2, vi 0)] [] ?_
    refine TriE.ret ?_
    have h := Option.some.inj h
    subst h
    exact DoneS.ret (S' := ⟨[(2, vi 0)], []⟩) Sees.refl rfl rfl
  intro k1 h
  refine sr [(0, eS 3 eStocked a0), (3, vi 0)] [] ?_
  refine TriE.block ?_
  refine TriE.sees (S' := ⟨[(0, eS 3 eStocked a0), (3, vi 0)], []⟩) sy ?_
  refine TriE.loopN h (fun (v5 : Nat) => St.mk [(0, eS 3 eStocked a0), (3, vi v5)] []) rfl ?_
  clear h
  rintro back v5 h
  dsimp only [agrafferef08_CheckStock_L1] at h
  refine TriE.seq ?_
  refine sj ?_
  refine rn 2 [(0, eS 3 eStocked a0), (3, vi v5), (7, vi v5), (8, eS 3 eStocked a0)] [] ?_
  refine jv (vi (a0.length : Int)) (cy (I0 9 (.len 0 (.t 8)))) (ok_len_m rfl) rfl ?_
  refine jv (vb (decide (v5 < a0.length))) (cy (I0 10 (.bin .lss false (.t 7) (.t 9)))) (n_lss (i := v5) (j := a0.length) rfl rfl) rfl ?_
  refine jp [(0, eS 3 eStocked a0), (3, vi v5), (10, vb (decide (v5 < a0.length)))] ?_
  refine TriE.cond (b := decide (v5 < a0.length)) rfl (fun c2 => ?_) (fun c2 => ?_)
  · have h := cond_t h c2
    refine TriE.skip ?_
    refine TriE.seq ?_
    refine TriE.block ?_
    refine TriE.seq ?_
    refine sj ?_
    refine rn 2 [(0, eS 3 eStocked a0), (3, vi v5), (13, eS 3 eStocked a0), (14, vi v5)] [] ?_
    refine jv (.fptr 3 (List.map eStocked a0) v5 0) (cy (I0 15 (.iaddr 3 (.t 13) (.t 14)))) (ok_iaddr_m (j := v5) rfl rfl rfl c2) rfl ?_
    refine rn 1 [(0, eS 3 eStocked a0), (3, vi v5), (16, .fptr 3 (List.map eStocked a0) v5 0)] [] ?_
    refine jv (vt ((ix a0 v5).Part)) (cy (I0 17 (.load false 1 (.t 16)))) (ok_load_fm (v := vt ((ix a0 v5).Part)) rfl c2 rfl) rfl ?_
    obtain ⟨y6, hy6, h⟩ := bind_some h
    refine RegJ.op (Op1.call (y' := vb y6) (obx := []) (oby := []) (ob2 := []) _ _ (cy (I0 18 (.call 92 [(.t 17)]))) rfl (agraffebase_IsName_ok n ((ix a0 v5).Part) y6 hy6) [] (by kernel_rfl) (.cons rfl (.cons rfl .nil)) (by kernel_rfl) (by kernel_rfl) ObsRen.nil (by kernel_rfl) ObsRen.nil (by kernel_rfl)) ?_
    refine jq 1 [(0, eS 3 eStocked a0), (3, vi v5), (19, vb (!y6))] [] ?_
    refine TriE.cond (b := !y6) rfl (fun c3 => ?_) (fun c3 => ?_)
    · have h := cond_t h c3
      refine sr [(2, vi 4)] [] ?_
      refine TriE.ret ?_
      have h := Option.some.inj h
      subst h
      exact DoneS.ret (S' := ⟨[(2, vi 4)], []⟩) Sees.refl rfl rfl
    have h := cond_f h c3
    refine TriE.skip ?_
    refine TriE.seq ?_
    refine TriE.seq ?_
    refine TriE.sees (Sees.less (fr' := [(0, eS 3 eStocked a0), (3, vi v5)]) (.cons rfl (.cons rfl .nil))) ?_
    refine TriE.draw (by kernel_rfl) ?_
    refine RegD.run 2 [(21, vi v5), (20, eS 3 eStocked a0), (0, eS 3 eStocked a0), (3, vi v5)] [none, none] (by kernel_rfl) ?_
    obtain ⟨c4, h⟩ := chk_some h
    refine dv (eS 3 eStocked (List.take v5 a0)) (cy (I0 22 (.slc 3 (.t 20) none (some (.t 21)) none))) (ok_slc_hi (j := v5) rfl rfl rfl c4) rfl ?_
    refine RegD.run 2 [(24, vi v5), (23, eS 3 eStocked a0), (22, eS 3 eStocked (List.take v5 a0)), (21, vi v5), (20, eS 3 eStocked a0), (0, eS 3 eStocked a0), (3, vi v5)] [none, none, none, none, none] (by kernel_rfl) ?_
    refine dv (.fptr 3 (List.map eStocked a0) v5 0) (cy (I0 25 (.iaddr 3 (.t 23) (.t 24)))) (ok_iaddr_m (j := v5) rfl rfl rfl c2) rfl ?_
    refine RegD.run 1 [(26, .fptr 3 (List.map eStocked a0) v5 0), (25, .fptr 3 (List.map eStocked a0) v5 0), (24, vi v5), (23, eS 3 eStocked a0), (22, eS 3 eStocked (List.take v5 a0)), (21, vi v5), (20, eS 3 eStocked a0), (0, eS 3 eStocked a0), (3, vi v5)] [none, none, none, none, none, none, none] (by kernel_rfl) ?_
    refine dv (vt ((ix a0 v5).Part)) (cy (I0 27 (.load false 1 (.t 26)))) (ok_load_fm (v := vt ((ix a0 v5).Part)) rfl c2 rfl) rfl ?_
    obtain ⟨y7, hy7, h⟩ := bind_some h
    refine RegD.op (OpD.call (y' := vi y7) (obx := []) (oby := []) (ob2 := [none, none, none, none, none, none, none, none, none]) (tch := []) 0 _ _ (cy (I0 28 (.call 74 [(.t 22), (.t 27)]))) (agrafferef08_FindStock_ok n (List.take v5 a0) ((ix a0 v5).Part) y7 hy7) [] (by kernel_rfl) (.cons rfl (.cons rfl (.cons rfl .nil))) (by kernel_rfl) (by kernel_rfl) ObsRen.nil (by kernel_rfl) ObsRen.nil (by kernel_rfl) rfl (.inr ⟨rfl, rfl⟩)) ?_
    refine RegD.run 1 [(29, vb (decide ((0 : Int) ≤ y7))), (28, vi y7), (27, vt ((ix a0 v5).Part)), (26, .fptr 3 (List.map eStocked a0) v5 0), (25, .fptr 3 (List.map eStocked a0) v5 0), (24, vi v5), (23, eS 3 eStocked a0), (22, eS 3 eStocked (List.take v5 a0)), (21, vi v5), (20, eS 3 eStocked a0), (0, eS 3 eStocked a0), (3, vi v5)] [none, none, none, none, none, none, none, none, none, none] (by kernel_rfl) ?_
    refine RegD.done rfl (by kernel_rfl) (S' := ⟨[(0, eS 3 eStocked a0), (3, vi v5), (29, vb (decide ((0 : Int) ≤ y7)))], []⟩) (sc [] (by decide) (by kernel_rfl) ObRen.nil rfl rfl) ?_
    refine TriE.cond (b := decide ((0 : Int) ≤ y7)) rfl (fun c5 => ?_) (fun c5 => ?_)
    · have h := cond_t h c5
      refine sr [(2, vi 5)] [] ?_
      refine TriE.ret ?_
      have h := Option.some.inj h
      subst h
      exact DoneS.ret (S' := ⟨[(2, vi 5)], []⟩) Sees.refl rfl rfl
    have h := cond_f h c5
    refine TriE.skip ?_
    refine sj ?_
    refine rn 2 [(0, eS 3 eStocked a0), (3, vi v5), (30, eS 3 eStocked a0), (31, vi v5)] [] ?_
    refine jv (.fptr 3 (List.map eStocked a0) v5 0) (cy (I0 32 (.iaddr 3 (.t 30) (.t 31)))) (ok_iaddr_m (j := v5) rfl rfl rfl c2) rfl ?_
    refine rn 1 [(0, eS 3 eStocked a0), (3, vi v5), (33, .fptr 3 (List.map eStocked a0) v5 1)] [] ?_
    refine jv (vi ((ix a0 v5).Cents)) (cy (I0 34 (.load false 1 (.t 33)))) (ok_load_fm (v := vi ((ix a0 v5).Cents)) rfl c2 rfl) rfl ?_
    obtain ⟨y8, hy8, h⟩ := bind_some h
    refine RegJ.op (Op1.call (y' := vb ((decide (0 ≤ ((ix a0 v5).Cents))) && (decide (((ix a0 v5).Cents) ≤ 1000000000)))) (obx := []) (oby := []) (ob2 := []) _ _ (cy (I0 35 (.call 93 [(.t 34), (.c (.p (.int .i64 0))), (.c (.p (.int .i64 1000000000)))]))) rfl (agraffebase_Within_ok n ((ix a0 v5).Cents) 0 1000000000 y8 hy8) [] (by kernel_rfl) (.cons rfl (.cons rfl (.cons rfl (.cons rfl .nil)))) (by kernel_rfl) (by kernel_rfl) ObsRen.nil (by kernel_rfl) ObsRen.nil (by kernel_rfl)) ?_
    refine rn 2 [(0, eS 3 eStocked a0), (3, vi v5), (37, vb (!((decide (0 ≤ ((ix a0 v5).Cents))) && (decide (((ix a0 v5).Cents) ≤ 1000000000)))))] [] ?_
    refine RegJ.op (Op1.valk (v := eS 3 eStocked a0) _ _ (cy (IG 38 (.mov (.t 0)) 37 false)) rfl (by kernel_rfl) (fun hg => (.cons rfl .nil))) ?_
    refine RegJ.op (Op1.valk (v := vi v5) _ _ (cy (IG 39 (.mov (.t 3)) 37 false)) rfl (by kernel_rfl) (fun hg => (.cons rfl .nil))) ?_
    refine RegJ.op (Op1.valg (v := .fptr 3 (List.map eStocked a0) v5 0) _ _ (cy (IG 40 (.iaddr 3 (.t 38) (.t 39)) 37 false)) rfl (fun hg => (ok_iaddr_m (j := v5) rfl rfl rfl c2)) (fun hg => (.cons hg (.cons hg .nil)))) ?_
    refine RegJ.op (Op1.valk (v := .fptr 3 (List.map eStocked a0) v5 2) _ _ (cy (IG 41 (.faddr 2 (.t 40)) 37 false)) rfl (by kernel_rfl) (fun hg => (.cons hg .nil))) ?_
    refine RegJ.op (Op1.valg (v := vi ((ix a0 v5).Count)) _ _ (cy (IG 42 (.load false 1 (.t 41)) 37 false)) rfl (fun hg => (ok_load_fm (v := vi ((ix a0 v5).Count)) rfl c2 rfl)) (fun hg => (.cons hg .nil))) ?_
    obtain ⟨y9, hy9, h⟩ := bind_some h
    refine RegJ.op (Op1.callg (g := !(!((decide (0 ≤ ((ix a0 v5).Cents))) && (decide (((ix a0 v5).Cents) ≤ 1000000000))))) (y' := vb ((decide (0 ≤ ((ix a0 v5).Count))) && (decide (((ix a0 v5).Count) ≤ 10000)))) (obx := []) _ _ (cy (IG 43 (.call 93 [(.t 42), (.c (.p (.int .i64 0))), (.c (.p (.int .i64 10000)))]) 37 false)) rfl (fun hg => agraffebase_Within_ok n ((ix a0 v5).Count) 0 10000 y9 (gcall_some hy9 hg)) [] (fun hg => by kernel_rfl) (fun hg => (.cons rfl (.cons hg (.cons rfl (.cons rfl .nil))))) (by kernel_rfl) (by kernel_rfl) ObsRen.nil (by kernel_rfl) (by kernel_rfl)) ?_
    refine RegJ.op (Op1.valk (v := vb (!((decide (0 ≤ ((ix a0 v5).Count))) && (decide (((ix a0 v5).Count) ≤ 10000))))) _ _ (cy (IG 44 (.un .not (.t 43)) 37 false)) rfl (by kernel_rfl) (fun hg => (.cons hg .nil))) ?_
    refine RegJ.op (Op1.or (cy (I0 45 (.pick (.t 37) (.c (.p (.bool true))) (.t 44)))) rfl rfl (by first | exact hokO1 | exact hokO0 | simp)) ?_
    refine jp [(0, eS 3 eStocked a0), (3, vi v5), (45, vb ((!((decide (0 ≤ ((ix a0 v5).Cents))) && (decide (((ix a0 v5).Cents) ≤ 1000000000)))) || (!((decide (0 ≤ ((ix a0 v5).Count))) && (decide (((ix a0 v5).Count) ≤ 10000))))))] ?_
    refine TriE.cond (b := (!((decide (0 ≤ ((ix a0 v5).Cents))) && (decide (((ix a0 v5).Cents) ≤ 1000000000)))) || (!((decide (0 ≤ ((ix a0 v5).Count))) && (decide (((ix a0 v5).Count) ≤ 10000))))) rfl (fun c6 => ?_) (fun c6 => ?_)
    · have h := cond_t h c6
      refine sr [(2, vi 2)] [] ?_
      refine TriE.ret ?_
      have h := Option.some.inj h
      subst h
      exact DoneS.ret (S' := ⟨[(2, vi 2)], []⟩) Sees.refl rfl rfl
    have h := cond_f h c6
    refine TriE.skip ?_
    refine TriE.regJ ?_
    refine rn 1 [(0, eS 3 eStocked a0), (11, vi v5)] [] ?_
    obtain ⟨c7, h⟩ := chk_some h
    refine jv (vi ((v5 + 1 : Nat) : Int)) (cy (I0 12 (.bin .add false (.t 11) (.c (.p (.int .i64 1)))))) (r_addn (i := v5) (j := 1) rfl rfl c7) rfl ?_
    refine jq 1 [(0, eS 3 eStocked a0), (3, vi ((v5 + 1 : Nat) : Int))] [] ?_
    exact Vs.intro sy ⟨(v5 + 1), rfl, h⟩
  have h := cond_f h c2
  refine TriE.exit ?_
  exact Vs.intro sy ⟨(), rfl, h⟩
theorem restore_list_checkSet_ok (n : Nat) (a0 : List Task) (a1 : List Str) (r : Int) (h : restore_list_checkSet n a0 a1 = some r) : FnL Tryz.prog 131 [eS 6 eTask a0, eS 1 vt a1] [] (vi r) [] := by
  dsimp only [restore_list_checkSet] at h
  refine FnL.ofS (ts := [4]) Tryz.call131 Tryz.func131 rfl rfl (Nat.le_of_ble_eq_true rfl) (Nat.le_of_ble_eq_true rfl) (fun j h => absurd h (Nat.not_lt_zero j)) ?_
  refine sr [(0, eS 6 eTask a0), (1, eS 1 vt a1)] [] ?_
  refine TriE.seqK h (fun (_ : Unit) => St.mk [(1, eS 1 vt a1)] []) ?_ ?_
  · rintro ⟨⟩ h
    refine TriE.seqK h (fun (_ : Unit) => St.mk [] []) ?_ ?_
    · rintro ⟨⟩ h
      refine sr [(4, vi 0)] [] ?_
      refine TriE.ret ?_
      have h := Option.some.inj h
      subst h
      exact DoneS.ret (S' := ⟨[(4, vi 0)], []⟩) Sees.refl rfl rfl
    intro k2 h
    refine sr [(1, eS 1 vt a1), (7, vi 1)] [] ?_
    refine TriE.block ?_
    refine TriE.sees (S' := ⟨[(1, eS 1 vt a1), (7, vi 1)], []⟩) sy ?_
    refine TriE.loopN h (fun (v4 : Nat) => St.mk [(1, eS 1 vt a1), (7, vi v4)] []) rfl ?_
    clear h
    rintro back v4 h
    dsimp only [restore_list_checkSet_L2] at h
    refine TriE.seq ?_
    refine sj ?_
    refine rn 2 [(1, eS 1 vt a1), (7, vi v4), (19, vi v4), (20, eS 1 vt a1)] [] ?_
    refine jv (vi (a1.length : Int)) (cy (I0 21 (.len 0 (.t 20)))) (ok_len_m rfl) rfl ?_
    refine jv (vb (decide (v4 < a1.length))) (cy (I0 22 (.bin .lss false (.t 19) (.t 21)))) (n_lss (i := v4) (j := a1.length) rfl rfl) rfl ?_
    refine jp [(1, eS 1 vt a1), (7, vi v4), (22, vb (decide (v4 < a1.length)))] ?_
    refine TriE.cond (b := decide (v4 < a1.length)) rfl (fun c4 => ?_) (fun c4 => ?_)
    · have h := cond_t h c4
      refine TriE.skip ?_
      refine TriE.seq ?_
      refine TriE.block ?_
      refine TriE.seq ?_
      refine TriE.sees (Sees.less (fr' := [(1, eS 1 vt a1), (7, vi v4)]) (.cons rfl (.cons rfl .nil))) ?_
      refine TriE.draw (by kernel_rfl) ?_
      refine RegD.run 2 [(26, vi v4), (25, eS 1 vt a1), (1, eS 1 vt a1), (7, vi v4)] [none, none] (by kernel_rfl) ?_
      refine dv (.fptr 1 (List.map vt a1) v4 0) (cy (I0 27 (.iaddr 1 (.t 25) (.t 26)))) (ok_iaddr_m (j := v4) rfl rfl rfl c4) rfl ?_
      refine dv (vt (ix a1 v4)) (cy (I0 28 (.load false 1 (.t 27)))) (ok_load_fm (v := vt (ix a1 v4)) rfl c4 rfl) rfl ?_
      refine RegD.run 2 [(30, vi v4), (29, eS 1 vt a1), (28, vt (ix a1 v4)), (27, .fptr 1 (List.map vt a1) v4 0), (26, vi v4), (25, eS 1 vt a1), (1, eS 1 vt a1), (7, vi v4)] [none, none, none, none, none, none] (by kernel_rfl) ?_
      obtain ⟨c5, h⟩ := chk_some h
      refine dv (vi ((v4 : Int) - 1)) (cy (I0 31 (.bin .sub false (.t 30) (.c (.p (.int .i64 1)))))) (r_sub rfl rfl c5) rfl ?_
      obtain ⟨c6, h⟩ := chk_some h
      refine dv (.fptr 1 (List.map vt a1) (((v4 : Int) - 1).toNat) 0) (cy (I0 32 (.iaddr 1 (.t 29) (.t 31)))) (ok_iaddr_m (j := ((v4 : Int) - 1).toNat) rfl rfl (inB_to c6) (inB_lt c6)) rfl ?_
      obtain ⟨c7, h⟩ := chk_some h
      refine dv (vt (ix a1 (((v4 : Int) - 1).toNat))) (cy (I0 33 (.load false 1 (.t 32)))) (ok_load_fm (v := vt (ix a1 (((v4 : Int) - 1).toNat))) rfl c7 rfl) rfl ?_
      refine RegD.run 1 [(34, vb (bLt (ix a1 v4) (ix a1 (((v4 : Int) - 1).toNat)) || ((ix a1 v4) == (ix a1 (((v4 : Int) - 1).toNat))))), (33, vt (ix a1 (((v4 : Int) - 1).toNat))), (32, .fptr 1 (List.map vt a1) (((v4 : Int) - 1).toNat) 0), (31, vi ((v4 : Int) - 1)), (30, vi v4), (29, eS 1 vt a1), (28, vt (ix a1 v4)), (27, .fptr 1 (List.map vt a1) v4 0), (26, vi v4), (25, eS 1 vt a1), (1, eS 1 vt a1), (7, vi v4)] [none, none, none, none, none, none, none, none, none, none] (by kernel_rfl) ?_
      refine RegD.done rfl (by kernel_rfl) (S' := ⟨[(1, eS 1 vt a1), (7, vi v4), (34, vb (bLt (ix a1 v4) (ix a1 (((v4 : Int) - 1).toNat)) || ((ix a1 v4) == (ix a1 (((v4 : Int) - 1).toNat)))))], []⟩) (sc [] (by decide) (by kernel_rfl) ObRen.nil rfl rfl) ?_
      refine TriE.cond (b := (bLt (ix a1 v4) (ix a1 (((v4 : Int) - 1).toNat)) || ((ix a1 v4) == (ix a1 (((v4 : Int) - 1).toNat))))) rfl (fun c8 => ?_) (fun c8 => ?_)
      · have h := cond_t h c8
        refine sr [(4, vi 9)] [] ?_
        refine TriE.ret ?_
        have h := Option.some.inj h
        subst h
        exact DoneS.ret (S' := ⟨[(4, vi 9)], []⟩) Sees.refl rfl rfl
      have h := cond_f h c8
      refine TriE.skip ?_
      refine TriE.regJ ?_
      refine rn 1 [(1, eS 1 vt a1), (23, vi v4)] [] ?_
      obtain ⟨c9, h⟩ := chk_some h
      refine jv (vi ((v4 + 1 : Nat) : Int)) (cy (I0 24 (.bin .add false (.t 23) (.c (.p (.int .i64 1)))))) (r_addn (i := v4) (j := 1) rfl rfl c9) rfl ?_
      refine jq 1 [(1, eS 1 vt a1), (7, vi ((v4 + 1 : Nat) : Int))] [] ?_
      exact Vs.intro sy ⟨(v4 + 1), rfl, h⟩
    have h := cond_f h c4
    refine TriE.exit ?_
    exact Vs.intro sy ⟨(), rfl, h⟩
  intro k1 h
  refine sj ?_
  refine rn 1 [(0, eS 6 eTask a0), (1, eS 1 vt a1), (8, eS 1 vt a1)] [] ?_
  refine jv (vi (a1.length : Int)) (cy (I0 9 (.len 0 (.t 8)))) (ok_len_m rfl) rfl ?_
  refine jq 1 [(0, eS 6 eTask a0), (1, eS 1 vt a1), (8, eS 1 vt a1), (9, vi (a1.length : Int)), (10, vi 0)] [] ?_
  refine TriE.block ?_
  refine TriE.sees (S' := ⟨[(0, eS 6 eTask a0), (1, eS 1 vt a1), (8, eS 1 vt a1), (9, vi (a1.length : Int)), (10, vi 0)], []⟩) sy ?_
  refine TriE.loopN h (fun (v2 : Nat) => St.mk [(0, eS 6 eTask a0), (1, eS 1 vt a1), (8, eS 1 vt a1), (9, vi (a1.length : Int)), (10, vi v2)] []) rfl ?_
  clear h
  rintro back v2 h
  dsimp only [restore_list_checkSet_L1] at h
  refine sj ?_
  refine jv (vb (decide (v2 < a1.length))) (cy (I0 11 (.bin .lss false (.t 10) (.t 9)))) (n_lss (i := v2) (j := a1.length) rfl rfl) rfl ?_
  refine jp [(0, eS 6 eTask a0), (1, eS 1 vt a1), (8, eS 1 vt a1), (9, vi (a1.length : Int)), (10, vi v2), (11, vb (decide (v2 < a1.length)))] ?_
  refine TriE.seq ?_
  refine TriE.cond (b := decide (v2 < a1.length)) rfl (fun c1 => ?_) (fun c1 => ?_)
  · have h := cond_t h c1
    refine TriE.skip ?_
    refine TriE.seq ?_
    refine TriE.block ?_
    refine sj ?_
    refine jv (.fptr 1 (List.map vt a1) v2 0) (cy (I0 12 (.iaddr 1 (.t 8) (.t 10)))) (ok_iaddr_m (j := v2) rfl rfl rfl c1) rfl ?_
    refine jv (vt (ix a1 v2)) (cy (I0 13 (.load false 1 (.t 12)))) (ok_load_fm (v := vt (ix a1 v2)) rfl c1 rfl) rfl ?_
    refine jq 1 [(0, eS 6 eTask a0), (1, eS 1 vt a1), (8, eS 1 vt a1), (9, vi (a1.length : Int)), (10, vi v2), (6, vt (ix a1 v2))] [] ?_
    refine sj ?_
    refine rn 2 [(0, eS 6 eTask a0), (1, eS 1 vt a1), (8, eS 1 vt a1), (9, vi (a1.length : Int)), (10, vi v2), (14, eS 6 eTask a0), (15, vt (ix a1 v2))] [] ?_
    obtain ⟨y3, hy3, h⟩ := bind_some h
    refine RegJ.op (Op1.call (y' := vi y3) (obx := []) (oby := []) (ob2 := []) _ _ (cy (I0 16 (.call 117 [(.t 14), (.t 15)]))) rfl (restore_list_find_ok n a0 (ix a1 v2) y3 hy3) [] (by kernel_rfl) (.cons rfl (.cons rfl (.cons rfl .nil))) (by kernel_rfl) (by kernel_rfl) ObsRen.nil (by kernel_rfl) ObsRen.nil (by kernel_rfl)) ?_
    refine jq 1 [(0, eS 6 eTask a0), (1, eS 1 vt a1), (8, eS 1 vt a1), (9, vi (a1.length : Int)), (10, vi v2), (17, vb (decide (y3 < (0 : Int))))] [] ?_
    refine TriE.cond (b := decide (y3 < (0 : Int))) rfl (fun c2 => ?_) (fun c2 => ?_)
    · have h := cond_t h c2
      refine sr [(4, vi 6)] [] ?_
      refine TriE.ret ?_
      have h := Option.some.inj h
      subst h
      exact DoneS.ret (S' := ⟨[(4, vi 6)], []⟩) Sees.refl rfl rfl
    have h := cond_f h c2
    refine TriE.skip ?_
    refine TriE.regJ ?_
    obtain ⟨c3, h⟩ := chk_some h
    refine jv (vi ((v2 + 1 : Nat) : Int)) (cy (I0 18 (.bin .add false (.t 10) (.c (.p (.int .i64 1)))))) (r_addn (i := v2) (j := 1) rfl rfl c3) rfl ?_
    refine jq 1 [(0, eS 6 eTask a0), (1, eS 1 vt a1), (8, eS 1 vt a1), (9, vi (a1.length : Int)), (10, vi ((v2 + 1 : Nat) : Int))] [] ?_
    exact Vs.intro sy ⟨(v2 + 1), rfl, h⟩
  have h := cond_f h c1
  refine TriE.exit ?_
  exact Vs.intro sy ⟨(), rfl, h⟩
theorem restore_checkSets_ok (n : Nat) (a0 : List Task) (a1 : List (List Str)) (r : Int) (h : restore_checkSets n a0 a1 = some r) : FnL Tryz.prog 113 [eS 6 eTask a0, eS 1 (eS 1 vt) a1] [] (vi r) [] := by
  dsimp only [restore_checkSets] at h
  refine FnL.ofS (ts := [4]) Tryz.call113 Tryz.func113 rfl rfl (Nat.le_of_ble_eq_true rfl) (Nat.le_of_ble_eq_true rfl) (fun j h => absurd h (Nat.not_lt_zero j)) ?_
  refine sr [(0, eS 6 eTask a0), (1, eS 1 (eS 1 vt) a1)] [] ?_
  refine TriE.seq ?_
  refine sj ?_
  refine rn 1 [(0, eS 6 eTask a0), (1, eS 1 (eS 1 vt) a1), (9, eS 6 eTask a0)] [] ?_
  obtain ⟨y1, hy1, h⟩ := bind_some h
  refine RegJ.op (Op1.call (y' := vi y1) (obx := []) (oby := []) (ob2 := []) _ _ (cy (I0 10 (.call 19 [(.t 9)]))) rfl (restore_CheckTasks_ok n a0 y1 hy1) [] (by kernel_rfl) (.cons rfl (.cons rfl .nil)) (by kernel_rfl) (by kernel_rfl) ObsRen.nil (by kernel_rfl) ObsRen.nil (by kernel_rfl)) ?_
  refine jq 1 [(0, eS 6 eTask a0), (1, eS 1 (eS 1 vt) a1), (5, vi y1)] [] ?_
  refine sr [(0, eS 6 eTask a0), (1, eS 1 (eS 1 vt) a1), (5, vi y1), (12, vb (y1 != (0 : Int)))] [] ?_
  refine TriE.cond (b := (y1 != (0 : Int))) rfl (fun c1 => ?_) (fun c1 => ?_)
  · have h := cond_t h c1
    refine sr [(4, vi y1)] [] ?_
    refine TriE.ret ?_
    have h := Option.some.inj h
    subst h
    exact DoneS.ret (S' := ⟨[(4, vi y1)], []⟩) Sees.refl rfl rfl
  have h := cond_f h c1
  refine TriE.skip ?_
  refine TriE.seqK h (fun (_ : Unit) => St.mk [] []) ?_ ?_
  · rintro ⟨⟩ h
    refine sr [(4, vi 0)] [] ?_
    refine TriE.ret ?_
    have h := Option.some.inj h
    subst h
    exact DoneS.ret (S' := ⟨[(4, vi 0)], []⟩) Sees.refl rfl rfl
  intro k1 h
  refine sj ?_
  refine rn 1 [(0, eS 6 eTask a0), (14, eS 1 (eS 1 vt) a1)] [] ?_
  refine jv (vi (a1.length : Int)) (cy (I0 15 (.len 0 (.t 14)))) (ok_len_m rfl) rfl ?_
  refine jq 1 [(0, eS 6 eTask a0), (14, eS 1 (eS 1 vt) a1), (15, vi (a1.length : Int)), (16, vi 0)] [] ?_
  refine TriE.block ?_
  refine TriE.sees (S' := ⟨[(0, eS 6 eTask a0), (14, eS 1 (eS 1 vt) a1), (15, vi (a1.length : Int)), (16, vi 0)], []⟩) sy ?_
  refine TriE.loopN h (fun (v3 : Nat) => St.mk [(0, eS 6 eTask a0), (14, eS 1 (eS 1 vt) a1), (15, vi (a1.length : Int)), (16, vi v3)] []) rfl ?_
  clear h
  rintro back v3 h
  dsimp only [restore_checkSets_L1] at h
  refine sj ?_
  refine jv (vb (decide (v3 < a1.length))) (cy (I0 17 (.bin .lss false (.t 16) (.t 15)))) (n_lss (i := v3) (j := a1.length) rfl rfl) rfl ?_
  refine jp [(0, eS 6 eTask a0), (14, eS 1 (eS 1 vt) a1), (15, vi (a1.length : Int)), (16, vi v3), (17, vb (decide (v3 < a1.length)))] ?_
  refine TriE.seq ?_
  refine TriE.cond (b := decide (v3 < a1.length)) rfl (fun c2 => ?_) (fun c2 => ?_)
  · have h := cond_t h c2
    refine TriE.skip ?_
    refine TriE.seq ?_
    refine TriE.block ?_
    refine sj ?_
    refine jv (.fptr 1 (List.map (eS 1 vt) a1) v3 0) (cy (I0 18 (.iaddr 1 (.t 14) (.t 16)))) (ok_iaddr_m (j := v3) rfl rfl rfl c2) rfl ?_
    refine jv (eS 1 vt (ix a1 v3)) (cy (I0 19 (.load false 1 (.t 18)))) (ok_load_fm (v := eS 1 vt (ix a1 v3)) rfl c2 rfl) rfl ?_
    refine jq 1 [(0, eS 6 eTask a0), (14, eS 1 (eS 1 vt) a1), (15, vi (a1.length : Int)), (16, vi v3), (7, eS 1 vt (ix a1 v3))] [] ?_
    refine sj ?_
    refine rn 2 [(0, eS 6 eTask a0), (14, eS 1 (eS 1 vt) a1), (15, vi (a1.length : Int)), (16, vi v3), (20, eS 6 eTask a0), (21, eS 1 vt (ix a1 v3))] [] ?_
    obtain ⟨y4, hy4, h⟩ := bind_some h
    refine RegJ.op (Op1.call (y' := vi y4) (obx := []) (oby := []) (ob2 := []) _ _ (cy (I0 22 (.call 131 [(.t 20), (.t 21)]))) rfl (restore_list_checkSet_ok n a0 (ix a1 v3) y4 hy4) [] (by kernel_rfl) (.cons rfl (.cons rfl (.cons rfl .nil))) (by kernel_rfl) (by kernel_rfl) ObsRen.nil (by kernel_rfl) ObsRen.nil (by kernel_rfl)) ?_
    refine jq 1 [(0, eS 6 eTask a0), (14, eS 1 (eS 1 vt) a1), (15, vi (a1.length : Int)), (16, vi v3), (8, vi y4)] [] ?_
    refine sr [(0, eS 6 eTask a0), (14, eS 1 (eS 1 vt) a1), (15, vi (a1.length : Int)), (16, vi v3), (8, vi y4), (24, vb (y4 != (0 : Int)))] [] ?_
    refine TriE.cond (b := (y4 != (0 : Int))) rfl (fun c3 => ?_) (fun c3 => ?_)
    · have h := cond_t h c3
      refine sr [(4, vi y4)] [] ?_
      refine TriE.ret ?_
      have h := Option.some.inj h
      subst h
      exact DoneS.ret (S' := ⟨[(4, vi y4)], []⟩) Sees.refl rfl rfl
    have h := cond_f h c3
    refine TriE.skip ?_
    refine TriE.regJ ?_
    obtain ⟨c4, h⟩ := chk_some h
    refine jv (vi ((v3 + 1 : Nat) : Int)) (cy (I0 26 (.bin .add false (.t 16) (.c (.p (.int .i64 1)))))) (r_addn (i := v3) (j := 1) rfl rfl c4) rfl ?_
    refine jq 1 [(0, eS 6 eTask a0), (14, eS 1 (eS 1 vt) a1), (15, vi (a1.length : Int)), (16, vi ((v3 + 1 : Nat) : Int))] [] ?_
    exact Vs.intro sy ⟨(v3 + 1), rfl, h⟩
  have h := cond_f h c2
  refine TriE.exit ?_
  exact Vs.intro sy ⟨(), rfl, h⟩
theorem math_bits_Len64_ok (n : Nat) (a0 : Int) (r : Int) (h : math_bits_Len64 n a0 = some r) : FnL Tryz.prog 200 [vk .u64 a0] [] (vi r) [] := by
  dsimp only [math_bits_Len64] at h
  refine FnL.ofS (ts := [2]) Tryz.call200 Tryz.func200 rfl rfl (Nat.le_of_ble_eq_true rfl) (Nat.le_of_ble_eq_true rfl) (fun j h => absurd h (Nat.not_lt_zero j)) ?_
  refine sr [(0, vk .u64 a0), (2, vi 0)] [] ?_
  refine TriE.seqK h (fun (t : Int × Int) => match t with | (v1, v2) => St.mk [(0, vk .u64 v1), (2, vi v2)] []) ?_ ?_
  · rintro ⟨v1, v2⟩ h
    refine TriE.seqK h (fun (t : Int × Int) => match t with | (v3, v4) => St.mk [(0, vk .u64 v3), (2, vi v4)] []) ?_ ?_
    · rintro ⟨v3, v4⟩ h
      refine TriE.seqK h (fun (t : Int × Int) => match t with | (v5, v6) => St.mk [(0, vk .u64 v5), (2, vi v6)] []) ?_ ?_
      · rintro ⟨v5, v6⟩ h
        refine sj ?_
        refine rn 3 [(19, vi v6), (21, vk .u8 (IntKind.u8.wrap v5))] [] ?_
        obtain ⟨c6, h⟩ := chk_some h
        refine jv (vk .u8 (((List.getD ([0, 1, 2, 2, 3, 3, 3, 3, 4, 4, 4, 4, 4, 4, 4, 4, 5, 5, 5, 5, 5, 5, 5, 5, 5, 5, 5, 5, 5, 5, 5, 5, 6, 6, 6, 6, 6, 6, 6, 6, 6, 6, 6, 6, 6, 6, 6, 6, 6, 6, 6, 6, 6, 6, 6, 6, 6, 6, 6, 6, 6, 6, 6, 6, 7, 7, 7, 7, 7, 7, 7, 7, 7, 7, 7, 7, 7, 7, 7, 7, 7, 7, 7, 7, 7, 7, 7, 7, 7, 7, 7, 7, 7, 7, 7, 7, 7, 7, 7, 7, 7, 7, 7, 7, 7, 7, 7, 7, 7, 7, 7, 7, 7, 7, 7, 7, 7, 7, 7, 7, 7, 7, 7, 7, 7, 7, 7, 7, 8, 8, 8, 8, 8, 8, 8, 8, 8, 8, 8, 8, 8, 8, 8, 8, 8, 8, 8, 8, 8, 8, 8, 8, 8, 8, 8, 8, 8, 8, 8, 8, 8, 8, 8, 8, 8, 8, 8, 8, 8, 8, 8, 8, 8, 8, 8, 8, 8, 8, 8, 8, 8, 8, 8, 8, 8, 8, 8, 8, 8, 8, 8, 8, 8, 8, 8, 8, 8, 8, 8, 8, 8, 8, 8, 8, 8, 8, 8, 8, 8, 8, 8, 8, 8, 8, 8, 8, 8, 8, 8, 8, 8, 8, 8, 8, 8, 8, 8, 8, 8, 8, 8, 8, 8, 8, 8, 8, 8, 8, 8, 8, 8, 8, 8, 8, 8, 8, 8, 8, 8, 8, 8, 8, 8, 8, 8, 8] : Str) ((IntKind.u8.wrap v5).toNat) 0).toNat : Nat) : Int)) (cy (I0 22 (.sidx (.c (.p (.string ⟨#[0, 1, 2, 2, 3, 3, 3, 3, 4, 4, 4, 4, 4, 4, 4, 4, 5, 5, 5, 5, 5, 5, 5, 5, 5, 5, 5, 5, 5, 5, 5, 5, 6, 6, 6, 6, 6, 6, 6, 6, 6, 6, 6, 6, 6, 6, 6, 6, 6, 6, 6, 6, 6, 6, 6, 6, 6, 6, 6, 6, 6, 6, 6, 6, 7, 7, 7, 7, 7, 7, 7, 7, 7, 7, 7, 7, 7, 7, 7, 7, 7, 7, 7, 7, 7, 7, 7, 7, 7, 7, 7, 7, 7, 7, 7, 7, 7, 7, 7, 7, 7, 7, 7, 7, 7, 7, 7, 7, 7, 7, 7, 7, 7, 7, 7, 7, 7, 7, 7, 7, 7, 7, 7, 7, 7, 7, 7, 7, 8, 8, 8, 8, 8, 8, 8, 8, 8, 8, 8, 8, 8, 8, 8, 8, 8, 8, 8, 8, 8, 8, 8, 8, 8, 8, 8, 8, 8, 8, 8, 8, 8, 8, 8, 8, 8, 8, 8, 8, 8, 8, 8, 8, 8, 8, 8, 8, 8, 8, 8, 8, 8, 8, 8, 8, 8, 8, 8, 8, 8, 8, 8, 8, 8, 8, 8, 8, 8, 8, 8, 8, 8, 8, 8, 8, 8, 8, 8, 8, 8, 8, 8, 8, 8, 8, 8, 8, 8, 8, 8, 8, 8, 8, 8, 8, 8, 8, 8, 8, 8, 8, 8, 8, 8, 8, 8, 8, 8, 8, 8, 8, 8, 8, 8, 8, 8, 8, 8, 8, 8, 8, 8, 8, 8, 8, 8, 8]⟩))) (.t 21)))) (ok_sidx_t (j := (IntKind.u8.wrap v5).toNat) rfl rfl (inB_to c6) (inB_lt c6)) rfl ?_
        refine jv (vi (((List.getD ([0, 1, 2, 2, 3, 3, 3, 3, 4, 4, 4, 4, 4, 4, 4, 4, 5, 5, 5, 5, 5, 5, 5, 5, 5, 5, 5, 5, 5, 5, 5, 5, 6, 6, 6, 6, 6, 6, 6, 6, 6, 6, 6, 6, 6, 6, 6, 6, 6, 6, 6, 6, 6, 6, 6, 6, 6, 6, 6, 6, 6, 6, 6, 6, 7, 7, 7, 7, 7, 7, 7, 7, 7, 7, 7, 7, 7, 7, 7, 7, 7, 7, 7, 7, 7, 7, 7, 7, 7, 7, 7, 7, 7, 7, 7, 7, 7, 7, 7, 7, 7, 7, 7, 7, 7, 7, 7, 7, 7, 7, 7, 7, 7, 7, 7, 7, 7, 7, 7, 7, 7, 7, 7, 7, 7, 7, 7, 7, 8, 8, 8, 8, 8, 8, 8, 8, 8, 8, 8, 8, 8, 8, 8, 8, 8, 8, 8, 8, 8, 8, 8, 8, 8, 8, 8, 8, 8, 8, 8, 8, 8, 8, 8, 8, 8, 8, 8, 8, 8, 8, 8, 8, 8, 8, 8, 8, 8, 8, 8, 8, 8, 8, 8, 8, 8, 8, 8, 8, 8, 8, 8, 8, 8, 8, 8, 8, 8, 8, 8, 8, 8, 8, 8, 8, 8, 8, 8, 8, 8, 8, 8, 8, 8, 8, 8, 8, 8, 8, 8, 8, 8, 8, 8, 8, 8, 8, 8, 8, 8, 8, 8, 8, 8, 8, 8, 8, 8, 8, 8, 8, 8, 8, 8, 8, 8, 8, 8, 8, 8, 8, 8, 8, 8, 8, 8, 8] : Str) ((IntKind.u8.wrap v5).toNat) 0).toNat : Nat) : Int)) (cy (I0 23 (.conv .i64 (.t 22)))) (ok_convb (c := (List.getD ([0, 1, 2, 2, 3, 3, 3, 3, 4, 4, 4, 4, 4, 4, 4, 4, 5, 5, 5, 5, 5, 5, 5, 5, 5, 5, 5, 5, 5, 5, 5, 5, 6, 6, 6, 6, 6, 6, 6, 6, 6, 6, 6, 6, 6, 6, 6, 6, 6, 6, 6, 6, 6, 6, 6, 6, 6, 6, 6, 6, 6, 6, 6, 6, 7, 7, 7, 7, 7, 7, 7, 7, 7, 7, 7, 7, 7, 7, 7, 7, 7, 7, 7, 7, 7, 7, 7, 7, 7, 7, 7, 7, 7, 7, 7, 7, 7, 7, 7, 7, 7, 7, 7, 7, 7, 7, 7, 7, 7, 7, 7, 7, 7, 7, 7, 7, 7, 7, 7, 7, 7, 7, 7, 7, 7, 7, 7, 7, 8, 8, 8, 8, 8, 8, 8, 8, 8, 8, 8, 8, 8, 8, 8, 8, 8, 8, 8, 8, 8, 8, 8, 8, 8, 8, 8, 8, 8, 8, 8, 8, 8, 8, 8, 8, 8, 8, 8, 8, 8, 8, 8, 8, 8, 8, 8, 8, 8, 8, 8, 8, 8, 8, 8, 8, 8, 8, 8, 8, 8, 8, 8, 8, 8, 8, 8, 8, 8, 8, 8, 8, 8, 8, 8, 8, 8, 8, 8, 8, 8, 8, 8, 8, 8, 8, 8, 8, 8, 8, 8, 8, 8, 8, 8, 8, 8, 8, 8, 8, 8, 8, 8, 8, 8, 8, 8, 8, 8, 8, 8, 8, 8, 8, 8, 8, 8, 8, 8, 8, 8, 8, 8, 8, 8, 8, 8, 8] : Str) ((IntKind.u8.wrap v5).toNat) 0)) rfl) rfl ?_
        obtain ⟨c7, h⟩ := chk_some h
        refine jv (vi (v6 + (((List.getD ([0, 1, 2, 2, 3, 3, 3, 3, 4, 4, 4, 4, 4, 4, 4, 4, 5, 5, 5, 5, 5, 5, 5, 5, 5, 5, 5, 5, 5, 5, 5, 5, 6, 6, 6, 6, 6, 6, 6, 6, 6, 6, 6, 6, 6, 6, 6, 6, 6, 6, 6, 6, 6, 6, 6, 6, 6, 6, 6, 6, 6, 6, 6, 6, 7, 7, 7, 7, 7, 7, 7, 7, 7, 7, 7, 7, 7, 7, 7, 7, 7, 7, 7, 7, 7, 7, 7, 7, 7, 7, 7, 7, 7, 7, 7, 7, 7, 7, 7, 7, 7, 7, 7, 7, 7, 7, 7, 7, 7, 7, 7, 7, 7, 7, 7, 7, 7, 7, 7, 7, 7, 7, 7, 7, 7, 7, 7, 7, 8, 8, 8, 8, 8, 8, 8, 8, 8, 8, 8, 8, 8, 8, 8, 8, 8, 8, 8, 8, 8, 8, 8, 8, 8, 8, 8, 8, 8, 8, 8, 8, 8, 8, 8, 8, 8, 8, 8, 8, 8, 8, 8, 8, 8, 8, 8, 8, 8, 8, 8, 8, 8, 8, 8, 8, 8, 8, 8, 8, 8, 8, 8, 8, 8, 8, 8, 8, 8, 8, 8, 8, 8, 8, 8, 8, 8, 8, 8, 8, 8, 8, 8, 8, 8, 8, 8, 8, 8, 8, 8, 8, 8, 8, 8, 8, 8, 8, 8, 8, 8, 8, 8, 8, 8, 8, 8, 8, 8, 8, 8, 8, 8, 8, 8, 8, 8, 8, 8, 8, 8, 8, 8, 8, 8, 8, 8, 8] : Str) ((IntKind.u8.wrap v5).toNat) 0).toNat : Nat) : Int))) (cy (I0 24 (.bin .add false (.t 19) (.t 23)))) (r_add rfl rfl c7) rfl ?_
        refine jq 1 [(2, vi (v6 + (((List.getD ([0, 1, 2, 2, 3, 3, 3, 3, 4, 4, 4, 4, 4, 4, 4, 4, 5, 5, 5, 5, 5, 5, 5, 5, 5, 5, 5, 5, 5, 5, 5, 5, 6, 6, 6, 6, 6, 6, 6, 6, 6, 6, 6, 6, 6, 6, 6, 6, 6, 6, 6, 6, 6, 6, 6, 6, 6, 6, 6, 6, 6, 6, 6, 6, 7, 7, 7, 7, 7, 7, 7, 7, 7, 7, 7, 7, 7, 7, 7, 7, 7, 7, 7, 7, 7, 7, 7, 7, 7, 7, 7, 7, 7, 7, 7, 7, 7, 7, 7, 7, 7, 7, 7, 7, 7, 7, 7, 7, 7, 7, 7, 7, 7, 7, 7, 7, 7, 7, 7, 7, 7, 7, 7, 7, 7, 7, 7, 7, 8, 8, 8, 8, 8, 8, 8, 8, 8, 8, 8, 8, 8, 8, 8, 8, 8, 8, 8, 8, 8, 8, 8, 8, 8, 8, 8, 8, 8, 8, 8, 8, 8, 8, 8, 8, 8, 8, 8, 8, 8, 8, 8, 8, 8, 8, 8, 8, 8, 8, 8, 8, 8, 8, 8, 8, 8, 8, 8, 8, 8, 8, 8, 8, 8, 8, 8, 8, 8, 8, 8, 8, 8, 8, 8, 8, 8, 8, 8, 8, 8, 8, 8, 8, 8, 8, 8, 8, 8, 8, 8, 8, 8, 8, 8, 8, 8, 8, 8, 8, 8, 8, 8, 8, 8, 8, 8, 8, 8, 8, 8, 8, 8, 8, 8, 8, 8, 8, 8, 8, 8, 8, 8, 8, 8, 8, 8, 8] : Str) ((IntKind.u8.wrap v5).toNat) 0).toNat : Nat) : Int)))] [] ?_
        refine TriE.ret ?_
        have h := Option.some.inj h
        subst h
        exact DoneS.ret (S' := ⟨[(2, vi (v6 + (((List.getD ([0, 1, 2, 2, 3, 3, 3, 3, 4, 4, 4, 4, 4, 4, 4, 4, 5, 5, 5, 5, 5, 5, 5, 5, 5, 5, 5, 5, 5, 5, 5, 5, 6, 6, 6, 6, 6, 6, 6, 6, 6, 6, 6, 6, 6, 6, 6, 6, 6, 6, 6, 6, 6, 6, 6, 6, 6, 6, 6, 6, 6, 6, 6, 6, 7, 7, 7, 7, 7, 7, 7, 7, 7, 7, 7, 7, 7, 7, 7, 7, 7, 7, 7, 7, 7, 7, 7, 7, 7, 7, 7, 7, 7, 7, 7, 7, 7, 7, 7, 7, 7, 7, 7, 7, 7, 7, 7, 7, 7, 7, 7, 7, 7, 7, 7, 7, 7, 7, 7, 7, 7, 7, 7, 7, 7, 7, 7, 7, 8, 8, 8, 8, 8, 8, 8, 8, 8, 8, 8, 8, 8, 8, 8, 8, 8, 8, 8, 8, 8, 8, 8, 8, 8, 8, 8, 8, 8, 8, 8, 8, 8, 8, 8, 8, 8, 8, 8, 8, 8, 8, 8, 8, 8, 8, 8, 8, 8, 8, 8, 8, 8, 8, 8, 8, 8, 8, 8, 8, 8, 8, 8, 8, 8, 8, 8, 8, 8, 8, 8, 8, 8, 8, 8, 8, 8, 8, 8, 8, 8, 8, 8, 8, 8, 8, 8, 8, 8, 8, 8, 8, 8, 8, 8, 8, 8, 8, 8, 8, 8, 8, 8, 8, 8, 8, 8, 8, 8, 8, 8, 8, 8, 8, 8, 8, 8, 8, 8, 8, 8, 8, 8, 8, 8, 8, 8, 8] : Str) ((IntKind.u8.wrap v5).toNat) 0).toNat : Nat) : Int)))], []⟩) Sees.refl rfl rfl
      intro k3 h
      refine sr [(0, vk .u64 v3), (2, vi v4), (14, vb (decide ((256 : Int) ≤ v3)))] [] ?_
      refine TriE.cond (b := decide ((256 : Int) ≤ v3)) rfl (fun c4 => ?_) (fun c4 => ?_)
      · have h := cond_t h c4
        refine sr [(2, vi v4), (0, vk .u64 (Int.fdiv v3 (2 ^ (min 8 64))))] [] ?_
        refine TriE.regJ ?_
        refine rn 1 [(0, vk .u64 (Int.fdiv v3 (2 ^ (min 8 64)))), (17, vi v4)] [] ?_
        obtain ⟨c5, h⟩ := chk_some h
        refine jv (vi (v4 + 8)) (cy (I0 18 (.bin .add false (.t 17) (.c (.p (.int .i64 8)))))) (r_add rfl rfl c5) rfl ?_
        refine jq 1 [(0, vk .u64 (Int.fdiv v3 (2 ^ (min 8 64)))), (2, vi (v4 + 8))] [] ?_
        exact Vs.intro Sees.refl ⟨(Int.fdiv v3 (2 ^ (min 8 64)), v4 + 8), rfl, h⟩
      have h := cond_f h c4
      refine TriE.skip ?_
      exact Vs.intro sy ⟨(v3, v4), rfl, h⟩
    intro k2 h
    refine sr [(0, vk .u64 v1), (2, vi v2), (8, vb (decide ((65536 : Int) ≤ v1)))] [] ?_
    refine TriE.cond (b := decide ((65536 : Int) ≤ v1)) rfl (fun c2 => ?_) (fun c2 => ?_)
    · have h := cond_t h c2
      refine sr [(2, vi v2), (0, vk .u64 (Int.fdiv v1 (2 ^ (min 16 64))))] [] ?_
      refine TriE.regJ ?_
      refine rn 1 [(0, vk .u64 (Int.fdiv v1 (2 ^ (min 16 64)))), (11, vi v2)] [] ?_
      obtain ⟨c3, h⟩ := chk_some h
      refine jv (vi (v2 + 16)) (cy (I0 12 (.bin .add false (.t 11) (.c (.p (.int .i64 16)))))) (r_add rfl rfl c3) rfl ?_
      refine jq 1 [(0, vk .u64 (Int.fdiv v1 (2 ^ (min 16 64)))), (2, vi (v2 + 16))] [] ?_
      exact Vs.intro Sees.refl ⟨(Int.fdiv v1 (2 ^ (min 16 64)), v2 + 16), rfl, h⟩
    have h := cond_f h c2
    refine TriE.skip ?_
    exact Vs.intro sy ⟨(v1, v2), rfl, h⟩
  intro k1 h
  refine sr [(0, vk .u64 a0), (2, vi 0), (4, vb (decide ((4294967296 : Int) ≤ a0)))] [] ?_
  refine TriE.cond (b := decide ((4294967296 : Int) ≤ a0)) rfl (fun c1 => ?_) (fun c1 => ?_)
  · have h := cond_t h c1
    refine sr [(0, vk .u64 (Int.fdiv a0 (2 ^ (min 32 64))))] [] ?_
    refine tr [(0, vk .u64 (Int.fdiv a0 (2 ^ (min 32 64)))), (2, vi 32)] [] ?_
    exact Vs.intro Sees.refl ⟨(Int.fdiv a0 (2 ^ (min 32 64)), 32), rfl, h⟩
  have h := cond_f h c1
  refine TriE.skip ?_
  exact Vs.intro sy ⟨(a0, 0), rfl, h⟩
theorem math_bits_Len_ok (n : Nat) (a0 : Int) (r : Int) (h : math_bits_Len n a0 = some r) : FnL Tryz.prog 166 [vk .u64 a0] [] (vi r) [] := by
  dsimp only [math_bits_Len] at h
  refine FnL.ofS (ts := [2]) Tryz.call166 Tryz.func166 rfl rfl (Nat.le_of_ble_eq_true rfl) (Nat.le_of_ble_eq_true rfl) (fun j h => absurd h (Nat.not_lt_zero j)) ?_
  refine sr [(0, vk .u64 a0)] [] ?_
  refine TriE.seq ?_
  refine TriE.cond (b := false) rfl (fun c1 => ?_) (fun c1 => ?_)
  · cases c1
  refine TriE.skip ?_
  refine sj ?_
  refine rn 1 [(6, vk .u64 a0)] [] ?_
  obtain ⟨y1, hy1, h⟩ := bind_some h
  refine RegJ.op (Op1.call (y' := vi y1) (obx := []) (oby := []) (ob2 := []) _ _ (cy (I0 7 (.call 200 [(.t 6)]))) rfl (math_bits_Len64_ok n a0 y1 hy1) [] (by kernel_rfl) (.cons rfl (.cons rfl .nil)) (by kernel_rfl) (by kernel_rfl) ObsRen.nil (by kernel_rfl) ObsRen.nil (by kernel_rfl)) ?_
  refine jq 1 [(2, vi y1)] [] ?_
  refine TriE.ret ?_
  have h := Option.some.inj h
  subst h
  exact DoneS.ret (S' := ⟨[(2, vi y1)], []⟩) Sees.refl rfl rfl
theorem cmp_isNaN_string_ok (n : Nat) (a0 : Str) (r : Unit) (h : cmp_isNaN_string n a0 = some r) : FnL Tryz.prog 186 [vt a0] [] (vb (!(a0 == a0))) [] := by
  dsimp only [cmp_isNaN_string] at h
  refine FnL.ofS (ts := [2]) Tryz.call186 Tryz.func186 rfl rfl (Nat.le_of_ble_eq_true rfl) (Nat.le_of_ble_eq_true rfl) (fun j h => absurd h (Nat.not_lt_zero j)) ?_
  refine sr [(0, vt a0)] [] ?_
  refine sr [(2, vb (!(a0 == a0)))] [] ?_
  refine TriE.ret ?_
  have h := Option.some.inj h
  subst h
  exact DoneS.ret (S' := ⟨[(2, vb (!(a0 == a0)))], []⟩) Sees.refl rfl rfl
theorem agrafferef08_CheckSet_ok (n : Nat) (a0 : List Task) (a1 : List Str) (r : Int) (h : agrafferef08_CheckSet n a0 a1 = some r) : FnL Tryz.prog 54 [eS 6 eTask a0, eS 1 vt a1] [] (vi r) [] := by
  dsimp only [agrafferef08_CheckSet] at h
  refine FnL.ofS (ts := [4]) Tryz.call54 Tryz.func54 rfl rfl (Nat.le_of_ble_eq_true rfl) (Nat.le_of_ble_eq_true rfl) (fun j h => absurd h (Nat.not_lt_zero j)) ?_
  refine sr [(0, eS 6 eTask a0), (1, eS 1 vt a1)] [] ?_
  refine TriE.seqK h (fun (_ : Unit) => St.mk [(1, eS 1 vt a1)] []) ?_ ?_
  · rintro ⟨⟩ h
    refine TriE.seqK h (fun (_ : Unit) => St.mk [] []) ?_ ?_
    · rintro ⟨⟩ h
      refine sr [(4, vi 0)] [] ?_
      refine TriE.ret ?_
      have h := Option.some.inj h
      subst h
      exact DoneS.ret (S' := ⟨[(4, vi 0)], []⟩) Sees.refl rfl rfl
    intro k2 h
    refine sr [(1, eS 1 vt a1), (6, vi 1)] [] ?_
    refine TriE.block ?_
    refine TriE.sees (S' := ⟨[(1, eS 1 vt a1), (6, vi 1)], []⟩) sy ?_
    refine TriE.loopN h (fun (v4 : Nat) => St.mk [(1, eS 1 vt a1), (6, vi v4)] []) rfl ?_
    clear h
    rintro back v4 h
    dsimp only [agrafferef08_CheckSet_L2] at h
    refine TriE.seq ?_
    refine sj ?_
    refine rn 2 [(1, eS 1 vt a1), (6, vi v4), (20, vi v4), (21, eS 1 vt a1)] [] ?_
    refine jv (vi (a1.length : Int)) (cy (I0 22 (.len 0 (.t 21)))) (ok_len_m rfl) rfl ?_
    refine jv (vb (decide (v4 < a1.length))) (cy (I0 23 (.bin .lss false (.t 20) (.t 22)))) (n_lss (i := v4) (j := a1.length) rfl rfl) rfl ?_
    refine jp [(1, eS 1 vt a1), (6, vi v4), (23, vb (decide (v4 < a1.length)))] ?_
    refine TriE.cond (b := decide (v4 < a1.length)) rfl (fun c4 => ?_) (fun c4 => ?_)
    · have h := cond_t h c4
      refine TriE.skip ?_
      refine TriE.seq ?_
      refine TriE.block ?_
      refine TriE.seq ?_
      refine TriE.sees (Sees.less (fr' := [(1, eS 1 vt a1), (6, vi v4)]) (.cons rfl (.cons rfl .nil))) ?_
      refine TriE.draw (by kernel_rfl) ?_
      refine RegD.run 2 [(27, vi v4), (26, eS 1 vt a1), (1, eS 1 vt a1), (6, vi v4)] [none, none] (by kernel_rfl) ?_
      obtain ⟨c5, h⟩ := chk_some h
      refine dv (vi ((v4 : Int) - 1)) (cy (I0 28 (.bin .sub false (.t 27) (.c (.p (.int .i64 1)))))) (r_sub rfl rfl c5) rfl ?_
      obtain ⟨c6, h⟩ := chk_some h
      refine dv (.fptr 1 (List.map vt a1) (((v4 : Int) - 1).toNat) 0) (cy (I0 29 (.iaddr 1 (.t 26) (.t 28)))) (ok_iaddr_m (j := ((v4 : Int) - 1).toNat) rfl rfl (inB_to c6) (inB_lt c6)) rfl ?_
      obtain ⟨c7, h⟩ := chk_some h
      refine dv (vt (ix a1 (((v4 : Int) - 1).toNat))) (cy (I0 30 (.load false 1 (.t 29)))) (ok_load_fm (v := vt (ix a1 (((v4 : Int) - 1).toNat))) rfl c7 rfl) rfl ?_
      refine RegD.run 2 [(32, vi v4), (31, eS 1 vt a1), (30, vt (ix a1 (((v4 : Int) - 1).toNat))), (29, .fptr 1 (List.map vt a1) (((v4 : Int) - 1).toNat) 0), (28, vi ((v4 : Int) - 1)), (27, vi v4), (26, eS 1 vt a1), (1, eS 1 vt a1), (6, vi v4)] [none, none, none, none, none, none, none] (by kernel_rfl) ?_
      refine dv (.fptr 1 (List.map vt a1) v4 0) (cy (I0 33 (.iaddr 1 (.t 31) (.t 32)))) (ok_iaddr_m (j := v4) rfl rfl rfl c4) rfl ?_
      refine dv (vt (ix a1 v4)) (cy (I0 34 (.load false 1 (.t 33)))) (ok_load_fm (v := vt (ix a1 v4)) rfl c4 rfl) rfl ?_
      refine RegD.run 1 [(35, vb (!bLt (ix a1 (((v4 : Int) - 1).toNat)) (ix a1 v4))), (34, vt (ix a1 v4)), (33, .fptr 1 (List.map vt a1) v4 0), (32, vi v4), (31, eS 1 vt a1), (30, vt (ix a1 (((v4 : Int) - 1).toNat))), (29, .fptr 1 (List.map vt a1) (((v4 : Int) - 1).toNat) 0), (28, vi ((v4 : Int) - 1)), (27, vi v4), (26, eS 1 vt a1), (1, eS 1 vt a1), (6, vi v4)] [none, none, none, none, none, none, none, none, none, none] (by kernel_rfl) ?_
      refine RegD.done rfl (by kernel_rfl) (S' := ⟨[(1, eS 1 vt a1), (6, vi v4), (35, vb (!bLt (ix a1 (((v4 : Int) - 1).toNat)) (ix a1 v4)))], []⟩) (sc [] (by decide) (by kernel_rfl) ObRen.nil rfl rfl) ?_
      refine TriE.cond (b := !bLt (ix a1 (((v4 : Int) - 1).toNat)) (ix a1 v4)) rfl (fun c8 => ?_) (fun c8 => ?_)
      · have h := cond_t h c8
        refine sr [(4, vi 9)] [] ?_
        refine TriE.ret ?_
        have h := Option.some.inj h
        subst h
        exact DoneS.ret (S' := ⟨[(4, vi 9)], []⟩) Sees.refl rfl rfl
      have h := cond_f h c8
      refine TriE.skip ?_
      refine TriE.regJ ?_
      refine rn 1 [(1, eS 1 vt a1), (24, vi v4)] [] ?_
      obtain ⟨c9, h⟩ := chk_some h
      refine jv (vi ((v4 + 1 : Nat) : Int)) (cy (I0 25 (.bin .add false (.t 24) (.c (.p (.int .i64 1)))))) (r_addn (i := v4) (j := 1) rfl rfl c9) rfl ?_
      refine jq 1 [(1, eS 1 vt a1), (6, vi ((v4 + 1 : Nat) : Int))] [] ?_
      exact Vs.intro sy ⟨(v4 + 1), rfl, h⟩
    have h := cond_f h c4
    refine TriE.exit ?_
    exact Vs.intro sy ⟨(), rfl, h⟩
  intro k1 h
  refine sr [(0, eS 6 eTask a0), (1, eS 1 vt a1), (5, vi 0)] [] ?_
  refine TriE.block ?_
  refine TriE.sees (S' := ⟨[(0, eS 6 eTask a0), (1, eS 1 vt a1), (5, vi 0)], []⟩) sy ?_
  refine TriE.loopN h (fun (v2 : Nat) => St.mk [(0, eS 6 eTask a0), (1, eS 1 vt a1), (5, vi v2)] []) rfl ?_
  clear h
  rintro back v2 h
  dsimp only [agrafferef08_CheckSet_L1] at h
  refine TriE.seq ?_
  refine sj ?_
  refine rn 2 [(0, eS 6 eTask a0), (1, eS 1 vt a1), (5, vi v2), (7, vi v2), (8, eS 1 vt a1)] [] ?_
  refine jv (vi (a1.length : Int)) (cy (I0 9 (.len 0 (.t 8)))) (ok_len_m rfl) rfl ?_
  refine jv (vb (decide (v2 < a1.length))) (cy (I0 10 (.bin .lss false (.t 7) (.t 9)))) (n_lss (i := v2) (j := a1.length) rfl rfl) rfl ?_
  refine jp [(0, eS 6 eTask a0), (1, eS 1 vt a1), (5, vi v2), (10, vb (decide (v2 < a1.length)))] ?_
  refine TriE.cond (b := decide (v2 < a1.length)) rfl (fun c1 => ?_) (fun c1 => ?_)
  · have h := cond_t h c1
    refine TriE.skip ?_
    refine TriE.seq ?_
    refine TriE.block ?_
    refine sj ?_
    refine rn 3 [(0, eS 6 eTask a0), (1, eS 1 vt a1), (5, vi v2), (13, eS 6 eTask a0), (14, eS 1 vt a1), (15, vi v2)] [] ?_
    refine jv (.fptr 1 (List.map vt a1) v2 0) (cy (I0 16 (.iaddr 1 (.t 14) (.t 15)))) (ok_iaddr_m (j := v2) rfl rfl rfl c1) rfl ?_
    refine jv (vt (ix a1 v2)) (cy (I0 17 (.load false 1 (.t 16)))) (ok_load_fm (v := vt (ix a1 v2)) rfl c1 rfl) rfl ?_
    obtain ⟨y3, hy3, h⟩ := bind_some h
    refine RegJ.op (Op1.call (y' := vi y3) (obx := []) (oby := []) (ob2 := []) _ _ (cy (I0 18 (.call 73 [(.t 13), (.t 17)]))) rfl (agrafferef08_Find_ok n a0 (ix a1 v2) y3 hy3) [] (by kernel_rfl) (.cons rfl (.cons rfl (.cons rfl .nil))) (by kernel_rfl) (by kernel_rfl) ObsRen.nil (by kernel_rfl) ObsRen.nil (by kernel_rfl)) ?_
    refine jq 1 [(0, eS 6 eTask a0), (1, eS 1 vt a1), (5, vi v2), (19, vb (decide (y3 < (0 : Int))))] [] ?_
    refine TriE.cond (b := decide (y3 < (0 : Int))) rfl (fun c2 => ?_) (fun c2 => ?_)
    · have h := cond_t h c2
      refine sr [(4, vi 6)] [] ?_
      refine TriE.ret ?_
      have h := Option.some.inj h
      subst h
      exact DoneS.ret (S' := ⟨[(4, vi 6)], []⟩) Sees.refl rfl rfl
    have h := cond_f h c2
    refine TriE.skip ?_
    refine TriE.regJ ?_
    refine rn 1 [(0, eS 6 eTask a0), (1, eS 1 vt a1), (11, vi v2)] [] ?_
    obtain ⟨c3, h⟩ := chk_some h
    refine jv (vi ((v2 + 1 : Nat) : Int)) (cy (I0 12 (.bin .add false (.t 11) (.c (.p (.int .i64 1)))))) (r_addn (i := v2) (j := 1) rfl rfl c3) rfl ?_
    refine jq 1 [(0, eS 6 eTask a0), (1, eS 1 vt a1), (5, vi ((v2 + 1 : Nat) : Int))] [] ?_
    exact Vs.intro sy ⟨(v2 + 1), rfl, h⟩
  have h := cond_f h c1
  refine TriE.exit ?_
  exact Vs.intro sy ⟨(), rfl, h⟩
theorem restore_costOf_ok (n : Nat) (a0 : Task) (a1 : List Stocked) (r : Int × Bool) (h : restore_costOf n a0 a1 = some r) : FnL Tryz.prog 132 [.agg [vt a0.Name, vi a0.Cents, vi a0.Hours, eS 1 vt a0.Needs, eS 1 (eS 1 vt) a0.OneOf, eS 2 ePartCount a0.Parts], eS 3 eStocked a1] [] (.tup [vi r.1, vb r.2]) [] := by
  dsimp only [restore_costOf] at h
  refine FnL.ofS (ts := [4, 5]) Tryz.call132 Tryz.func132 rfl rfl (Nat.le_of_ble_eq_true rfl) (Nat.le_of_ble_eq_true rfl) (fun j h => absurd h (Nat.not_lt_zero j)) ?_
  refine sr [(1, eS 3 eStocked a1), (2, .ptr 0 0 0)] [some (.row 6 [.agg [vt a0.Name, vi a0.Cents, vi a0.Hours, eS 1 vt a0.Needs, eS 1 (eS 1 vt) a0.OneOf, eS 2 ePartCount a0.Parts]])] ?_
  refine sr [(1, eS 3 eStocked a1), (2, .ptr 0 0 0), (6, vi a0.Cents)] [some (.row 6 [.agg [vt a0.Name, vi a0.Cents, vi a0.Hours, eS 1 vt a0.Needs, eS 1 (eS 1 vt) a0.OneOf, eS 2 ePartCount a0.Parts]])] ?_
  refine TriE.seqK h (fun (v5 : Int) => St.mk [(6, vi v5)] []) ?_ ?_
  · rintro v5 h
    refine sr [(4, vi v5), (5, vb true)] [] ?_
    refine TriE.ret ?_
    have h := Option.some.inj h
    subst h
    exact DoneS.ret (S' := ⟨[(4, vi v5), (5, vb true)], []⟩) Sees.refl rfl rfl
  intro k1 h
  refine sj ?_
  refine rn 2 [(1, eS 3 eStocked a1), (6, vi a0.Cents), (13, eS 2 ePartCount a0.Parts)] [some (.row 6 [.agg [vt a0.Name, vi a0.Cents, vi a0.Hours, eS 1 vt a0.Needs, eS 1 (eS 1 vt) a0.OneOf, eS 2 ePartCount a0.Parts]])] ?_
  refine jv (vi ((a0.Parts.length : Nat) : Int)) (cy (I0 14 (.len 0 (.t 13)))) (ok_len_m rfl) rfl ?_
  refine jq 1 [(1, eS 3 eStocked a1), (6, vi a0.Cents), (13, eS 2 ePartCount a0.Parts), (14, vi ((a0.Parts.length : Nat) : Int)), (15, vi 0)] [some (.row 6 [.agg [vt a0.Name, vi a0.Cents, vi a0.Hours, eS 1 vt a0.Needs, eS 1 (eS 1 vt) a0.OneOf, eS 2 ePartCount a0.Parts]])] ?_
  refine TriE.block ?_
  refine TriE.sees (S' := ⟨[(1, eS 3 eStocked a1), (6, vi a0.Cents), (13, eS 2 ePartCount a0.Parts), (14, vi ((a0.Parts.length : Nat) : Int)), (15, vi 0)], []⟩) (sc [] (by decide) (by kernel_rfl) ObRen.nil rfl rfl) ?_
  refine TriE.loopN h (fun (t : Int × Nat) => match t with | (v2, v3) => St.mk [(1, eS 3 eStocked a1), (6, vi v2), (13, eS 2 ePartCount a0.Parts), (14, vi ((a0.Parts.length : Nat) : Int)), (15, vi v3)] []) rfl ?_
  clear h
  rintro back ⟨v2, v3⟩ h
  dsimp only [restore_costOf_L1] at h
  refine sj ?_
  refine jv (vb (decide (v3 < a0.Parts.length))) (cy (I0 16 (.bin .lss false (.t 15) (.t 14)))) (n_lss (i := v3) (j := a0.Parts.length) rfl rfl) rfl ?_
  refine jp [(1, eS 3 eStocked a1), (6, vi v2), (13, eS 2 ePartCount a0.Parts), (14, vi ((a0.Parts.length : Nat) : Int)), (15, vi v3), (16, vb (decide (v3 < a0.Parts.length)))] ?_
  refine TriE.seq ?_
  refine TriE.cond (b := decide (v3 < a0.Parts.length)) rfl (fun c1 => ?_) (fun c1 => ?_)
  · have h := cond_t h c1
    refine TriE.skip ?_
    refine TriE.seq ?_
    refine TriE.block ?_
    refine sj ?_
    refine jv (.fptr 2 (List.map ePartCount a0.Parts) v3 0) (cy (I0 17 (.iaddr 2 (.t 13) (.t 15)))) (ok_iaddr_m (j := v3) rfl rfl rfl c1) rfl ?_
    refine jv (.agg [vt ((ix a0.Parts v3).Part), vi ((ix a0.Parts v3).Count)]) (cy (I0 18 (.load true 2 (.t 17)))) (ok_load_fm (v := .agg [vt ((ix a0.Parts v3).Part), vi ((ix a0.Parts v3).Count)]) rfl c1 rfl) rfl ?_
    refine jq 2 [(1, eS 3 eStocked a1), (6, vi v2), (13, eS 2 ePartCount a0.Parts), (14, vi ((a0.Parts.length : Nat) : Int)), (15, vi v3), (8, .ptr 0 0 0)] [some (.row 2 [.agg [vt ((ix a0.Parts v3).Part), vi ((ix a0.Parts v3).Count)]])] ?_
    refine sj ?_
    refine rn 3 [(1, eS 3 eStocked a1), (6, vi v2), (13, eS 2 ePartCount a0.Parts), (14, vi ((a0.Parts.length : Nat) : Int)), (15, vi v3), (8, .ptr 0 0 0), (19, eS 3 eStocked a1), (21, vt ((ix a0.Parts v3).Part))] [some (.row 2 [.agg [vt ((ix a0.Parts v3).Part), vi ((ix a0.Parts v3).Count)]])] ?_
    obtain ⟨y4, hy4, h⟩ := bind_some h
    refine RegJ.op (Op1.call (y' := vi y4) (obx := []) (oby := []) (ob2 := [some (.row 2 [.agg [vt ((ix a0.Parts v3).Part), vi ((ix a0.Parts v3).Count)]])]) _ _ (cy (I0 22 (.call 90 [(.t 19), (.t 21)]))) rfl (restore_stocked_ok n a1 ((ix a0.Parts v3).Part) y4 hy4) [] (by kernel_rfl) (.cons rfl (.cons rfl (.cons rfl .nil))) (by kernel_rfl) (by kernel_rfl) ObsRen.nil (by kernel_rfl) ObsRen.nil (by kernel_rfl)) ?_
    refine jq 1 [(1, eS 3 eStocked a1), (6, vi v2), (13, eS 2 ePartCount a0.Parts), (14, vi ((a0.Parts.length : Nat) : Int)), (15, vi v3), (8, .ptr 0 0 0), (9, vi y4)] [some (.row 2 [.agg [vt ((ix a0.Parts v3).Part), vi ((ix a0.Parts v3).Count)]])] ?_
    refine TriE.seq ?_
    refine sr [(1, eS 3 eStocked a1), (6, vi v2), (13, eS 2 ePartCount a0.Parts), (14, vi ((a0.Parts.length : Nat) : Int)), (15, vi v3), (8, .ptr 0 0 0), (9, vi y4), (24, vb (decide (y4 < (0 : Int))))] [some (.row 2 [.agg [vt ((ix a0.Parts v3).Part), vi ((ix a0.Parts v3).Count)]])] ?_
    refine TriE.cond (b := decide (y4 < (0 : Int))) rfl (fun c2 => ?_) (fun c2 => ?_)
    · have h := cond_t h c2
      refine sr [(4, vi 0), (5, vb false)] [some (.row 2 [.agg [vt ((ix a0.Parts v3).Part), vi ((ix a0.Parts v3).Count)]])] ?_
      refine TriE.ret ?_
      have h := Option.some.inj h
      subst h
      exact DoneS.ret (S' := ⟨[(4, vi 0), (5, vb false)], []⟩) (sc [] (by decide) (by kernel_rfl) ObRen.nil rfl rfl) rfl rfl
    have h := cond_f h c2
    refine TriE.skip ?_
    refine TriE.sees (Sees.less (fr' := [(1, eS 3 eStocked a1), (6, vi v2), (13, eS 2 ePartCount a0.Parts), (14, vi ((a0.Parts.length : Nat) : Int)), (15, vi v3), (8, .ptr 0 0 0), (9, vi y4)]) (.cons rfl (.cons rfl (.cons rfl (.cons rfl (.cons rfl (.cons rfl (.cons rfl .nil)))))))) ?_
    refine TriE.draw (by kernel_rfl) ?_
    refine RegD.run 5 [(29, vi y4), (28, eS 3 eStocked a1), (27, vi ((ix a0.Parts v3).Count)), (26, .ptr 0 0 1), (25, vi v2), (1, eS 3 eStocked a1), (6, vi v2), (13, eS 2 ePartCount a0.Parts), (14, vi ((a0.Parts.length : Nat) : Int)), (15, vi v3), (8, .ptr 0 0 0), (9, vi y4)] [some (.row 2 [.agg [vt ((ix a0.Parts v3).Part), vi ((ix a0.Parts v3).Count)]]), none, none, none, none, none] (by kernel_rfl) ?_
    obtain ⟨c3, h⟩ := chk_some h
    refine dv (.fptr 3 (List.map eStocked a1) y4.toNat 0) (cy (I0 30 (.iaddr 3 (.t 28) (.t 29)))) (ok_iaddr_m (j := y4.toNat) rfl rfl (inB_to c3) (inB_lt c3)) rfl ?_
    refine RegD.run 1 [(31, .fptr 3 (List.map eStocked a1) y4.toNat 1), (30, .fptr 3 (List.map eStocked a1) y4.toNat 0), (29, vi y4), (28, eS 3 eStocked a1), (27, vi ((ix a0.Parts v3).Count)), (26, .ptr 0 0 1), (25, vi v2), (1, eS 3 eStocked a1), (6, vi v2), (13, eS 2 ePartCount a0.Parts), (14, vi ((a0.Parts.length : Nat) : Int)), (15, vi v3), (8, .ptr 0 0 0), (9, vi y4)] [some (.row 2 [.agg [vt ((ix a0.Parts v3).Part), vi ((ix a0.Parts v3).Count)]]), none, none, none, none, none, none, none] (by kernel_rfl) ?_
    obtain ⟨c4, h⟩ := chk_some h
    refine dv (vi ((ix a1 y4.toNat).Cents)) (cy (I0 32 (.load false 1 (.t 31)))) (ok_load_fm (v := vi ((ix a1 y4.toNat).Cents)) rfl c4 rfl) rfl ?_
    obtain ⟨c5, h⟩ := chk_some h
    refine dv (vi (((ix a0.Parts v3).Count) * ((ix a1 y4.toNat).Cents))) (cy (I0 33 (.bin .mul false (.t 27) (.t 32)))) (r_mul rfl rfl c5) rfl ?_
    obtain ⟨c6, h⟩ := chk_some h
    refine dv (vi (v2 + (((ix a0.Parts v3).Count) * ((ix a1 y4.toNat).Cents)))) (cy (I0 34 (.bin .add false (.t 25) (.t 33)))) (r_add rfl rfl c6) rfl ?_
    refine RegD.run 1 [(6, vi (v2 + (((ix a0.Parts v3).Count) * ((ix a1 y4.toNat).Cents)))), (34, vi (v2 + (((ix a0.Parts v3).Count) * ((ix a1 y4.toNat).Cents)))), (33, vi (((ix a0.Parts v3).Count) * ((ix a1 y4.toNat).Cents))), (32, vi ((ix a1 y4.toNat).Cents)), (31, .fptr 3 (List.map eStocked a1) y4.toNat 1), (30, .fptr 3 (List.map eStocked a1) y4.toNat 0), (29, vi y4), (28, eS 3 eStocked a1), (27, vi ((ix a0.Parts v3).Count)), (26, .ptr 0 0 1), (25, vi v2), (1, eS 3 eStocked a1), (6, vi v2), (13, eS 2 ePartCount a0.Parts), (14, vi ((a0.Parts.length : Nat) : Int)), (15, vi v3), (8, .ptr 0 0 0), (9, vi y4)] [some (.row 2 [.agg [vt ((ix a0.Parts v3).Part), vi ((ix a0.Parts v3).Count)]]), none, none, none, none, none, none, none, none, none, none, none] (by kernel_rfl) ?_
    refine RegD.done rfl (by kernel_rfl) (S' := ⟨[(1, eS 3 eStocked a1), (13, eS 2 ePartCount a0.Parts), (14, vi ((a0.Parts.length : Nat) : Int)), (15, vi v3), (6, vi (v2 + (((ix a0.Parts v3).Count) * ((ix a1 y4.toNat).Cents))))], []⟩) (sc [] (by decide) (by kernel_rfl) ObRen.nil rfl rfl) ?_
    refine TriE.regJ ?_
    obtain ⟨c7, h⟩ := chk_some h
    refine jv (vi ((v3 + 1 : Nat) : Int)) (cy (I0 35 (.bin .add false (.t 15) (.c (.p (.int .i64 1)))))) (r_addn (i := v3) (j := 1) rfl rfl c7) rfl ?_
    refine jq 1 [(1, eS 3 eStocked a1), (13, eS 2 ePartCount a0.Parts), (14, vi ((a0.Parts.length : Nat) : Int)), (6, vi (v2 + (((ix a0.Parts v3).Count) * ((ix a1 y4.toNat).Cents)))), (15, vi ((v3 + 1 : Nat) : Int))] [] ?_
    exact Vs.intro sy ⟨(v2 + (((ix a0.Parts v3).Count) * ((ix a1 y4.toNat).Cents)), v3 + 1), rfl, h⟩
  have h := cond_f h c1
  refine TriE.exit ?_
  exact Vs.intro sy ⟨v2, rfl, h⟩
theorem restore_Cost_ok (n : Nat) (a0 : List Task) (a1 : List Stocked) (a2 : List Str) (r : Int × Int) (h : restore_Cost n a0 a1 a2 = some r) : FnL Tryz.prog 66 [eS 6 eTask a0, eS 3 eStocked a1, eS 1 vt a2] [] (.tup [vi r.2, vi r.1]) [] := by
  dsimp only [restore_Cost] at h
  refine FnL.ofS (ts := [6, 7]) Tryz.call66 Tryz.func66 rfl rfl (Nat.le_of_ble_eq_true rfl) (Nat.le_of_ble_eq_true rfl) (fun j h => absurd h (Nat.not_lt_zero j)) ?_
  refine sr [(0, eS 6 eTask a0), (1, eS 3 eStocked a1), (2, eS 1 vt a2)] [] ?_
  refine TriE.seq ?_
  refine sj ?_
  refine rn 1 [(0, eS 6 eTask a0), (1, eS 3 eStocked a1), (2, eS 1 vt a2), (16, eS 6 eTask a0)] [] ?_
  obtain ⟨y1, hy1, h⟩ := bind_some h
  refine RegJ.op (Op1.call (y' := vi y1) (obx := []) (oby := []) (ob2 := []) _ _ (cy (I0 17 (.call 19 [(.t 16)]))) rfl (restore_CheckTasks_ok n a0 y1 hy1) [] (by kernel_rfl) (.cons rfl (.cons rfl .nil)) (by kernel_rfl) (by kernel_rfl) ObsRen.nil (by kernel_rfl) ObsRen.nil (by kernel_rfl)) ?_
  refine jq 1 [(0, eS 6 eTask a0), (1, eS 3 eStocked a1), (2, eS 1 vt a2), (8, vi y1)] [] ?_
  refine sr [(0, eS 6 eTask a0), (1, eS 3 eStocked a1), (2, eS 1 vt a2), (8, vi y1), (19, vb (y1 != (0 : Int)))] [] ?_
  refine TriE.cond (b := (y1 != (0 : Int))) rfl (fun c1 => ?_) (fun c1 => ?_)
  · have h := cond_t h c1
    refine sr [(6, vi 0), (7, vi y1)] [] ?_
    refine TriE.ret ?_
    have h := Option.some.inj h
    subst h
    exact DoneS.ret (S' := ⟨[(6, vi 0), (7, vi y1)], []⟩) Sees.refl rfl rfl
  have h := cond_f h c1
  refine TriE.skip ?_
  refine TriE.seq ?_
  refine sj ?_
  refine rn 1 [(0, eS 6 eTask a0), (1, eS 3 eStocked a1), (2, eS 1 vt a2), (21, eS 3 eStocked a1)] [] ?_
  obtain ⟨y2, hy2, h⟩ := bind_some h
  refine RegJ.op (Op1.call (y' := vi y2) (obx := []) (oby := []) (ob2 := []) _ _ (cy (I0 22 (.call 22 [(.t 21)]))) rfl (restore_CheckStock_ok n a1 y2 hy2) [] (by kernel_rfl) (.cons rfl (.cons rfl .nil)) (by kernel_rfl) (by kernel_rfl) ObsRen.nil (by kernel_rfl) ObsRen.nil (by kernel_rfl)) ?_
  refine jq 1 [(0, eS 6 eTask a0), (1, eS 3 eStocked a1), (2, eS 1 vt a2), (9, vi y2)] [] ?_
  refine sr [(0, eS 6 eTask a0), (1, eS 3 eStocked a1), (2, eS 1 vt a2), (9, vi y2), (24, vb (y2 != (0 : Int)))] [] ?_
  refine TriE.cond (b := (y2 != (0 : Int))) rfl (fun c2 => ?_) (fun c2 => ?_)
  · have h := cond_t h c2
    refine sr [(6, vi 0), (7, vi y2)] [] ?_
    refine TriE.ret ?_
    have h := Option.some.inj h
    subst h
    exact DoneS.ret (S' := ⟨[(6, vi 0), (7, vi y2)], []⟩) Sees.refl rfl rfl
  have h := cond_f h c2
  refine TriE.skip ?_
  refine TriE.seq ?_
  refine sj ?_
  refine rn 2 [(0, eS 6 eTask a0), (1, eS 3 eStocked a1), (2, eS 1 vt a2), (26, eS 6 eTask a0), (27, eS 1 vt a2)] [] ?_
  obtain ⟨y3, hy3, h⟩ := bind_some h
  refine RegJ.op (Op1.call (y' := vi y3) (obx := []) (oby := []) (ob2 := []) _ _ (cy (I0 28 (.call 131 [(.t 26), (.t 27)]))) rfl (restore_list_checkSet_ok n a0 a2 y3 hy3) [] (by kernel_rfl) (.cons rfl (.cons rfl (.cons rfl .nil))) (by kernel_rfl) (by kernel_rfl) ObsRen.nil (by kernel_rfl) ObsRen.nil (by kernel_rfl)) ?_
  refine jq 1 [(0, eS 6 eTask a0), (1, eS 3 eStocked a1), (2, eS 1 vt a2), (10, vi y3)] [] ?_
  refine sr [(0, eS 6 eTask a0), (1, eS 3 eStocked a1), (2, eS 1 vt a2), (10, vi y3), (30, vb (y3 != (0 : Int)))] [] ?_
  refine TriE.cond (b := (y3 != (0 : Int))) rfl (fun c3 => ?_) (fun c3 => ?_)
  · have h := cond_t h c3
    refine sr [(6, vi 0), (7, vi y3)] [] ?_
    refine TriE.ret ?_
    have h := Option.some.inj h
    subst h
    exact DoneS.ret (S' := ⟨[(6, vi 0), (7, vi y3)], []⟩) Sees.refl rfl rfl
  have h := cond_f h c3
  refine TriE.skip ?_
  refine sr [(0, eS 6 eTask a0), (1, eS 3 eStocked a1), (2, eS 1 vt a2), (11, vi 0)] [] ?_
  refine TriE.seqK h (fun (v10 : Int) => St.mk [(11, vi v10)] []) ?_ ?_
  · rintro v10 h
    refine sr [(6, vi v10), (7, vi 0)] [] ?_
    refine TriE.ret ?_
    have h := Option.some.inj h
    subst h
    exact DoneS.ret (S' := ⟨[(6, vi v10), (7, vi 0)], []⟩) Sees.refl rfl rfl
  intro k1 h
  refine sj ?_
  refine rn 1 [(0, eS 6 eTask a0), (1, eS 3 eStocked a1), (11, vi 0), (32, eS 1 vt a2)] [] ?_
  refine jv (vi (a2.length : Int)) (cy (I0 33 (.len 0 (.t 32)))) (ok_len_m rfl) rfl ?_
  refine jq 1 [(0, eS 6 eTask a0), (1, eS 3 eStocked a1), (11, vi 0), (32, eS 1 vt a2), (33, vi (a2.length : Int)), (34, vi 0)] [] ?_
  refine TriE.block ?_
  refine TriE.sees (S' := ⟨[(0, eS 6 eTask a0), (1, eS 3 eStocked a1), (11, vi 0), (32, eS 1 vt a2), (33, vi (a2.length : Int)), (34, vi 0)], []⟩) sy ?_
  refine TriE.loopN h (fun (t : Int × Nat) => match t with | (v6, v7) => St.mk [(0, eS 6 eTask a0), (1, eS 3 eStocked a1), (11, vi v6), (32, eS 1 vt a2), (33, vi (a2.length : Int)), (34, vi v7)] []) rfl ?_
  clear h
  rintro back ⟨v6, v7⟩ h
  dsimp only [restore_Cost_L1] at h
  refine sj ?_
  refine jv (vb (decide (v7 < a2.length))) (cy (I0 35 (.bin .lss false (.t 34) (.t 33)))) (n_lss (i := v7) (j := a2.length) rfl rfl) rfl ?_
  refine jp [(0, eS 6 eTask a0), (1, eS 3 eStocked a1), (11, vi v6), (32, eS 1 vt a2), (33, vi (a2.length : Int)), (34, vi v7), (35, vb (decide (v7 < a2.length)))] ?_
  refine TriE.seq ?_
  refine TriE.cond (b := decide (v7 < a2.length)) rfl (fun c4 => ?_) (fun c4 => ?_)
  · have h := cond_t h c4
    refine TriE.skip ?_
    refine TriE.seq ?_
    refine TriE.block ?_
    refine sj ?_
    refine jv (.fptr 1 (List.map vt a2) v7 0) (cy (I0 36 (.iaddr 1 (.t 32) (.t 34)))) (ok_iaddr_m (j := v7) rfl rfl rfl c4) rfl ?_
    refine jv (vt (ix a2 v7)) (cy (I0 37 (.load false 1 (.t 36)))) (ok_load_fm (v := vt (ix a2 v7)) rfl c4 rfl) rfl ?_
    refine jq 1 [(0, eS 6 eTask a0), (1, eS 3 eStocked a1), (11, vi v6), (32, eS 1 vt a2), (33, vi (a2.length : Int)), (34, vi v7), (13, vt (ix a2 v7))] [] ?_
    refine sj ?_
    refine rn 3 [(0, eS 6 eTask a0), (1, eS 3 eStocked a1), (11, vi v6), (32, eS 1 vt a2), (33, vi (a2.length : Int)), (34, vi v7), (39, eS 6 eTask a0), (40, eS 6 eTask a0), (41, vt (ix a2 v7))] [] ?_
    obtain ⟨y8, hy8, h⟩ := bind_some h
    refine RegJ.op (Op1.call (y' := vi y8) (obx := []) (oby := []) (ob2 := []) _ _ (cy (I0 42 (.call 117 [(.t 40), (.t 41)]))) rfl (restore_list_find_ok n a0 (ix a2 v7) y8 hy8) [] (by kernel_rfl) (.cons rfl (.cons rfl (.cons rfl .nil))) (by kernel_rfl) (by kernel_rfl) ObsRen.nil (by kernel_rfl) ObsRen.nil (by kernel_rfl)) ?_
    obtain ⟨c5, h⟩ := chk_some h
    refine jv (.fptr 6 (List.map eTask a0) y8.toNat 0) (cy (I0 43 (.iaddr 6 (.t 39) (.t 42)))) (ok_iaddr_m (j := y8.toNat) rfl rfl (inB_to c5) (inB_lt c5)) rfl ?_
    obtain ⟨c6, h⟩ := chk_some h
    refine jv (.agg [vt ((ix a0 y8.toNat).Name), vi ((ix a0 y8.toNat).Cents), vi ((ix a0 y8.toNat).Hours), eS 1 vt ((ix a0 y8.toNat).Needs), eS 1 (eS 1 vt) ((ix a0 y8.toNat).OneOf), eS 2 ePartCount ((ix a0 y8.toNat).Parts)]) (cy (I0 44 (.load true 6 (.t 43)))) (ok_load_fm (v := .agg [vt ((ix a0 y8.toNat).Name), vi ((ix a0 y8.toNat).Cents), vi ((ix a0 y8.toNat).Hours), eS 1 vt ((ix a0 y8.toNat).Needs), eS 1 (eS 1 vt) ((ix a0 y8.toNat).OneOf), eS 2 ePartCount ((ix a0 y8.toNat).Parts)]) rfl c6 rfl) rfl ?_
    refine rn 1 [(0, eS 6 eTask a0), (1, eS 3 eStocked a1), (11, vi v6), (32, eS 1 vt a2), (33, vi (a2.length : Int)), (34, vi v7), (44, .agg [vt ((ix a0 y8.toNat).Name), vi ((ix a0 y8.toNat).Cents), vi ((ix a0 y8.toNat).Hours), eS 1 vt ((ix a0 y8.toNat).Needs), eS 1 (eS 1 vt) ((ix a0 y8.toNat).OneOf), eS 2 ePartCount ((ix a0 y8.toNat).Parts)]), (45, eS 3 eStocked a1)] [] ?_
    obtain ⟨y9, hy9, h⟩ := bind_some h
    refine RegJ.op (Op1.call (y' := .tup [vi y9.1, vb y9.2]) (obx := []) (oby := []) (ob2 := []) _ _ (cy (I0 46 (.call 132 [(.t 44), (.t 45)]))) rfl (restore_costOf_ok n (ix a0 y8.toNat) a1 y9 hy9) [] (by kernel_rfl) (.cons rfl (.cons rfl (.cons rfl .nil))) (by kernel_rfl) (by kernel_rfl) ObsRen.nil (by kernel_rfl) ObsRen.nil (by kernel_rfl)) ?_
    refine jq 5 [(0, eS 6 eTask a0), (1, eS 3 eStocked a1), (11, vi v6), (32, eS 1 vt a2), (33, vi (a2.length : Int)), (34, vi v7), (14, vi y9.1), (15, vb y9.2)] [] ?_
    refine TriE.seq ?_
    refine sr [(0, eS 6 eTask a0), (1, eS 3 eStocked a1), (11, vi v6), (32, eS 1 vt a2), (33, vi (a2.length : Int)), (34, vi v7), (14, vi y9.1), (50, vb (!y9.2))] [] ?_
    refine TriE.cond (b := !y9.2) rfl (fun c7 => ?_) (fun c7 => ?_)
    · have h := cond_t h c7
      refine sr [(6, vi 0), (7, vi 6)] [] ?_
      refine TriE.ret ?_
      have h := Option.some.inj h
      subst h
      exact DoneS.ret (S' := ⟨[(6, vi 0), (7, vi 6)], []⟩) Sees.refl rfl rfl
    have h := cond_f h c7
    refine TriE.skip ?_
    refine TriE.regJ ?_
    refine rn 2 [(0, eS 6 eTask a0), (1, eS 3 eStocked a1), (32, eS 1 vt a2), (33, vi (a2.length : Int)), (34, vi v7), (51, vi v6), (52, vi y9.1)] [] ?_
    obtain ⟨c8, h⟩ := chk_some h
    refine jv (vi (v6 + y9.1)) (cy (I0 53 (.bin .add false (.t 51) (.t 52)))) (r_add rfl rfl c8) rfl ?_
    refine jq 1 [(0, eS 6 eTask a0), (1, eS 3 eStocked a1), (32, eS 1 vt a2), (33, vi (a2.length : Int)), (34, vi v7), (11, vi (v6 + y9.1))] [] ?_
    refine TriE.regJ ?_
    obtain ⟨c9, h⟩ := chk_some h
    refine jv (vi ((v7 + 1 : Nat) : Int)) (cy (I0 54 (.bin .add false (.t 34) (.c (.p (.int .i64 1)))))) (r_addn (i := v7) (j := 1) rfl rfl c9) rfl ?_
    refine jq 1 [(0, eS 6 eTask a0), (1, eS 3 eStocked a1), (32, eS 1 vt a2), (33, vi (a2.length : Int)), (11, vi (v6 + y9.1)), (34, vi ((v7 + 1 : Nat) : Int))] [] ?_
    exact Vs.intro sy ⟨(v6 + y9.1, v7 + 1), rfl, h⟩
  have h := cond_f h c4
  refine TriE.exit ?_
  exact Vs.intro sy ⟨v6, rfl, h⟩
theorem agrafferef08_Cost_ok (n : Nat) (a0 : List Task) (a1 : List Stocked) (a2 : List Str) (r : Int × Bool) (h : agrafferef08_Cost n a0 a1 a2 = some r) : FnL Tryz.prog 71 [eS 6 eTask a0, eS 3 eStocked a1, eS 1 vt a2] [] (.tup [vi r.1, vb r.2]) [] := by
  dsimp only [agrafferef08_Cost] at h
  refine FnL.ofS (ts := [6, 7]) Tryz.call71 Tryz.func71 rfl rfl (Nat.le_of_ble_eq_true rfl) (Nat.le_of_ble_eq_true rfl) (fun j h => absurd h (Nat.not_lt_zero j)) ?_
  refine sr [(0, eS 6 eTask a0), (1, eS 3 eStocked a1), (2, eS 1 vt a2)] [] ?_
  refine sr [(0, eS 6 eTask a0), (1, eS 3 eStocked a1), (2, eS 1 vt a2), (8, vi 0)] [] ?_
  refine TriE.seqK h (fun (v15 : Int) => St.mk [(8, vi v15)] []) ?_ ?_
  · rintro v15 h
    refine sr [(6, vi v15), (7, vb true)] [] ?_
    refine TriE.ret ?_
    have h := Option.some.inj h
    subst h
    exact DoneS.ret (S' := ⟨[(6, vi v15), (7, vb true)], []⟩) Sees.refl rfl rfl
  intro k2 h
  refine sr [(0, eS 6 eTask a0), (1, eS 3 eStocked a1), (2, eS 1 vt a2), (8, vi 0), (9, vi 0)] [] ?_
  refine TriE.block ?_
  refine TriE.sees (S' := ⟨[(0, eS 6 eTask a0), (1, eS 3 eStocked a1), (2, eS 1 vt a2), (8, vi 0), (9, vi 0)], []⟩) sy ?_
  refine TriE.loopN h (fun (t : Int × Nat) => match t with | (v7, v8) => St.mk [(0, eS 6 eTask a0), (1, eS 3 eStocked a1), (2, eS 1 vt a2), (8, vi v7), (9, vi v8)] []) rfl ?_
  clear h
  rintro back ⟨v7, v8⟩ h
  dsimp only [agrafferef08_Cost_L2] at h
  refine TriE.seq ?_
  refine sj ?_
  refine rn 2 [(0, eS 6 eTask a0), (1, eS 3 eStocked a1), (2, eS 1 vt a2), (8, vi v7), (9, vi v8), (13, vi v8), (14, eS 1 vt a2)] [] ?_
  refine jv (vi (a2.length : Int)) (cy (I0 15 (.len 0 (.t 14)))) (ok_len_m rfl) rfl ?_
  refine jv (vb (decide (v8 < a2.length))) (cy (I0 16 (.bin .lss false (.t 13) (.t 15)))) (n_lss (i := v8) (j := a2.length) rfl rfl) rfl ?_
  refine jp [(0, eS 6 eTask a0), (1, eS 3 eStocked a1), (2, eS 1 vt a2), (8, vi v7), (9, vi v8), (16, vb (decide (v8 < a2.length)))] ?_
  refine TriE.cond (b := decide (v8 < a2.length)) rfl (fun c1 => ?_) (fun c1 => ?_)
  · have h := cond_t h c1
    refine TriE.skip ?_
    refine TriE.seqK h (fun (v14 : Int) => St.mk [(0, eS 6 eTask a0), (1, eS 3 eStocked a1), (2, eS 1 vt a2), (9, vi v8), (8, vi v14)] []) ?_ ?_
    · rintro v14 h
      refine TriE.regJ ?_
      refine rn 1 [(0, eS 6 eTask a0), (1, eS 3 eStocked a1), (2, eS 1 vt a2), (8, vi v14), (17, vi v8)] [] ?_
      obtain ⟨c13, h⟩ := chk_some h
      refine jv (vi ((v8 + 1 : Nat) : Int)) (cy (I0 18 (.bin .add false (.t 17) (.c (.p (.int .i64 1)))))) (r_addn (i := v8) (j := 1) rfl rfl c13) rfl ?_
      refine jq 1 [(0, eS 6 eTask a0), (1, eS 3 eStocked a1), (2, eS 1 vt a2), (8, vi v14), (9, vi ((v8 + 1 : Nat) : Int))] [] ?_
      exact Vs.intro sy ⟨(v14, v8 + 1), rfl, h⟩
    intro k1 h
    refine TriE.block ?_
    refine sj ?_
    refine rn 4 [(0, eS 6 eTask a0), (1, eS 3 eStocked a1), (2, eS 1 vt a2), (8, vi v7), (9, vi v8), (19, eS 6 eTask a0), (20, eS 6 eTask a0), (21, eS 1 vt a2), (22, vi v8)] [] ?_
    refine jv (.fptr 1 (List.map vt a2) v8 0) (cy (I0 23 (.iaddr 1 (.t 21) (.t 22)))) (ok_iaddr_m (j := v8) rfl rfl rfl c1) rfl ?_
    refine jv (vt (ix a2 v8)) (cy (I0 24 (.load false 1 (.t 23)))) (ok_load_fm (v := vt (ix a2 v8)) rfl c1 rfl) rfl ?_
    obtain ⟨y9, hy9, h⟩ := bind_some h
    refine RegJ.op (Op1.call (y' := vi y9) (obx := []) (oby := []) (ob2 := []) _ _ (cy (I0 25 (.call 73 [(.t 20), (.t 24)]))) rfl (agrafferef08_Find_ok n a0 (ix a2 v8) y9 hy9) [] (by kernel_rfl) (.cons rfl (.cons rfl (.cons rfl .nil))) (by kernel_rfl) (by kernel_rfl) ObsRen.nil (by kernel_rfl) ObsRen.nil (by kernel_rfl)) ?_
    obtain ⟨c2, h⟩ := chk_some h
    refine jv (.fptr 6 (List.map eTask a0) y9.toNat 0) (cy (I0 26 (.iaddr 6 (.t 19) (.t 25)))) (ok_iaddr_m (j := y9.toNat) rfl rfl (inB_to c2) (inB_lt c2)) rfl ?_
    obtain ⟨c3, h⟩ := chk_some h
    refine jv (.agg [vt ((ix a0 y9.toNat).Name), vi ((ix a0 y9.toNat).Cents), vi ((ix a0 y9.toNat).Hours), eS 1 vt ((ix a0 y9.toNat).Needs), eS 1 (eS 1 vt) ((ix a0 y9.toNat).OneOf), eS 2 ePartCount ((ix a0 y9.toNat).Parts)]) (cy (I0 27 (.load true 6 (.t 26)))) (ok_load_fm (v := .agg [vt ((ix a0 y9.toNat).Name), vi ((ix a0 y9.toNat).Cents), vi ((ix a0 y9.toNat).Hours), eS 1 vt ((ix a0 y9.toNat).Needs), eS 1 (eS 1 vt) ((ix a0 y9.toNat).OneOf), eS 2 ePartCount ((ix a0 y9.toNat).Parts)]) rfl c3 rfl) rfl ?_
    refine jq 2 [(0, eS 6 eTask a0), (1, eS 3 eStocked a1), (2, eS 1 vt a2), (8, vi v7), (9, vi v8), (10, .ptr 0 0 0)] [some (.row 6 [.agg [vt ((ix a0 y9.toNat).Name), vi ((ix a0 y9.toNat).Cents), vi ((ix a0 y9.toNat).Hours), eS 1 vt ((ix a0 y9.toNat).Needs), eS 1 (eS 1 vt) ((ix a0 y9.toNat).OneOf), eS 2 ePartCount ((ix a0 y9.toNat).Parts)]])] ?_
    refine sj ?_
    refine rn 3 [(0, eS 6 eTask a0), (1, eS 3 eStocked a1), (2, eS 1 vt a2), (9, vi v8), (10, .ptr 0 0 0), (28, vi v7), (30, vi ((ix a0 y9.toNat).Cents))] [some (.row 6 [.agg [vt ((ix a0 y9.toNat).Name), vi ((ix a0 y9.toNat).Cents), vi ((ix a0 y9.toNat).Hours), eS 1 vt ((ix a0 y9.toNat).Needs), eS 1 (eS 1 vt) ((ix a0 y9.toNat).OneOf), eS 2 ePartCount ((ix a0 y9.toNat).Parts)]])] ?_
    obtain ⟨c4, h⟩ := chk_some h
    refine jv (vi (v7 + ((ix a0 y9.toNat).Cents))) (cy (I0 31 (.bin .add false (.t 28) (.t 30)))) (r_add rfl rfl c4) rfl ?_
    refine jq 1 [(0, eS 6 eTask a0), (1, eS 3 eStocked a1), (2, eS 1 vt a2), (9, vi v8), (10, .ptr 0 0 0), (8, vi (v7 + ((ix a0 y9.toNat).Cents)))] [some (.row 6 [.agg [vt ((ix a0 y9.toNat).Name), vi ((ix a0 y9.toNat).Cents), vi ((ix a0 y9.toNat).Hours), eS 1 vt ((ix a0 y9.toNat).Needs), eS 1 (eS 1 vt) ((ix a0 y9.toNat).OneOf), eS 2 ePartCount ((ix a0 y9.toNat).Parts)]])] ?_
    refine sr [(0, eS 6 eTask a0), (1, eS 3 eStocked a1), (2, eS 1 vt a2), (9, vi v8), (10, .ptr 0 0 0), (8, vi (v7 + ((ix a0 y9.toNat).Cents))), (11, vi 0)] [some (.row 6 [.agg [vt ((ix a0 y9.toNat).Name), vi ((ix a0 y9.toNat).Cents), vi ((ix a0 y9.toNat).Hours), eS 1 vt ((ix a0 y9.toNat).Needs), eS 1 (eS 1 vt) ((ix a0 y9.toNat).OneOf), eS 2 ePartCount ((ix a0 y9.toNat).Parts)]])] ?_
    refine TriE.block ?_
    refine TriE.sees (S' := ⟨[(0, eS 6 eTask a0), (1, eS 3 eStocked a1), (2, eS 1 vt a2), (9, vi v8), (10, .ptr 0 0 0), (8, vi (v7 + ((ix a0 y9.toNat).Cents))), (11, vi 0)], [some (.row 6 [.agg [vt ((ix a0 y9.toNat).Name), vi ((ix a0 y9.toNat).Cents), vi ((ix a0 y9.toNat).Hours), eS 1 vt ((ix a0 y9.toNat).Needs), eS 1 (eS 1 vt) ((ix a0 y9.toNat).OneOf), eS 2 ePartCount ((ix a0 y9.toNat).Parts)]])]⟩) sy ?_
    refine TriE.loopN h (fun (t : Int × Nat) => match t with | (v11, v12) => St.mk [(0, eS 6 eTask a0), (1, eS 3 eStocked a1), (2, eS 1 vt a2), (9, vi v8), (10, .ptr 0 0 0), (8, vi v11), (11, vi v12)] [some (.row 6 [.agg [vt ((ix a0 y9.toNat).Name), vi ((ix a0 y9.toNat).Cents), vi ((ix a0 y9.toNat).Hours), eS 1 vt ((ix a0 y9.toNat).Needs), eS 1 (eS 1 vt) ((ix a0 y9.toNat).OneOf), eS 2 ePartCount ((ix a0 y9.toNat).Parts)]])]) rfl ?_
    clear h
    rintro back ⟨v11, v12⟩ h
    dsimp only [agrafferef08_Cost_L1] at h
    refine TriE.seq ?_
    refine sj ?_
    refine rn 3 [(0, eS 6 eTask a0), (1, eS 3 eStocked a1), (2, eS 1 vt a2), (9, vi v8), (10, .ptr 0 0 0), (8, vi v11), (11, vi v12), (32, vi v12), (34, eS 2 ePartCount ((ix a0 y9.toNat).Parts))] [some (.row 6 [.agg [vt ((ix a0 y9.toNat).Name), vi ((ix a0 y9.toNat).Cents), vi ((ix a0 y9.toNat).Hours), eS 1 vt ((ix a0 y9.toNat).Needs), eS 1 (eS 1 vt) ((ix a0 y9.toNat).OneOf), eS 2 ePartCount ((ix a0 y9.toNat).Parts)]])] ?_
    refine jv (vi ((((ix a0 y9.toNat).Parts).length : Nat) : Int)) (cy (I0 35 (.len 0 (.t 34)))) (ok_len_m rfl) rfl ?_
    refine jv (vb (decide (v12 < (((ix a0 y9.toNat).Parts).length)))) (cy (I0 36 (.bin .lss false (.t 32) (.t 35)))) (n_lss (i := v12) (j := ((ix a0 y9.toNat).Parts).length) rfl rfl) rfl ?_
    refine jp [(0, eS 6 eTask a0), (1, eS 3 eStocked a1), (2, eS 1 vt a2), (9, vi v8), (10, .ptr 0 0 0), (8, vi v11), (11, vi v12), (36, vb (decide (v12 < (((ix a0 y9.toNat).Parts).length))))] ?_
    refine TriE.cond (b := decide (v12 < (((ix a0 y9.toNat).Parts).length))) rfl (fun c5 => ?_) (fun c5 => ?_)
    · have h := cond_t h c5
      refine TriE.skip ?_
      refine TriE.seq ?_
      refine TriE.block ?_
      refine sj ?_
      refine rn 4 [(0, eS 6 eTask a0), (1, eS 3 eStocked a1), (2, eS 1 vt a2), (9, vi v8), (10, .ptr 0 0 0), (8, vi v11), (11, vi v12), (39, eS 3 eStocked a1), (41, eS 2 ePartCount ((ix a0 y9.toNat).Parts)), (42, vi v12)] [some (.row 6 [.agg [vt ((ix a0 y9.toNat).Name), vi ((ix a0 y9.toNat).Cents), vi ((ix a0 y9.toNat).Hours), eS 1 vt ((ix a0 y9.toNat).Needs), eS 1 (eS 1 vt) ((ix a0 y9.toNat).OneOf), eS 2 ePartCount ((ix a0 y9.toNat).Parts)]])] ?_
      obtain ⟨c6, h⟩ := chk_some h
      refine jv (.fptr 2 (List.map ePartCount ((ix a0 y9.toNat).Parts)) v12 0) (cy (I0 43 (.iaddr 2 (.t 41) (.t 42)))) (ok_iaddr_m (j := v12) rfl rfl rfl c6) rfl ?_
      refine rn 1 [(0, eS 6 eTask a0), (1, eS 3 eStocked a1), (2, eS 1 vt a2), (9, vi v8), (10, .ptr 0 0 0), (8, vi v11), (11, vi v12), (39, eS 3 eStocked a1), (44, .fptr 2 (List.map ePartCount ((ix a0 y9.toNat).Parts)) v12 0)] [some (.row 6 [.agg [vt ((ix a0 y9.toNat).Name), vi ((ix a0 y9.toNat).Cents), vi ((ix a0 y9.toNat).Hours), eS 1 vt ((ix a0 y9.toNat).Needs), eS 1 (eS 1 vt) ((ix a0 y9.toNat).OneOf), eS 2 ePartCount ((ix a0 y9.toNat).Parts)]])] ?_
      refine jv (vt ((ix ((ix a0 y9.toNat).Parts) v12).Part)) (cy (I0 45 (.load false 1 (.t 44)))) (ok_load_fm (v := vt ((ix ((ix a0 y9.toNat).Parts) v12).Part)) rfl c6 rfl) rfl ?_
      obtain ⟨y13, hy13, h⟩ := bind_some h
      refine RegJ.op (Op1.call (y' := vi y13) (obx := []) (oby := []) (ob2 := [some (.row 6 [.agg [vt ((ix a0 y9.toNat).Name), vi ((ix a0 y9.toNat).Cents), vi ((ix a0 y9.toNat).Hours), eS 1 vt ((ix a0 y9.toNat).Needs), eS 1 (eS 1 vt) ((ix a0 y9.toNat).OneOf), eS 2 ePartCount ((ix a0 y9.toNat).Parts)]])]) _ _ (cy (I0 46 (.call 74 [(.t 39), (.t 45)]))) rfl (agrafferef08_FindStock_ok n a1 ((ix ((ix a0 y9.toNat).Parts) v12).Part) y13 hy13) [] (by kernel_rfl) (.cons rfl (.cons rfl (.cons rfl .nil))) (by kernel_rfl) (by kernel_rfl) ObsRen.nil (by kernel_rfl) ObsRen.nil (by kernel_rfl)) ?_
      refine jq 1 [(0, eS 6 eTask a0), (1, eS 3 eStocked a1), (2, eS 1 vt a2), (9, vi v8), (10, .ptr 0 0 0), (8, vi v11), (11, vi v12), (12, vi y13)] [some (.row 6 [.agg [vt ((ix a0 y9.toNat).Name), vi ((ix a0 y9.toNat).Cents), vi ((ix a0 y9.toNat).Hours), eS 1 vt ((ix a0 y9.toNat).Needs), eS 1 (eS 1 vt) ((ix a0 y9.toNat).OneOf), eS 2 ePartCount ((ix a0 y9.toNat).Parts)]])] ?_
      refine TriE.seq ?_
      refine sr [(0, eS 6 eTask a0), (1, eS 3 eStocked a1), (2, eS 1 vt a2), (9, vi v8), (10, .ptr 0 0 0), (8, vi v11), (11, vi v12), (12, vi y13), (48, vb (decide (y13 < (0 : Int))))] [some (.row 6 [.agg [vt ((ix a0 y9.toNat).Name), vi ((ix a0 y9.toNat).Cents), vi ((ix a0 y9.toNat).Hours), eS 1 vt ((ix a0 y9.toNat).Needs), eS 1 (eS 1 vt) ((ix a0 y9.toNat).OneOf), eS 2 ePartCount ((ix a0 y9.toNat).Parts)]])] ?_
      refine TriE.cond (b := decide (y13 < (0 : Int))) rfl (fun c7 => ?_) (fun c7 => ?_)
      · have h := cond_t h c7
        refine sr [(6, vi 0), (7, vb false)] [some (.row 6 [.agg [vt ((ix a0 y9.toNat).Name), vi ((ix a0 y9.toNat).Cents), vi ((ix a0 y9.toNat).Hours), eS 1 vt ((ix a0 y9.toNat).Needs), eS 1 (eS 1 vt) ((ix a0 y9.toNat).OneOf), eS 2 ePartCount ((ix a0 y9.toNat).Parts)]])] ?_
        refine TriE.ret ?_
        have h := Option.some.inj h
        subst h
        exact DoneS.ret (S' := ⟨[(6, vi 0), (7, vb false)], []⟩) (sc [] (by decide) (by kernel_rfl) ObRen.nil rfl rfl) rfl rfl
      have h := cond_f h c7
      refine TriE.skip ?_
      refine TriE.sees (Sees.less (fr' := [(0, eS 6 eTask a0), (1, eS 3 eStocked a1), (2, eS 1 vt a2), (9, vi v8), (10, .ptr 0 0 0), (8, vi v11), (11, vi v12), (12, vi y13)]) (.cons rfl (.cons rfl (.cons rfl (.cons rfl (.cons rfl (.cons rfl (.cons rfl (.cons rfl .nil))))))))) ?_
      refine TriE.draw (by kernel_rfl) ?_
      refine RegD.run 4 [(52, vi v12), (51, eS 2 ePartCount ((ix a0 y9.toNat).Parts)), (50, .ptr 0 0 5), (49, vi v11), (0, eS 6 eTask a0), (1, eS 3 eStocked a1), (2, eS 1 vt a2), (9, vi v8), (10, .ptr 0 0 0), (8, vi v11), (11, vi v12), (12, vi y13)] [some (.row 6 [.agg [vt ((ix a0 y9.toNat).Name), vi ((ix a0 y9.toNat).Cents), vi ((ix a0 y9.toNat).Hours), eS 1 vt ((ix a0 y9.toNat).Needs), eS 1 (eS 1 vt) ((ix a0 y9.toNat).OneOf), eS 2 ePartCount ((ix a0 y9.toNat).Parts)]]), none, none, none, none] (by kernel_rfl) ?_
      refine dv (.fptr 2 (List.map ePartCount ((ix a0 y9.toNat).Parts)) v12 0) (cy (I0 53 (.iaddr 2 (.t 51) (.t 52)))) (ok_iaddr_m (j := v12) rfl rfl rfl c6) rfl ?_
      refine RegD.run 1 [(54, .fptr 2 (List.map ePartCount ((ix a0 y9.toNat).Parts)) v12 1), (53, .fptr 2 (List.map ePartCount ((ix a0 y9.toNat).Parts)) v12 0), (52, vi v12), (51, eS 2 ePartCount ((ix a0 y9.toNat).Parts)), (50, .ptr 0 0 5), (49, vi v11), (0, eS 6 eTask a0), (1, eS 3 eStocked a1), (2, eS 1 vt a2), (9, vi v8), (10, .ptr 0 0 0), (8, vi v11), (11, vi v12), (12, vi y13)] [some (.row 6 [.agg [vt ((ix a0 y9.toNat).Name), vi ((ix a0 y9.toNat).Cents), vi ((ix a0 y9.toNat).Hours), eS 1 vt ((ix a0 y9.toNat).Needs), eS 1 (eS 1 vt) ((ix a0 y9.toNat).OneOf), eS 2 ePartCount ((ix a0 y9.toNat).Parts)]]), none, none, none, none, none, none] (by kernel_rfl) ?_
      refine dv (vi ((ix ((ix a0 y9.toNat).Parts) v12).Count)) (cy (I0 55 (.load false 1 (.t 54)))) (ok_load_fm (v := vi ((ix ((ix a0 y9.toNat).Parts) v12).Count)) rfl c6 rfl) rfl ?_
      refine RegD.run 2 [(57, vi y13), (56, eS 3 eStocked a1), (55, vi ((ix ((ix a0 y9.toNat).Parts) v12).Count)), (54, .fptr 2 (List.map ePartCount ((ix a0 y9.toNat).Parts)) v12 1), (53, .fptr 2 (List.map ePartCount ((ix a0 y9.toNat).Parts)) v12 0), (52, vi v12), (51, eS 2 ePartCount ((ix a0 y9.toNat).Parts)), (50, .ptr 0 0 5), (49, vi v11), (0, eS 6 eTask a0), (1, eS 3 eStocked a1), (2, eS 1 vt a2), (9, vi v8), (10, .ptr 0 0 0), (8, vi v11), (11, vi v12), (12, vi y13)] [some (.row 6 [.agg [vt ((ix a0 y9.toNat).Name), vi ((ix a0 y9.toNat).Cents), vi ((ix a0 y9.toNat).Hours), eS 1 vt ((ix a0 y9.toNat).Needs), eS 1 (eS 1 vt) ((ix a0 y9.toNat).OneOf), eS 2 ePartCount ((ix a0 y9.toNat).Parts)]]), none, none, none, none, none, none, none, none, none] (by kernel_rfl) ?_
      obtain ⟨c8, h⟩ := chk_some h
      refine dv (.fptr 3 (List.map eStocked a1) y13.toNat 0) (cy (I0 58 (.iaddr 3 (.t 56) (.t 57)))) (ok_iaddr_m (j := y13.toNat) rfl rfl (inB_to c8) (inB_lt c8)) rfl ?_
      refine RegD.run 1 [(59, .fptr 3 (List.map eStocked a1) y13.toNat 1), (58, .fptr 3 (List.map eStocked a1) y13.toNat 0), (57, vi y13), (56, eS 3 eStocked a1), (55, vi ((ix ((ix a0 y9.toNat).Parts) v12).Count)), (54, .fptr 2 (List.map ePartCount ((ix a0 y9.toNat).Parts)) v12 1), (53, .fptr 2 (List.map ePartCount ((ix a0 y9.toNat).Parts)) v12 0), (52, vi v12), (51, eS 2 ePartCount ((ix a0 y9.toNat).Parts)), (50, .ptr 0 0 5), (49, vi v11), (0, eS 6 eTask a0), (1, eS 3 eStocked a1), (2, eS 1 vt a2), (9, vi v8), (10, .ptr 0 0 0), (8, vi v11), (11, vi v12), (12, vi y13)] [some (.row 6 [.agg [vt ((ix a0 y9.toNat).Name), vi ((ix a0 y9.toNat).Cents), vi ((ix a0 y9.toNat).Hours), eS 1 vt ((ix a0 y9.toNat).Needs), eS 1 (eS 1 vt) ((ix a0 y9.toNat).OneOf), eS 2 ePartCount ((ix a0 y9.toNat).Parts)]]), none, none, none, none, none, none, none, none, none, none, none] (by kernel_rfl) ?_
      obtain ⟨c9, h⟩ := chk_some h
      refine dv (vi ((ix a1 y13.toNat).Cents)) (cy (I0 60 (.load false 1 (.t 59)))) (ok_load_fm (v := vi ((ix a1 y13.toNat).Cents)) rfl c9 rfl) rfl ?_
      obtain ⟨c10, h⟩ := chk_some h
      refine dv (vi (((ix ((ix a0 y9.toNat).Parts) v12).Count) * ((ix a1 y13.toNat).Cents))) (cy (I0 61 (.bin .mul false (.t 55) (.t 60)))) (r_mul rfl rfl c10) rfl ?_
      obtain ⟨c11, h⟩ := chk_some h
      refine dv (vi (v11 + (((ix ((ix a0 y9.toNat).Parts) v12).Count) * ((ix a1 y13.toNat).Cents)))) (cy (I0 62 (.bin .add false (.t 49) (.t 61)))) (r_add rfl rfl c11) rfl ?_
      refine RegD.run 1 [(8, vi (v11 + (((ix ((ix a0 y9.toNat).Parts) v12).Count) * ((ix a1 y13.toNat).Cents)))), (62, vi (v11 + (((ix ((ix a0 y9.toNat).Parts) v12).Count) * ((ix a1 y13.toNat).Cents)))), (61, vi (((ix ((ix a0 y9.toNat).Parts) v12).Count) * ((ix a1 y13.toNat).Cents))), (60, vi ((ix a1 y13.toNat).Cents)), (59, .fptr 3 (List.map eStocked a1) y13.toNat 1), (58, .fptr 3 (List.map eStocked a1) y13.toNat 0), (57, vi y13), (56, eS 3 eStocked a1), (55, vi ((ix ((ix a0 y9.toNat).Parts) v12).Count)), (54, .fptr 2 (List.map ePartCount ((ix a0 y9.toNat).Parts)) v12 1), (53, .fptr 2 (List.map ePartCount ((ix a0 y9.toNat).Parts)) v12 0), (52, vi v12), (51, eS 2 ePartCount ((ix a0 y9.toNat).Parts)), (50, .ptr 0 0 5), (49, vi v11), (0, eS 6 eTask a0), (1, eS 3 eStocked a1), (2, eS 1 vt a2), (9, vi v8), (10, .ptr 0 0 0), (8, vi v11), (11, vi v12), (12, vi y13)] [some (.row 6 [.agg [vt ((ix a0 y9.toNat).Name), vi ((ix a0 y9.toNat).Cents), vi ((ix a0 y9.toNat).Hours), eS 1 vt ((ix a0 y9.toNat).Needs), eS 1 (eS 1 vt) ((ix a0 y9.toNat).OneOf), eS 2 ePartCount ((ix a0 y9.toNat).Parts)]]), none, none, none, none, none, none, none, none, none, none, none, none, none, none, none] (by kernel_rfl) ?_
      refine RegD.done rfl (by kernel_rfl) (S' := ⟨[(0, eS 6 eTask a0), (1, eS 3 eStocked a1), (2, eS 1 vt a2), (9, vi v8), (10, .ptr 0 0 0), (11, vi v12), (8, vi (v11 + (((ix ((ix a0 y9.toNat).Parts) v12).Count) * ((ix a1 y13.toNat).Cents))))], [some (.row 6 [.agg [vt ((ix a0 y9.toNat).Name), vi ((ix a0 y9.toNat).Cents), vi ((ix a0 y9.toNat).Hours), eS 1 vt ((ix a0 y9.toNat).Needs), eS 1 (eS 1 vt) ((ix a0 y9.toNat).OneOf), eS 2 ePartCount ((ix a0 y9.toNat).Parts)]])]⟩) (sc [0] (by decide) (by kernel_rfl) (.cons rfl .nil) rfl rfl) ?_
      refine TriE.regJ ?_
      refine rn 1 [(0, eS 6 eTask a0), (1, eS 3 eStocked a1), (2, eS 1 vt a2), (9, vi v8), (10, .ptr 0 0 0), (8, vi (v11 + (((ix ((ix a0 y9.toNat).Parts) v12).Count) * ((ix a1 y13.toNat).Cents)))), (37, vi v12)] [some (.row 6 [.agg [vt ((ix a0 y9.toNat).Name), vi ((ix a0 y9.toNat).Cents), vi ((ix a0 y9.toNat).Hours), eS 1 vt ((ix a0 y9.toNat).Needs), eS 1 (eS 1 vt) ((ix a0 y9.toNat).OneOf), eS 2 ePartCount ((ix a0 y9.toNat).Parts)]])] ?_
      obtain ⟨c12, h⟩ := chk_some h
      refine jv (vi ((v12 + 1 : Nat) : Int)) (cy (I0 38 (.bin .add false (.t 37) (.c (.p (.int .i64 1)))))) (r_addn (i := v12) (j := 1) rfl rfl c12) rfl ?_
      refine jq 1 [(0, eS 6 eTask a0), (1, eS 3 eStocked a1), (2, eS 1 vt a2), (9, vi v8), (10, .ptr 0 0 0), (8, vi (v11 + (((ix ((ix a0 y9.toNat).Parts) v12).Count) * ((ix a1 y13.toNat).Cents)))), (11, vi ((v12 + 1 : Nat) : Int))] [some (.row 6 [.agg [vt ((ix a0 y9.toNat).Name), vi ((ix a0 y9.toNat).Cents), vi ((ix a0 y9.toNat).Hours), eS 1 vt ((ix a0 y9.toNat).Needs), eS 1 (eS 1 vt) ((ix a0 y9.toNat).OneOf), eS 2 ePartCount ((ix a0 y9.toNat).Parts)]])] ?_
      exact Vs.intro sy ⟨(v11 + (((ix ((ix a0 y9.toNat).Parts) v12).Count) * ((ix a1 y13.toNat).Cents)), v12 + 1), rfl, h⟩
    have h := cond_f h c5
    refine TriE.exit ?_
    exact Vs.intro (sc [] (by decide) (by kernel_rfl) ObRen.nil rfl rfl) ⟨v11, rfl, h⟩
  have h := cond_f h c1
  refine TriE.exit ?_
  exact Vs.intro sy ⟨v7, rfl, h⟩
theorem cmp_Compare_string_ok (n : Nat) (a0 : Str) (a1 : Str) (r : Int) (h : cmp_Compare_string n a0 a1 = some r) : FnL Tryz.prog 145 [vt a0, vt a1] [] (vi r) [] := by
  dsimp only [cmp_Compare_string] at h
  refine FnL.ofS (ts := [4]) Tryz.call145 Tryz.func145 rfl rfl (Nat.le_of_ble_eq_true rfl) (Nat.le_of_ble_eq_true rfl) (fun j h => absurd h (Nat.not_lt_zero j)) ?_
  refine sr [(0, vt a0), (1, vt a1)] [] ?_
  refine sj ?_
  refine rn 1 [(0, vt a0), (1, vt a1), (7, vt a0)] [] ?_
  obtain ⟨y1, hy1, h⟩ := bind_some h
  refine RegJ.op (Op1.call (y' := vb (!(a0 == a0))) (obx := []) (oby := []) (ob2 := []) _ _ (cy (I0 8 (.call 186 [(.t 7)]))) rfl (cmp_isNaN_string_ok n a0 y1 hy1) [] (by kernel_rfl) (.cons rfl (.cons rfl .nil)) (by kernel_rfl) (by kernel_rfl) ObsRen.nil (by kernel_rfl) ObsRen.nil (by kernel_rfl)) ?_
  refine jq 1 [(0, vt a0), (1, vt a1), (5, vb (!(a0 == a0)))] [] ?_
  refine sj ?_
  refine rn 1 [(0, vt a0), (1, vt a1), (5, vb (!(a0 == a0))), (9, vt a1)] [] ?_
  obtain ⟨y2, hy2, h⟩ := bind_some h
  refine RegJ.op (Op1.call (y' := vb (!(a1 == a1))) (obx := []) (oby := []) (ob2 := []) _ _ (cy (I0 10 (.call 186 [(.t 9)]))) rfl (cmp_isNaN_string_ok n a1 y2 hy2) [] (by kernel_rfl) (.cons rfl (.cons rfl .nil)) (by kernel_rfl) (by kernel_rfl) ObsRen.nil (by kernel_rfl) ObsRen.nil (by kernel_rfl)) ?_
  refine jq 1 [(0, vt a0), (1, vt a1), (5, vb (!(a0 == a0))), (6, vb (!(a1 == a1)))] [] ?_
  refine TriE.seq ?_
  refine sr [(0, vt a0), (1, vt a1), (6, vb (!(a1 == a1))), (11, vb (!(a0 == a0)))] [] ?_
  refine TriE.cond (b := !(a0 == a0)) rfl (fun c1 => ?_) (fun c1 => ?_)
  · have h := cond_t h c1
    refine TriE.seq ?_
    refine sr [(12, vb (!(a1 == a1)))] [] ?_
    refine TriE.cond (b := !(a1 == a1)) rfl (fun c2 => ?_) (fun c2 => ?_)
    · have h := cond_t h c2
      refine sr [(4, vi 0)] [] ?_
      refine TriE.ret ?_
      have h := Option.some.inj h
      subst h
      exact DoneS.ret (S' := ⟨[(4, vi 0)], []⟩) Sees.refl rfl rfl
    have h := cond_f h c2
    refine TriE.skip ?_
    refine sr [(4, vi (-1))] [] ?_
    refine TriE.ret ?_
    have h := Option.some.inj h
    subst h
    exact DoneS.ret (S' := ⟨[(4, vi (-1))], []⟩) Sees.refl rfl rfl
  have h := cond_f h c1
  refine TriE.skip ?_
  refine TriE.seq ?_
  refine sr [(0, vt a0), (1, vt a1), (13, vb (!(a1 == a1)))] [] ?_
  refine TriE.cond (b := !(a1 == a1)) rfl (fun c3 => ?_) (fun c3 => ?_)
  · have h := cond_t h c3
    refine sr [(4, vi 1)] [] ?_
    refine TriE.ret ?_
    have h := Option.some.inj h
    subst h
    exact DoneS.ret (S' := ⟨[(4, vi 1)], []⟩) Sees.refl rfl rfl
  have h := cond_f h c3
  refine TriE.skip ?_
  refine TriE.seq ?_
  refine sr [(0, vt a0), (1, vt a1), (16, vb (bLt a0 a1))] [] ?_
  refine TriE.cond (b := bLt a0 a1) rfl (fun c4 => ?_) (fun c4 => ?_)
  · have h := cond_t h c4
    refine sr [(4, vi (-1))] [] ?_
    refine TriE.ret ?_
    have h := Option.some.inj h
    subst h
    exact DoneS.ret (S' := ⟨[(4, vi (-1))], []⟩) Sees.refl rfl rfl
  have h := cond_f h c4
  refine TriE.skip ?_
  refine TriE.seq ?_
  refine sr [(19, vb (!(bLt a0 a1 || (a0 == a1))))] [] ?_
  refine TriE.cond (b := !(bLt a0 a1 || (a0 == a1))) rfl (fun c5 => ?_) (fun c5 => ?_)
  · have h := cond_t h c5
    refine sr [(4, vi 1)] [] ?_
    refine TriE.ret ?_
    have h := Option.some.inj h
    subst h
    exact DoneS.ret (S' := ⟨[(4, vi 1)], []⟩) Sees.refl rfl rfl
  have h := cond_f h c5
  refine TriE.skip ?_
  refine sr [(4, vi 0)] [] ?_
  refine TriE.ret ?_
  have h := Option.some.inj h
  subst h
  exact DoneS.ret (S' := ⟨[(4, vi 0)], []⟩) Sees.refl rfl rfl
theorem restore_PartsOf_f1_ok (n : Nat) (a0 : PartCount) (a1 : PartCount) (r : Int) (h : restore_PartsOf_f1 n a0 a1 = some r) : FnL Tryz.prog 144 [.agg [vt a0.Part, vi a0.Count], .agg [vt a1.Part, vi a1.Count]] [] (vi r) [] := by
  dsimp only [restore_PartsOf_f1] at h
  refine FnL.ofS (ts := [4]) Tryz.call144 Tryz.func144 rfl rfl (Nat.le_of_ble_eq_true rfl) (Nat.le_of_ble_eq_true rfl) (fun j h => absurd h (Nat.not_lt_zero j)) ?_
  refine sr [(2, .ptr 0 0 0), (3, .ptr 1 0 0)] [some (.row 2 [.agg [vt a0.Part, vi a0.Count]]), some (.row 2 [.agg [vt a1.Part, vi a1.Count]])] ?_
  refine sj ?_
  refine rn 4 [(6, vt a0.Part), (8, vt a1.Part)] [some (.row 2 [.agg [vt a0.Part, vi a0.Count]]), some (.row 2 [.agg [vt a1.Part, vi a1.Count]])] ?_
  obtain ⟨y1, hy1, h⟩ := bind_some h
  refine RegJ.op (Op1.call (y' := vi y1) (obx := []) (oby := []) (ob2 := [some (.row 2 [.agg [vt a0.Part, vi a0.Count]]), some (.row 2 [.agg [vt a1.Part, vi a1.Count]])]) _ _ (cy (I0 9 (.call 145 [(.t 6), (.t 8)]))) rfl (cmp_Compare_string_ok n a0.Part a1.Part y1 hy1) [] (by kernel_rfl) (.cons rfl (.cons rfl (.cons rfl .nil))) (by kernel_rfl) (by kernel_rfl) ObsRen.nil (by kernel_rfl) ObsRen.nil (by kernel_rfl)) ?_
  refine jq 1 [(4, vi y1)] [some (.row 2 [.agg [vt a0.Part, vi a0.Count]]), some (.row 2 [.agg [vt a1.Part, vi a1.Count]])] ?_
  refine TriE.ret ?_
  have h := Option.some.inj h
  subst h
  exact DoneS.ret (S' := ⟨[(4, vi y1)], []⟩) (sc [] (by decide) (by kernel_rfl) ObRen.nil rfl rfl) rfl rfl
theorem slices_insertionSortCmpFunc_PartCount_ok (n : Nat) (a0 : List PartCount) (a1 : Int) (a2 : Int) (r : (List PartCount)) (h : slices_insertionSortCmpFunc_PartCount n a0 a1 a2 = some r) : FnL Tryz.prog 208 [.own 0 0 a0.length, vi a1, vi a2, .fn (.func 144) [] []] [some (.row 2 (List.map ePartCount a0))] (.tup []) [some (.row 2 (List.map ePartCount r))] := by
  dsimp only [slices_insertionSortCmpFunc_PartCount] at h
  refine FnL.ofS (ts := []) Tryz.call208 Tryz.func208 rfl rfl (Nat.le_of_ble_eq_true rfl) (Nat.le_of_ble_eq_true rfl) (hall_of (.cons rfl .nil)) ?_
  refine sj ?_
  refine rn 1 [(0, .own 0 0 a0.length), (1, vi a1), (2, vi a2), (3, .fn (.func 144) [] []), (10, vi a1)] [some (.row 2 (List.map ePartCount a0))] ?_
  obtain ⟨c1, h⟩ := chk_some h
  refine jv (vi (a1 + 1)) (cy (I0 11 (.bin .add false (.t 10) (.c (.p (.int .i64 1)))))) (r_add rfl rfl c1) rfl ?_
  refine jq 1 [(0, .own 0 0 a0.length), (1, vi a1), (2, vi a2), (3, .fn (.func 144) [] []), (8, vi (a1 + 1))] [some (.row 2 (List.map ePartCount a0))] ?_
  refine TriE.block ?_
  refine TriE.loopN h (fun (t : Int × (List PartCount)) => match t with | (v6, v7) => St.mk [(0, .own 0 0 v7.length), (1, vi a1), (2, vi a2), (3, .fn (.func 144) [] []), (8, vi v6)] [some (.row 2 (List.map ePartCount v7))]) rfl ?_
  clear h
  rintro back ⟨v6, v7⟩ h
  dsimp only [slices_insertionSortCmpFunc_PartCount_L2] at h
  refine TriE.seq ?_
  refine sr [(0, .own 0 0 v7.length), (1, vi a1), (2, vi a2), (3, .fn (.func 144) [] []), (8, vi v6), (14, vb (decide (v6 < a2)))] [some (.row 2 (List.map ePartCount v7))] ?_
  refine TriE.cond (b := decide (v6 < a2)) rfl (fun c2 => ?_) (fun c2 => ?_)
  · have h := cond_t h c2
    refine TriE.skip ?_
    refine TriE.seqK h (fun (v12 : (List PartCount)) => St.mk [(0, .own 0 0 v12.length), (1, vi a1), (2, vi a2), (3, .fn (.func 144) [] []), (8, vi v6)] [some (.row 2 (List.map ePartCount v12))]) ?_ ?_
    · rintro v12 h
      refine TriE.regJ ?_
      refine rn 1 [(0, .own 0 0 v12.length), (1, vi a1), (2, vi a2), (3, .fn (.func 144) [] []), (15, vi v6)] [some (.row 2 (List.map ePartCount v12))] ?_
      obtain ⟨c15, h⟩ := chk_some h
      refine jv (vi (v6 + 1)) (cy (I0 16 (.bin .add false (.t 15) (.c (.p (.int .i64 1)))))) (r_add rfl rfl c15) rfl ?_
      refine jq 1 [(0, .own 0 0 v12.length), (1, vi a1), (2, vi a2), (3, .fn (.func 144) [] []), (8, vi (v6 + 1))] [some (.row 2 (List.map ePartCount v12))] ?_
      exact Vs.intro Sees.refl ⟨(v6 + 1, v12), rfl, h⟩
    intro k1 h
    refine TriE.block ?_
    refine sr [(0, .own 0 0 v7.length), (1, vi a1), (2, vi a2), (3, .fn (.func 144) [] []), (8, vi v6), (9, vi v6)] [some (.row 2 (List.map ePartCount v7))] ?_
    refine TriE.block ?_
    refine TriE.loopN h (fun (t : Int × (List PartCount)) => match t with | (v9, v10) => St.mk [(0, .own 0 0 v10.length), (1, vi a1), (2, vi a2), (3, .fn (.func 144) [] []), (8, vi v6), (9, vi v9)] [some (.row 2 (List.map ePartCount v10))]) rfl ?_
    clear h
    rintro back ⟨v9, v10⟩ h
    dsimp only [slices_insertionSortCmpFunc_PartCount_L1] at h
    refine TriE.seq ?_
    refine TriE.seq ?_
    refine TriE.sees (Sees.less (fr' := [(0, .own 0 0 v10.length), (1, vi a1), (2, vi a2), (3, .fn (.func 144) [] []), (8, vi v6), (9, vi v9)]) (.cons rfl (.cons rfl (.cons rfl (.cons rfl (.cons rfl (.cons rfl .nil))))))) ?_
    refine TriE.draw (by kernel_rfl) ?_
    refine RegD.run 4 [(21, vb (decide (a1 < v9))), (20, vb (decide (a1 < v9))), (19, vi a1), (18, vi v9), (0, .own 0 0 v10.length), (1, vi a1), (2, vi a2), (3, .fn (.func 144) [] []), (8, vi v6), (9, vi v9)] [some (.row 2 (List.map ePartCount v10)), none, none, none, none] (by kernel_rfl) ?_
    refine RegD.op (OpD.valk (g := decide (a1 < v9)) (v := .fn (.func 144) [] []) _ _ (cy (IG 22 (.mov (.t 3)) 21 true)) rfl (by kernel_rfl) (fun hg => (.cons rfl .nil))) ?_
    refine RegD.op (OpD.valk (g := decide (a1 < v9)) (v := .own 0 0 v10.length) _ _ (cy (IG 23 (.mov (.t 0)) 21 true)) rfl (by kernel_rfl) (fun hg => (.cons rfl .nil))) ?_
    refine RegD.op (OpD.valk (g := decide (a1 < v9)) (v := vi v9) _ _ (cy (IG 24 (.mov (.t 9)) 21 true)) rfl (by kernel_rfl) (fun hg => (.cons rfl .nil))) ?_
    obtain ⟨c3, h⟩ := chk_some h
    refine RegD.op (OpD.valg (g := decide (a1 < v9)) (v := .ptr 0 v9.toNat 0) _ _ (cy (IG 25 (.iaddr 2 (.t 23) (.t 24)) 21 true)) rfl (fun hg => (ok_iaddr_o0 (j := v9.toNat) rfl rfl rfl (inB_to (gor c3 hg)) (inB_lt (gor c3 hg)))) (fun hg => (.cons hg (.cons hg .nil)))) ?_
    obtain ⟨c4, h⟩ := chk_some h
    refine RegD.op (OpD.valg (g := decide (a1 < v9)) (v := .agg [vt ((ix v10 v9.toNat).Part), vi ((ix v10 v9.toNat).Count)]) _ _ (cy (IG 26 (.load true 2 (.t 25)) 21 true)) rfl (fun hg => (ok_load_pm (l := v10) (e := ePartCount) (v := .agg [vt ((ix v10 v9.toNat).Part), vi ((ix v10 v9.toNat).Count)]) rfl rfl (gor c4 hg) rfl)) (fun hg => (.cons hg .nil))) ?_
    refine RegD.op (OpD.valk (g := decide (a1 < v9)) (v := .own 0 0 v10.length) _ _ (cy (IG 27 (.mov (.t 0)) 21 true)) rfl (by kernel_rfl) (fun hg => (.cons rfl .nil))) ?_
    refine RegD.op (OpD.valk (g := decide (a1 < v9)) (v := vi v9) _ _ (cy (IG 28 (.mov (.t 9)) 21 true)) rfl (by kernel_rfl) (fun hg => (.cons rfl .nil))) ?_
    obtain ⟨c5, h⟩ := chk_some h
    refine RegD.op (OpD.valg (g := decide (a1 < v9)) (v := vi (v9 - 1)) _ _ (cy (IG 29 (.bin .sub false (.t 28) (.c (.p (.int .i64 1)))) 21 true)) rfl (fun hg => (r_sub rfl rfl (gor c5 hg))) (fun hg => (.cons hg (.cons rfl .nil)))) ?_
    obtain ⟨c6, h⟩ := chk_some h
    refine RegD.op (OpD.valg (g := decide (a1 < v9)) (v := .ptr 0 ((v9 - 1).toNat) 0) _ _ (cy (IG 30 (.iaddr 2 (.t 27) (.t 29)) 21 true)) rfl (fun hg => (ok_iaddr_o0 (j := (v9 - 1).toNat) rfl rfl rfl (inB_to (gor c6 hg)) (inB_lt (gor c6 hg)))) (fun hg => (.cons hg (.cons hg .nil)))) ?_
    obtain ⟨c7, h⟩ := chk_some h
    refine RegD.op (OpD.valg (g := decide (a1 < v9)) (v := .agg [vt ((ix v10 ((v9 - 1).toNat)).Part), vi ((ix v10 ((v9 - 1).toNat)).Count)]) _ _ (cy (IG 31 (.load true 2 (.t 30)) 21 true)) rfl (fun hg => (ok_load_pm (l := v10) (e := ePartCount) (v := .agg [vt ((ix v10 ((v9 - 1).toNat)).Part), vi ((ix v10 ((v9 - 1).toNat)).Count)]) rfl rfl (gor c7 hg) rfl)) (fun hg => (.cons hg .nil))) ?_
    obtain ⟨y11, hy11, h⟩ := bind_some h
    refine RegD.op (OpD.dyng (g := decide (a1 < v9)) (y' := vi y11) (obx := []) _ _ _ (cy (IG 32 (.dyn (.t 22) [(.t 26), (.t 31)]) 21 true)) rfl rfl (fun hg => restore_PartsOf_f1_ok n (ix v10 v9.toNat) (ix v10 ((v9 - 1).toNat)) y11 (gcall_some hy11 hg)) [] (fun hg => by kernel_rfl) (fun hg => (.cons hg (.cons hg (.cons hg .nil)))) (by kernel_rfl) (by kernel_rfl) ObsRen.nil (by kernel_rfl) (by kernel_rfl) rfl) ?_
    refine RegD.op (OpD.valk (g := decide (a1 < v9)) (v := vb (decide (y11 < (0 : Int)))) _ _ (cy (IG 33 (.bin .lss false (.t 32) (.c (.p (.int .i64 0)))) 21 true)) rfl (by kernel_rfl) (fun hg => (.cons hg (.cons rfl .nil)))) ?_
    refine RegD.op (OpD.and (cy (I0 34 (.pick (.t 21) (.t 33) (.c (.p (.bool false)))))) rfl rfl (by first | exact hokA1 | exact hokA0 | simp)) ?_
    refine RegD.done rfl (by kernel_rfl) (S' := ⟨[(0, .own 0 0 v10.length), (1, vi a1), (2, vi a2), (3, .fn (.func 144) [] []), (8, vi v6), (9, vi v9), (34, vb ((decide (a1 < v9)) && (decide (y11 < (0 : Int)))))], [some (.row 2 (List.map ePartCount v10))]⟩) (sc [0] (by decide) (by kernel_rfl) (obRen_row ePartCount_frz rfl .nil) rfl rfl) ?_
    refine TriE.cond (b := (decide (a1 < v9)) && (decide (y11 < (0 : Int)))) rfl (fun c8 => ?_) (fun c8 => ?_)
    · have h := cond_t h c8
      refine TriE.skip ?_
      refine TriE.seq ?_
      refine TriE.block ?_
      refine TriE.sees (Sees.less (fr' := [(0, .own 0 0 v10.length), (1, vi a1), (2, vi a2), (3, .fn (.func 144) [] []), (8, vi v6), (9, vi v9)]) (.cons rfl (.cons rfl (.cons rfl (.cons rfl (.cons rfl (.cons rfl .nil))))))) ?_
      refine TriE.draw (by kernel_rfl) ?_
      refine RegD.run 4 [(40, vi v9), (39, .own 0 0 v10.length), (38, vi v9), (37, .own 0 0 v10.length), (0, .own 0 0 v10.length), (1, vi a1), (2, vi a2), (3, .fn (.func 144) [] []), (8, vi v6), (9, vi v9)] [some (.row 2 (List.map ePartCount v10)), none, none, none, none] (by kernel_rfl) ?_
      obtain ⟨c9, h⟩ := chk_some h
      refine dv (vi (v9 - 1)) (cy (I0 41 (.bin .sub false (.t 40) (.c (.p (.int .i64 1)))))) (r_sub rfl rfl c9) rfl ?_
      refine RegD.run 2 [(43, vi v9), (42, .own 0 0 v10.length), (41, vi (v9 - 1)), (40, vi v9), (39, .own 0 0 v10.length), (38, vi v9), (37, .own 0 0 v10.length), (0, .own 0 0 v10.length), (1, vi a1), (2, vi a2), (3, .fn (.func 144) [] []), (8, vi v6), (9, vi v9)] [some (.row 2 (List.map ePartCount v10)), none, none, none, none, none, none, none] (by kernel_rfl) ?_
      refine dv (vi (v9 - 1)) (cy (I0 44 (.bin .sub false (.t 43) (.c (.p (.int .i64 1)))))) (r_sub rfl rfl c9) rfl ?_
      obtain ⟨c10, h⟩ := chk_some h
      refine dv (.ptr 0 ((v9 - 1).toNat) 0) (cy (I0 45 (.iaddr 2 (.t 42) (.t 44)))) (ok_iaddr_o0 (j := (v9 - 1).toNat) rfl rfl rfl (inB_to c10) (inB_lt c10)) rfl ?_
      obtain ⟨c11, h⟩ := chk_some h
      refine dv (.agg [vt ((ix v10 ((v9 - 1).toNat)).Part), vi ((ix v10 ((v9 - 1).toNat)).Count)]) (cy (I0 46 (.load true 2 (.t 45)))) (ok_load_pm (l := v10) (e := ePartCount) (v := .agg [vt ((ix v10 ((v9 - 1).toNat)).Part), vi ((ix v10 ((v9 - 1).toNat)).Count)]) rfl rfl c11 rfl) rfl ?_
      refine RegD.run 2 [(48, vi v9), (47, .own 0 0 v10.length), (46, .agg [vt ((ix v10 ((v9 - 1).toNat)).Part), vi ((ix v10 ((v9 - 1).toNat)).Count)]), (45, .ptr 0 ((v9 - 1).toNat) 0), (44, vi (v9 - 1)), (43, vi v9), (42, .own 0 0 v10.length), (41, vi (v9 - 1)), (40, vi v9), (39, .own 0 0 v10.length), (38, vi v9), (37, .own 0 0 v10.length), (0, .own 0 0 v10.length), (1, vi a1), (2, vi a2), (3, .fn (.func 144) [] []), (8, vi v6), (9, vi v9)] [some (.row 2 (List.map ePartCount v10)), none, none, none, none, none, none, none, none, none, none, none, none] (by kernel_rfl) ?_
      obtain ⟨c12, h⟩ := chk_some h
      refine dv (.ptr 0 v9.toNat 0) (cy (I0 49 (.iaddr 2 (.t 47) (.t 48)))) (ok_iaddr_o0 (j := v9.toNat) rfl rfl rfl (inB_to c12) (inB_lt c12)) rfl ?_
      obtain ⟨c13, h⟩ := chk_some h
      refine dv (.agg [vt ((ix v10 v9.toNat).Part), vi ((ix v10 v9.toNat).Count)]) (cy (I0 50 (.load true 2 (.t 49)))) (ok_load_pm (l := v10) (e := ePartCount) (v := .agg [vt ((ix v10 v9.toNat).Part), vi ((ix v10 v9.toNat).Count)]) rfl rfl c13 rfl) rfl ?_
      refine dv (.ptr 0 v9.toNat 0) (cy (I0 51 (.iaddr 2 (.t 37) (.t 38)))) (ok_iaddr_o0 (j := v9.toNat) rfl rfl rfl (inB_to c12) (inB_lt c12)) rfl ?_
      refine de (.undef) [some (.row 2 (List.map ePartCount (List.set v10 v9.toNat (ix v10 ((v9 - 1).toNat))))), none, none, none, none, none, none, none, none, none, none, none, none, none, none, none, none] (cy (IN (.store 2 (.t 51) (.t 46)))) (ok_store_m (l := v10) (e := ePartCount) (x' := (ix v10 ((v9 - 1).toNat))) (u := .agg [vt ((ix v10 ((v9 - 1).toNat)).Part), vi ((ix v10 ((v9 - 1).toNat)).Count)]) rfl rfl rfl c13 rfl rfl) rfl rfl rfl ?_
      refine dv (.ptr 0 ((v9 - 1).toNat) 0) (cy (I0 52 (.iaddr 2 (.t 39) (.t 41)))) (ok_iaddr_o0 (j := (v9 - 1).toNat) rfl rfl rfl (inB_to c10) (inB_lt c10)) rfl ?_
      obtain ⟨c14, h⟩ := chk_some h
      refine de (.undef) [some (.row 2 (List.map ePartCount (List.set (List.set v10 v9.toNat (ix v10 ((v9 - 1).toNat))) ((v9 - 1).toNat) (ix v10 v9.toNat)))), none, none, none, none, none, none, none, none, none, none, none, none, none, none, none, none, none, none] (cy (IN (.store 2 (.t 52) (.t 50)))) (ok_store_m (l := (List.set v10 v9.toNat (ix v10 ((v9 - 1).toNat)))) (e := ePartCount) (x' := (ix v10 v9.toNat)) (u := .agg [vt ((ix v10 v9.toNat).Part), vi ((ix v10 v9.toNat).Count)]) rfl rfl rfl c14 rfl rfl) rfl rfl rfl ?_
      refine RegD.done rfl (by kernel_rfl) (S' := ⟨[(0, .own 0 0 v10.length), (1, vi a1), (2, vi a2), (3, .fn (.func 144) [] []), (8, vi v6), (9, vi v9)], [some (.row 2 (List.map ePartCount (List.set (List.set v10 v9.toNat (ix v10 ((v9 - 1).toNat))) ((v9 - 1).toNat) (ix v10 v9.toNat))))]⟩) (sc [0] (by decide) (by kernel_rfl) (obRen_row ePartCount_frz rfl .nil) rfl rfl) ?_
      refine TriE.regJ ?_
      refine rn 1 [(0, .own 0 0 v10.length), (1, vi a1), (2, vi a2), (3, .fn (.func 144) [] []), (8, vi v6), (35, vi v9)] [some (.row 2 (List.map ePartCount (List.set (List.set v10 v9.toNat (ix v10 ((v9 - 1).toNat))) ((v9 - 1).toNat) (ix v10 v9.toNat))))] ?_
      refine jv (vi (v9 - 1)) (cy (I0 36 (.bin .sub false (.t 35) (.c (.p (.int .i64 1)))))) (r_sub rfl rfl c9) rfl ?_
      refine jq 1 [(0, .own 0 0 v10.length), (1, vi a1), (2, vi a2), (3, .fn (.func 144) [] []), (8, vi v6), (9, vi (v9 - 1))] [some (.row 2 (List.map ePartCount (List.set (List.set v10 v9.toNat (ix v10 ((v9 - 1).toNat))) ((v9 - 1).toNat) (ix v10 v9.toNat))))] ?_
      exact Vs.intro (Sees.less (.cons (by simp only [List.length_set]; rfl) (.cons rfl (.cons rfl (.cons rfl (.cons rfl (.cons rfl .nil))))))) ⟨(v9 - 1, (List.set (List.set v10 v9.toNat (ix v10 ((v9 - 1).toNat))) ((v9 - 1).toNat) (ix v10 v9.toNat))), rfl, h⟩
    have h := cond_f h c8
    refine TriE.exit ?_
    exact Vs.intro sy ⟨v10, rfl, h⟩
  have h := cond_f h c2
  refine TriE.exit ?_
  have h := Option.some.inj h
  subst h
  exact DoneS.normal (S' := ⟨[], [some (.row 2 (List.map ePartCount v7))]⟩) sy rfl rfl
theorem slices_pdqsortCmpFunc_PartCount_ok (n : Nat) (a0 : List PartCount) (a1 : Int) (a2 : Int) (a3 : Int) (r : (List PartCount)) (h : slices_pdqsortCmpFunc_PartCount n a0 a1 a2 a3 = some r) : FnL Tryz.prog 185 [.own 0 0 a0.length, vi a1, vi a2, vi a3, .fn (.func 144) [] []] [some (.row 2 (List.map ePartCount a0))] (.tup []) [some (.row 2 (List.map ePartCount r))] := by
  dsimp only [slices_pdqsortCmpFunc_PartCount] at h
  refine FnL.ofS (ts := []) Tryz.call185 Tryz.func185 rfl rfl (Nat.le_of_ble_eq_true rfl) (Nat.le_of_ble_eq_true rfl) (hall_of (.cons rfl .nil)) ?_
  refine sr [(0, .own 0 0 a0.length), (1, vi a1), (2, vi a2), (3, vi a3), (4, .fn (.func 144) [] []), (10, vb true)] [some (.row 2 (List.map ePartCount a0))] ?_
  refine sr [(0, .own 0 0 a0.length), (1, vi a1), (2, vi a2), (3, vi a3), (4, .fn (.func 144) [] []), (10, vb true), (11, vb true)] [some (.row 2 (List.map ePartCount a0))] ?_
  refine TriE.block ?_
  refine TriE.loopN h (fun (_ : Unit) => St.mk [(0, .own 0 0 a0.length), (1, vi a1), (2, vi a2), (3, vi a3), (4, .fn (.func 144) [] []), (10, vb true), (11, vb true)] [some (.row 2 (List.map ePartCount a0))]) rfl ?_
  clear h
  rintro back ⟨⟩ h
  dsimp only [slices_pdqsortCmpFunc_PartCount_L1] at h
  refine TriE.block ?_
  refine sj ?_
  refine rn 2 [(0, .own 0 0 a0.length), (1, vi a1), (2, vi a2), (3, vi a3), (4, .fn (.func 144) [] []), (10, vb true), (11, vb true), (21, vi a2), (22, vi a1)] [some (.row 2 (List.map ePartCount a0))] ?_
  obtain ⟨c1, h⟩ := chk_some h
  refine jv (vi (a2 - a1)) (cy (I0 23 (.bin .sub false (.t 21) (.t 22)))) (r_sub rfl rfl c1) rfl ?_
  refine jq 1 [(0, .own 0 0 a0.length), (1, vi a1), (2, vi a2), (3, vi a3), (4, .fn (.func 144) [] []), (10, vb true), (11, vb true), (12, vi (a2 - a1))] [some (.row 2 (List.map ePartCount a0))] ?_
  refine TriE.seq ?_
  refine sr [(0, .own 0 0 a0.length), (1, vi a1), (2, vi a2), (3, vi a3), (4, .fn (.func 144) [] []), (10, vb true), (11, vb true), (12, vi (a2 - a1)), (25, vb (decide ((a2 - a1) ≤ (12 : Int))))] [some (.row 2 (List.map ePartCount a0))] ?_
  refine TriE.cond (b := decide ((a2 - a1) ≤ (12 : Int))) rfl (fun c2 => ?_) (fun c2 => ?_)
  · have h := cond_t h c2
    refine sj ?_
    refine rn 4 [(26, .own 0 0 a0.length), (27, vi a1), (28, vi a2), (29, .fn (.func 144) [] [])] [some (.row 2 (List.map ePartCount a0))] ?_
    obtain ⟨y1, hy1, h⟩ := bind_some h
    refine RegJ.op (Op1.call (y' := .tup []) (obx := [some (.row 2 (List.map ePartCount a0))]) (oby := [some (.row 2 (List.map ePartCount y1))]) (ob2 := [some (.row 2 (List.map ePartCount y1))]) _ _ (cy (I0 30 (.call 208 [(.t 26), (.t 27), (.t 28), (.t 29)]))) rfl (slices_insertionSortCmpFunc_PartCount_ok n a0 a1 a2 y1 hy1) [0] (by kernel_rfl) (.cons rfl (.cons rfl (.cons rfl (.cons rfl (.cons rfl .nil))))) (by kernel_rfl) (by kernel_rfl) (.same (row_ren ePartCount_frz _ _ _) .nil) (by kernel_rfl) (.same (row_ren ePartCount_frz _ _ _) .nil) (by kernel_rfl)) ?_
    obtain ⟨c3, h⟩ := chk_some h
    refine RegJ.sees (S' := ⟨[(26, .own 0 0 y1.length), (27, vi a1), (28, vi a2), (29, .fn (.func 144) [] []), (30, .tup [])], [some (.row 2 (List.map ePartCount y1))]⟩) (Sees.cov (Cov.mk2 (rs := [0]) (by decide) rfl rfl (.cons (.inl (by rw [show a0.length = y1.length from of_decide_eq_true c3]; rfl)) (.cons (.inl rfl) (.cons (.inl rfl) (.cons (.inl rfl) (.cons (.inl rfl) .nil))))) (obRen_row ePartCount_frz rfl .nil))) ?_
    refine jp [] ?_
    refine TriE.ret ?_
    have h := Option.some.inj h
    subst h
    exact DoneS.ret (S' := ⟨[], [some (.row 2 (List.map ePartCount y1))]⟩) Sees.refl rfl rfl
  have h := cond_f h c2
  refine TriE.skip ?_
  refine TriE.seq ?_
  refine sr [(0, .own 0 0 a0.length), (1, vi a1), (2, vi a2), (3, vi a3), (4, .fn (.func 144) [] []), (10, vb true), (11, vb true), (12, vi (a2 - a1)), (32, vb (a3 == (0 : Int)))] [some (.row 2 (List.map ePartCount a0))] ?_
  refine TriE.cond (b := (a3 == (0 : Int))) rfl (fun c4 => ?_) (fun c4 => ?_)
  · have h := cond_t h c4
    refine sj ?_
    refine rn 4 [(33, .own 0 0 a0.length), (34, vi a1), (35, vi a2), (36, .fn (.func 144) [] [])] [some (.row 2 (List.map ePartCount a0))] ?_
    cases h
  have h := cond_f h c4
  refine TriE.skip ?_
  refine TriE.seq ?_
  refine sr [(0, .own 0 0 a0.length), (1, vi a1), (2, vi a2), (3, vi a3), (4, .fn (.func 144) [] []), (10, vb true), (11, vb true), (12, vi (a2 - a1)), (39, vb false)] [some (.row 2 (List.map ePartCount a0))] ?_
  refine TriE.cond (b := false) rfl (fun c5 => ?_) (fun c5 => ?_)
  · cases c5
  refine TriE.skip ?_
  refine sj ?_
  refine rn 4 [(0, .own 0 0 a0.length), (1, vi a1), (2, vi a2), (3, vi a3), (4, .fn (.func 144) [] []), (10, vb true), (11, vb true), (12, vi (a2 - a1)), (48, .own 0 0 a0.length), (49, vi a1), (50, vi a2), (51, .fn (.func 144) [] [])] [some (.row 2 (List.map ePartCount a0))] ?_
  cases h
theorem slices_SortFunc_PartCount_ok (n : Nat) (a0 : List PartCount) (r : (List PartCount)) (h : slices_SortFunc_PartCount n a0 = some r) : FnL Tryz.prog 143 [.own 0 0 a0.length, .fn (.func 144) [] []] [some (.row 2 (List.map ePartCount a0))] (.tup []) [some (.row 2 (List.map ePartCount r))] := by
  dsimp only [slices_SortFunc_PartCount] at h
  refine FnL.ofS (ts := []) Tryz.call143 Tryz.func143 rfl rfl (Nat.le_of_ble_eq_true rfl) (Nat.le_of_ble_eq_true rfl) (hall_of (.cons rfl .nil)) ?_
  refine sr [(0, .own 0 0 a0.length), (1, .fn (.func 144) [] []), (4, vi (a0.length : Int))] [some (.row 2 (List.map ePartCount a0))] ?_
  refine TriE.regJ ?_
  refine rn 4 [(1, .fn (.func 144) [] []), (7, .own 0 0 a0.length), (8, vi (a0.length : Int)), (10, vk .u64 (IntKind.u64.wrap (a0.length : Int)))] [some (.row 2 (List.map ePartCount a0))] ?_
  obtain ⟨y1, hy1, h⟩ := bind_some h
  refine RegJ.op (Op1.call (y' := vi y1) (obx := []) (oby := []) (ob2 := [some (.row 2 (List.map ePartCount a0))]) _ _ (cy (I0 11 (.call 166 [(.t 10)]))) rfl (math_bits_Len_ok n (IntKind.u64.wrap (a0.length : Int)) y1 hy1) [] (by kernel_rfl) (.cons rfl (.cons rfl .nil)) (by kernel_rfl) (by kernel_rfl) ObsRen.nil (by kernel_rfl) ObsRen.nil (by kernel_rfl)) ?_
  refine rn 1 [(7, .own 0 0 a0.length), (8, vi (a0.length : Int)), (11, vi y1), (12, .fn (.func 144) [] [])] [some (.row 2 (List.map ePartCount a0))] ?_
  obtain ⟨y2, hy2, h⟩ := bind_some h
  refine RegJ.op (Op1.call (y' := .tup []) (obx := [some (.row 2 (List.map ePartCount a0))]) (oby := [some (.row 2 (List.map ePartCount y2))]) (ob2 := [some (.row 2 (List.map ePartCount y2))]) _ _ (cy (I0 13 (.call 185 [(.t 7), (.c (.p (.int .i64 0))), (.t 8), (.t 11), (.t 12)]))) rfl (slices_pdqsortCmpFunc_PartCount_ok n a0 0 (a0.length : Int) y1 y2 hy2) [0] (by kernel_rfl) (.cons rfl (.cons rfl (.cons rfl (.cons rfl (.cons rfl (.cons rfl .nil)))))) (by kernel_rfl) (by kernel_rfl) (.same (row_ren ePartCount_frz _ _ _) .nil) (by kernel_rfl) (.same (row_ren ePartCount_frz _ _ _) .nil) (by kernel_rfl)) ?_
  obtain ⟨c1, h⟩ := chk_some h
  refine RegJ.sees (S' := ⟨[(7, .own 0 0 y2.length), (8, vi (a0.length : Int)), (11, vi y1), (12, .fn (.func 144) [] []), (13, .tup [])], [some (.row 2 (List.map ePartCount y2))]⟩) (Sees.cov (Cov.mk2 (rs := [0]) (by decide) rfl rfl (.cons (.inl (by rw [show a0.length = y2.length from of_decide_eq_true c1]; rfl)) (.cons (.inl rfl) (.cons (.inl rfl) (.cons (.inl rfl) (.cons (.inl rfl) .nil))))) (obRen_row ePartCount_frz rfl .nil))) ?_
  refine jp [] ?_
  have h := Option.some.inj h
  subst h
  exact DoneS.normal (S' := ⟨[], [some (.row 2 (List.map ePartCount y2))]⟩) Sees.refl rfl rfl
theorem restore_PartsOf_ok (n : Nat) (a0 : List Task) (a1 : List Str) (r : Int × (List PartCount)) (h : restore_PartsOf n a0 a1 = some r) : FnL Tryz.prog 72 [eS 6 eTask a0, eS 1 vt a1] [] (.tup [eS 2 ePartCount r.2, vi r.1]) [] := by
  dsimp only [restore_PartsOf] at h
  refine FnL.ofS (ts := [4, 5]) Tryz.call72 Tryz.func72 rfl rfl (Nat.le_of_ble_eq_true rfl) (Nat.le_of_ble_eq_true rfl) (fun j h => absurd h (Nat.not_lt_zero j)) ?_
  refine sr [(0, eS 6 eTask a0), (1, eS 1 vt a1)] [] ?_
  refine TriE.seq ?_
  refine sj ?_
  refine rn 3 [(0, eS 6 eTask a0), (1, eS 1 vt a1), (15, eS 6 eTask a0), (17, .own 0 0 1)] [some (.row 1 [eS 1 vt a1])] ?_
  refine RegJ.sees (Sees.freeze 0 (fr' := [(0, eS 6 eTask a0), (1, eS 1 vt a1), (15, eS 6 eTask a0), (17, eS 1 (eS 1 vt) ([a1] : List (List Str)))]) (ob' := [none]) rfl (frzs_cons rfl frzs_nil) (.cons (.refl _) (.cons (.refl _) (.cons (.refl _) (.cons (.own rfl (Nat.le_of_ble_eq_true rfl)) .nil)))) rfl) ?_
  obtain ⟨y1, hy1, h⟩ := bind_some h
  refine RegJ.op (Op1.call (y' := vi y1) (obx := []) (oby := []) (ob2 := [none]) _ _ (cy (I0 18 (.call 113 [(.t 15), (.t 17)]))) rfl (restore_checkSets_ok n a0 ([a1] : List (List Str)) y1 hy1) [] (by kernel_rfl) (.cons rfl (.cons rfl (.cons rfl .nil))) (by kernel_rfl) (by kernel_rfl) ObsRen.nil (by kernel_rfl) ObsRen.nil (by kernel_rfl)) ?_
  refine jq 1 [(0, eS 6 eTask a0), (1, eS 1 vt a1), (6, vi y1)] [none] ?_
  refine sr [(0, eS 6 eTask a0), (1, eS 1 vt a1), (6, vi y1), (20, vb (y1 != (0 : Int)))] [none] ?_
  refine TriE.cond (b := (y1 != (0 : Int))) rfl (fun c1 => ?_) (fun c1 => ?_)
  · have h := cond_t h c1
    refine sr [(4, .emp), (5, vi y1)] [none] ?_
    refine TriE.ret ?_
    have h := Option.some.inj h
    subst h
    exact DoneS.ret (S' := ⟨[(4, eS 2 ePartCount ([] : List PartCount)), (5, vi y1)], []⟩) (Sees.trans (Sees.vco (fr' := [(4, eS 2 ePartCount ([] : List PartCount)), (5, vi y1)]) (.cons .sl (.cons .same .nil))) (sc [] (by decide) (by kernel_rfl) ObRen.nil rfl rfl)) rfl rfl
  have h := cond_f h c1
  refine TriE.skip ?_
  refine sj ?_
  refine je (.map 1) [none, some (.mp (mpE vt vi ([] : List (Str × Int))))] (cy (I0 22 .mkmap)) rfl rfl rfl rfl ?_
  refine jq 1 [(0, eS 6 eTask a0), (1, eS 1 vt a1), (7, .map 1)] [none, some (.mp (mpE vt vi ([] : List (Str × Int))))] ?_
  refine TriE.seqK h (fun (v12 : (List (Str × Int))) => St.mk [(7, .map 0)] [some (.mp (mpE vt vi v12))]) ?_ ?_
  · rintro v12 h
    refine sr [(7, .map 0), (12, .emp)] [some (.mp (mpE vt vi v12))] ?_
    refine TriE.seqK h (fun (v20 : (List PartCount)) => St.mk [(12, .own 0 0 v20.length)] [some (.row 2 (List.map ePartCount v20))]) ?_ ?_
    · rintro v20 h
      refine sj ?_
      refine rn 1 [(12, .own 0 0 v20.length), (63, .own 0 0 v20.length)] [some (.row 2 (List.map ePartCount v20))] ?_
      obtain ⟨y21, hy21, h⟩ := bind_some h
      refine RegJ.op (Op1.call (y' := .tup []) (obx := [some (.row 2 (List.map ePartCount v20))]) (oby := [some (.row 2 (List.map ePartCount y21))]) (ob2 := [some (.row 2 (List.map ePartCount y21))]) _ _ (cy (I0 64 (.call 143 [(.t 63), (.c (.fn (.func 144) [] []))]))) rfl (slices_SortFunc_PartCount_ok n v20 y21 hy21) [0] (by kernel_rfl) (.cons rfl (.cons rfl (.cons rfl .nil))) (by kernel_rfl) (by kernel_rfl) (.same (row_ren ePartCount_frz _ _ _) .nil) (by kernel_rfl) (.same (row_ren ePartCount_frz _ _ _) .nil) (by kernel_rfl)) ?_
      obtain ⟨c15, h⟩ := chk_some h
      refine RegJ.sees (S' := ⟨[(12, .own 0 0 y21.length), (63, .own 0 0 y21.length), (64, .tup [])], [some (.row 2 (List.map ePartCount y21))]⟩) (Sees.cov (Cov.mk2 (rs := [0]) (by decide) rfl rfl (.cons (.inl (by rw [show v20.length = y21.length from of_decide_eq_true c15]; rfl)) (.cons (.inl (by rw [show v20.length = y21.length from of_decide_eq_true c15]; rfl)) (.cons (.inl rfl) .nil))) (obRen_row ePartCount_frz rfl .nil))) ?_
      refine jp [(12, .own 0 0 y21.length)] ?_
      refine sr [(4, .own 0 0 y21.length), (5, vi 0)] [some (.row 2 (List.map ePartCount y21))] ?_
      refine TriE.ret ?_
      have h := Option.some.inj h
      subst h
      exact DoneS.ret (S' := ⟨[(4, eS 2 ePartCount y21), (5, vi 0)], []⟩) (Sees.trans (Sees.freeze 0 (fr' := [(4, eS 2 ePartCount y21), (5, vi 0)]) (ob' := [none]) rfl (frz_row ePartCount_frzE _) (.cons (frz_full rfl) (.cons (.refl _) .nil)) rfl) (sc [] (by decide) (by kernel_rfl) ObRen.nil rfl rfl)) rfl rfl
    intro k3 h
    refine sj ?_
    refine rn 1 [(12, .emp), (50, .map 0)] [some (.mp (mpE vt vi v12))] ?_
    refine RegJ.rngM (d := some 51) (t := 50) (n := 0) (ek := vt) (ev := vi) (l := v12) (by kernel_rfl) rfl rfl vt_frz vi_frz ?_
    refine jp [(12, .emp), (51, .itp 1)] ?_
    refine TriE.block ?_
    refine TriE.sees (S' := ⟨[(12, .own 1 0 ([] : List PartCount).length), (51, .itp 0)], [some (itO vt vi none v12), some (.row 2 (List.map ePartCount ([] : List PartCount)))]⟩) (Sees.trans (Sees.co (fr' := [(12, .own 2 0 0), (51, .itp 1)]) (ob' := [none, some (itO vt vi none v12)]) (.cons .own (.cons .same .nil)) (.same (.same .nil)) 2) (sc [1, 2] (by decide) (by kernel_rfl) (obRen_it rfl (obRen_row ePartCount_frz rfl .nil)) rfl rfl)) ?_
    refine TriE.loopN h (fun (t : (List PartCount) × (Option (Str × Int)) × (List (Str × Int))) => match t with | (v15, v16, v17) => St.mk [(12, .own 1 0 v15.length), (51, .itp 0)] [some (itO vt vi v16 v17), some (.row 2 (List.map ePartCount v15))]) rfl ?_
    clear h
    rintro back ⟨v15, v16, v17⟩ h
    dsimp only [restore_PartsOf_L3] at h
    refine sj ?_
    refine RegJ.nxtM (d := some 52) (n := 0) (t := 51) (c := v16) (l := v17) (by kernel_rfl) rfl rfl rfl (fun c10 => ?_) (fun j18 x19 c11 => ?_)
    · have h := cond_t h (len0 c10)
      refine jq 1 [(12, .own 1 0 v15.length), (51, .itp 0), (53, vb false)] [some (itO vt vi v16 v17), some (.row 2 (List.map ePartCount v15))] ?_
      refine TriE.seq ?_
      refine TriE.cond (b := false) rfl (fun c12 => ?_) (fun c12 => ?_)
      · cases c12
      refine TriE.exit ?_
      exact Vs.intro (sc [1] (by decide) (by kernel_rfl) (obRen_row ePartCount_frz rfl .nil) rfl rfl) ⟨v15, rfl, h⟩
    have h := pickK_at (cond_f h (lenS c11)) c11
    refine jq 1 [(12, .own 1 0 v15.length), (51, .itp 0), (53, vb true)] [some (itO vt vi (some x19) (List.eraseIdx v17 j18)), some (.row 2 (List.map ePartCount v15))] ?_
    refine TriE.seq ?_
    refine TriE.cond (b := true) rfl (fun c13 => ?_) (fun c13 => ?_)
    rotate_left
    · cases c13
    refine TriE.skip ?_
    refine TriE.block ?_
    refine sj ?_
    refine RegJ.entM (d := some 54) (t := 51) (n := 0) (x := x19) (l := (List.eraseIdx v17 j18)) (by kernel_rfl) rfl rfl rfl ?_
    refine jq 4 [(12, .own 1 0 v15.length), (51, .itp 0), (13, vt x19.1), (14, vi x19.2)] [some (itO vt vi (some x19) (List.eraseIdx v17 j18)), some (.row 2 (List.map ePartCount v15))] ?_
    refine TriE.regJ ?_
    refine rn 5 [(51, .itp 0), (57, .own 1 0 v15.length), (61, .own 2 0 1)] [some (itO vt vi (some x19) (List.eraseIdx v17 j18)), some (.row 2 (List.map ePartCount v15)), some (.row 2 [.agg [vt x19.1, vi x19.2]])] ?_
    obtain ⟨c14, h⟩ := chk_some h
    refine je (.own 3 0 ((v15 ++ ([(PartCount.mk x19.1 x19.2)] : List PartCount)).length)) [some (itO vt vi (some x19) (List.eraseIdx v17 j18)), none, some (.row 2 [.agg [vt x19.1, vi x19.2]]), some (.row 2 (List.map ePartCount (v15 ++ ([(PartCount.mk x19.1 x19.2)] : List PartCount))))] (cy (I0 62 (.app 2 24 (.t 57) (.t 61)))) (ok_app_own (l := v15) (l2 := ([(PartCount.mk x19.1 x19.2)] : List PartCount)) (e := ePartCount) (u := .own 2 0 1) rfl rfl rfl rfl rfl c14) rfl rfl rfl ?_
    refine jq 1 [(51, .itp 0), (12, .own 3 0 ((v15 ++ ([(PartCount.mk x19.1 x19.2)] : List PartCount)).length))] [some (itO vt vi (some x19) (List.eraseIdx v17 j18)), none, some (.row 2 [.agg [vt x19.1, vi x19.2]]), some (.row 2 (List.map ePartCount (v15 ++ ([(PartCount.mk x19.1 x19.2)] : List PartCount))))] ?_
    exact Vs.intro (sc [0, 3] (by decide) (by kernel_rfl) (obRen_it rfl (obRen_row ePartCount_frz rfl .nil)) rfl rfl) ⟨((v15 ++ ([(PartCount.mk x19.1 x19.2)] : List PartCount)), (some x19), (List.eraseIdx v17 j18)), rfl, h⟩
  intro k2 h
  refine sj ?_
  refine rn 1 [(0, eS 6 eTask a0), (7, .map 1), (23, eS 1 vt a1)] [none, some (.mp (mpE vt vi ([] : List (Str × Int))))] ?_
  refine jv (vi (a1.length : Int)) (cy (I0 24 (.len 0 (.t 23)))) (ok_len_m rfl) rfl ?_
  refine jq 1 [(0, eS 6 eTask a0), (7, .map 1), (23, eS 1 vt a1), (24, vi (a1.length : Int)), (25, vi 0)] [none, some (.mp (mpE vt vi ([] : List (Str × Int))))] ?_
  refine TriE.block ?_
  refine TriE.sees (S' := ⟨[(0, eS 6 eTask a0), (7, .map 0), (23, eS 1 vt a1), (24, vi (a1.length : Int)), (25, vi 0)], [some (.mp (mpE vt vi ([] : List (Str × Int))))]⟩) (sc [1] (by decide) (by kernel_rfl) (obRen_mp vt_frz vi_frz rfl .nil) rfl rfl) ?_
  refine TriE.loopN h (fun (t : Nat × (List (Str × Int))) => match t with | (v6, v7) => St.mk [(0, eS 6 eTask a0), (7, .map 0), (23, eS 1 vt a1), (24, vi (a1.length : Int)), (25, vi v6)] [some (.mp (mpE vt vi v7))]) rfl ?_
  clear h
  rintro back ⟨v6, v7⟩ h
  dsimp only [restore_PartsOf_L2] at h
  refine sj ?_
  refine jv (vb (decide (v6 < a1.length))) (cy (I0 26 (.bin .lss false (.t 25) (.t 24)))) (n_lss (i := v6) (j := a1.length) rfl rfl) rfl ?_
  refine jp [(0, eS 6 eTask a0), (7, .map 0), (23, eS 1 vt a1), (24, vi (a1.length : Int)), (25, vi v6), (26, vb (decide (v6 < a1.length)))] ?_
  refine TriE.seq ?_
  refine TriE.cond (b := decide (v6 < a1.length)) rfl (fun c2 => ?_) (fun c2 => ?_)
  · have h := cond_t h c2
    refine TriE.skip ?_
    refine TriE.seqK h (fun (v11 : (List (Str × Int))) => St.mk [(0, eS 6 eTask a0), (7, .map 0), (23, eS 1 vt a1), (24, vi (a1.length : Int)), (25, vi v6)] [some (.mp (mpE vt vi v11))]) ?_ ?_
    · rintro v11 h
      refine TriE.regJ ?_
      obtain ⟨c9, h⟩ := chk_some h
      refine jv (vi ((v6 + 1 : Nat) : Int)) (cy (I0 49 (.bin .add false (.t 25) (.c (.p (.int .i64 1)))))) (r_addn (i := v6) (j := 1) rfl rfl c9) rfl ?_
      refine jq 1 [(0, eS 6 eTask a0), (7, .map 0), (23, eS 1 vt a1), (24, vi (a1.length : Int)), (25, vi ((v6 + 1 : Nat) : Int))] [some (.mp (mpE vt vi v11))] ?_
      exact Vs.intro sy ⟨(v6 + 1, v11), rfl, h⟩
    intro k1 h
    refine TriE.block ?_
    refine sj ?_
    refine jv (.fptr 1 (List.map vt a1) v6 0) (cy (I0 27 (.iaddr 1 (.t 23) (.t 25)))) (ok_iaddr_m (j := v6) rfl rfl rfl c2) rfl ?_
    refine jv (vt (ix a1 v6)) (cy (I0 28 (.load false 1 (.t 27)))) (ok_load_fm (v := vt (ix a1 v6)) rfl c2 rfl) rfl ?_
    refine jq 1 [(0, eS 6 eTask a0), (7, .map 0), (23, eS 1 vt a1), (24, vi (a1.length : Int)), (25, vi v6), (9, vt (ix a1 v6))] [some (.mp (mpE vt vi v7))] ?_
    refine sj ?_
    refine rn 3 [(0, eS 6 eTask a0), (7, .map 0), (23, eS 1 vt a1), (24, vi (a1.length : Int)), (25, vi v6), (29, eS 6 eTask a0), (30, eS 6 eTask a0), (31, vt (ix a1 v6))] [some (.mp (mpE vt vi v7))] ?_
    obtain ⟨y8, hy8, h⟩ := bind_some h
    refine RegJ.op (Op1.call (y' := vi y8) (obx := []) (oby := []) (ob2 := [some (.mp (mpE vt vi v7))]) _ _ (cy (I0 32 (.call 117 [(.t 30), (.t 31)]))) rfl (restore_list_find_ok n a0 (ix a1 v6) y8 hy8) [] (by kernel_rfl) (.cons rfl (.cons rfl (.cons rfl .nil))) (by kernel_rfl) (by kernel_rfl) ObsRen.nil (by kernel_rfl) ObsRen.nil (by kernel_rfl)) ?_
    obtain ⟨c3, h⟩ := chk_some h
    refine jv (.fptr 6 (List.map eTask a0) y8.toNat 0) (cy (I0 33 (.iaddr 6 (.t 29) (.t 32)))) (ok_iaddr_m (j := y8.toNat) rfl rfl (inB_to c3) (inB_lt c3)) rfl ?_
    refine rn 1 [(0, eS 6 eTask a0), (7, .map 0), (23, eS 1 vt a1), (24, vi (a1.length : Int)), (25, vi v6), (34, .fptr 6 (List.map eTask a0) y8.toNat 5)] [some (.mp (mpE vt vi v7))] ?_
    obtain ⟨c4, h⟩ := chk_some h
    refine jv (eS 2 ePartCount ((ix a0 y8.toNat).Parts)) (cy (I0 35 (.load false 1 (.t 34)))) (ok_load_fm (v := eS 2 ePartCount ((ix a0 y8.toNat).Parts)) rfl c4 rfl) rfl ?_
    refine jv (vi ((((ix a0 y8.toNat).Parts).length : Nat) : Int)) (cy (I0 36 (.len 0 (.t 35)))) (ok_len_m rfl) rfl ?_
    refine jq 1 [(0, eS 6 eTask a0), (7, .map 0), (23, eS 1 vt a1), (24, vi (a1.length : Int)), (25, vi v6), (35, eS 2 ePartCount ((ix a0 y8.toNat).Parts)), (36, vi ((((ix a0 y8.toNat).Parts).length : Nat) : Int)), (37, vi 0)] [some (.mp (mpE vt vi v7))] ?_
    refine TriE.block ?_
    refine TriE.sees (S' := ⟨[(0, eS 6 eTask a0), (7, .map 0), (23, eS 1 vt a1), (24, vi (a1.length : Int)), (25, vi v6), (35, eS 2 ePartCount ((ix a0 y8.toNat).Parts)), (36, vi ((((ix a0 y8.toNat).Parts).length : Nat) : Int)), (37, vi 0)], [some (.mp (mpE vt vi v7))]⟩) sy ?_
    refine TriE.loopN h (fun (t : Nat × (List (Str × Int))) => match t with | (v9, v10) => St.mk [(0, eS 6 eTask a0), (7, .map 0), (23, eS 1 vt a1), (24, vi (a1.length : Int)), (25, vi v6), (35, eS 2 ePartCount ((ix a0 y8.toNat).Parts)), (36, vi ((((ix a0 y8.toNat).Parts).length : Nat) : Int)), (37, vi v9)] [some (.mp (mpE vt vi v10))]) rfl ?_
    clear h
    rintro back ⟨v9, v10⟩ h
    dsimp only [restore_PartsOf_L1] at h
    refine sj ?_
    refine jv (vb (decide (v9 < (((ix a0 y8.toNat).Parts).length)))) (cy (I0 38 (.bin .lss false (.t 37) (.t 36)))) (n_lss (i := v9) (j := ((ix a0 y8.toNat).Parts).length) rfl rfl) rfl ?_
    refine jp [(0, eS 6 eTask a0), (7, .map 0), (23, eS 1 vt a1), (24, vi (a1.length : Int)), (25, vi v6), (35, eS 2 ePartCount ((ix a0 y8.toNat).Parts)), (36, vi ((((ix a0 y8.toNat).Parts).length : Nat) : Int)), (37, vi v9), (38, vb (decide (v9 < (((ix a0 y8.toNat).Parts).length))))] ?_
    refine TriE.seq ?_
    refine TriE.cond (b := decide (v9 < (((ix a0 y8.toNat).Parts).length))) rfl (fun c5 => ?_) (fun c5 => ?_)
    · have h := cond_t h c5
      refine TriE.skip ?_
      refine TriE.seq ?_
      refine TriE.block ?_
      refine sj ?_
      obtain ⟨c6, h⟩ := chk_some h
      refine jv (.fptr 2 (List.map ePartCount ((ix a0 y8.toNat).Parts)) v9 0) (cy (I0 39 (.iaddr 2 (.t 35) (.t 37)))) (ok_iaddr_m (j := v9) rfl rfl rfl c6) rfl ?_
      refine jv (.agg [vt ((ix ((ix a0 y8.toNat).Parts) v9).Part), vi ((ix ((ix a0 y8.toNat).Parts) v9).Count)]) (cy (I0 40 (.load true 2 (.t 39)))) (ok_load_fm (v := .agg [vt ((ix ((ix a0 y8.toNat).Parts) v9).Part), vi ((ix ((ix a0 y8.toNat).Parts) v9).Count)]) rfl c6 rfl) rfl ?_
      refine jq 2 [(0, eS 6 eTask a0), (7, .map 0), (23, eS 1 vt a1), (24, vi (a1.length : Int)), (25, vi v6), (35, eS 2 ePartCount ((ix a0 y8.toNat).Parts)), (36, vi ((((ix a0 y8.toNat).Parts).length : Nat) : Int)), (37, vi v9), (11, .ptr 1 0 0)] [some (.mp (mpE vt vi v10)), some (.row 2 [.agg [vt ((ix ((ix a0 y8.toNat).Parts) v9).Part), vi ((ix ((ix a0 y8.toNat).Parts) v9).Count)]])] ?_
      refine TriE.regJ ?_
      refine rn 3 [(0, eS 6 eTask a0), (7, .map 0), (23, eS 1 vt a1), (24, vi (a1.length : Int)), (25, vi v6), (35, eS 2 ePartCount ((ix a0 y8.toNat).Parts)), (36, vi ((((ix a0 y8.toNat).Parts).length : Nat) : Int)), (37, vi v9), (11, .ptr 1 0 0), (41, .map 0), (43, vt ((ix ((ix a0 y8.toNat).Parts) v9).Part))] [some (.mp (mpE vt vi v10)), some (.row 2 [.agg [vt ((ix ((ix a0 y8.toNat).Parts) v9).Part), vi ((ix ((ix a0 y8.toNat).Parts) v9).Count)]])] ?_
      refine jv (vi (Option.getD (List.lookup ((ix ((ix a0 y8.toNat).Parts) v9).Part) v10) (0 : Int))) (cy (I0 44 (.lookup true (.p (.int .i64 0)) false (.t 41) (.t 43)))) (ok_lookup_s (l := v10) (ev := vi) (z0 := (0 : Int)) rfl rfl rfl rfl) rfl ?_
      refine rn 2 [(0, eS 6 eTask a0), (7, .map 0), (23, eS 1 vt a1), (24, vi (a1.length : Int)), (25, vi v6), (35, eS 2 ePartCount ((ix a0 y8.toNat).Parts)), (36, vi ((((ix a0 y8.toNat).Parts).length : Nat) : Int)), (37, vi v9), (41, .map 0), (43, vt ((ix ((ix a0 y8.toNat).Parts) v9).Part)), (44, vi (Option.getD (List.lookup ((ix ((ix a0 y8.toNat).Parts) v9).Part) v10) (0 : Int))), (46, vi ((ix ((ix a0 y8.toNat).Parts) v9).Count))] [some (.mp (mpE vt vi v10)), some (.row 2 [.agg [vt ((ix ((ix a0 y8.toNat).Parts) v9).Part), vi ((ix ((ix a0 y8.toNat).Parts) v9).Count)]])] ?_
      obtain ⟨c7, h⟩ := chk_some h
      refine jv (vi ((Option.getD (List.lookup ((ix ((ix a0 y8.toNat).Parts) v9).Part) v10) (0 : Int)) + ((ix ((ix a0 y8.toNat).Parts) v9).Count))) (cy (I0 47 (.bin .add false (.t 44) (.t 46)))) (r_add rfl rfl c7) rfl ?_
      refine je (.undef) [some (.mp (mpE vt vi (mPut ((ix ((ix a0 y8.toNat).Parts) v9).Part) ((Option.getD (List.lookup ((ix ((ix a0 y8.toNat).Parts) v9).Part) v10) (0 : Int)) + ((ix ((ix a0 y8.toNat).Parts) v9).Count)) v10))), some (.row 2 [.agg [vt ((ix ((ix a0 y8.toNat).Parts) v9).Part), vi ((ix ((ix a0 y8.toNat).Parts) v9).Count)]])] (cy (IN (.mapset true (.t 41) (.t 43) (.t 47)))) (ok_mapset_s (l := v10) (ev := vi) (v := (Option.getD (List.lookup ((ix ((ix a0 y8.toNat).Parts) v9).Part) v10) (0 : Int)) + ((ix ((ix a0 y8.toNat).Parts) v9).Count)) rfl rfl rfl rfl) rfl rfl rfl ?_
      refine jp [(0, eS 6 eTask a0), (7, .map 0), (23, eS 1 vt a1), (24, vi (a1.length : Int)), (25, vi v6), (35, eS 2 ePartCount ((ix a0 y8.toNat).Parts)), (36, vi ((((ix a0 y8.toNat).Parts).length : Nat) : Int)), (37, vi v9)] ?_
      refine TriE.regJ ?_
      obtain ⟨c8, h⟩ := chk_some h
      refine jv (vi ((v9 + 1 : Nat) : Int)) (cy (I0 48 (.bin .add false (.t 37) (.c (.p (.int .i64 1)))))) (r_addn (i := v9) (j := 1) rfl rfl c8) rfl ?_
      refine jq 1 [(0, eS 6 eTask a0), (7, .map 0), (23, eS 1 vt a1), (24, vi (a1.length : Int)), (25, vi v6), (35, eS 2 ePartCount ((ix a0 y8.toNat).Parts)), (36, vi ((((ix a0 y8.toNat).Parts).length : Nat) : Int)), (37, vi ((v9 + 1 : Nat) : Int))] [some (.mp (mpE vt vi (mPut ((ix ((ix a0 y8.toNat).Parts) v9).Part) ((Option.getD (List.lookup ((ix ((ix a0 y8.toNat).Parts) v9).Part) v10) (0 : Int)) + ((ix ((ix a0 y8.toNat).Parts) v9).Count)) v10))), some (.row 2 [.agg [vt ((ix ((ix a0 y8.toNat).Parts) v9).Part), vi ((ix ((ix a0 y8.toNat).Parts) v9).Count)]])] ?_
      exact Vs.intro (sc [0] (by decide) (by kernel_rfl) (obRen_mp vt_frz vi_frz rfl .nil) rfl rfl) ⟨(v9 + 1, (mPut ((ix ((ix a0 y8.toNat).Parts) v9).Part) ((Option.getD (List.lookup ((ix ((ix a0 y8.toNat).Parts) v9).Part) v10) (0 : Int)) + ((ix ((ix a0 y8.toNat).Parts) v9).Count)) v10)), rfl, h⟩
    have h := cond_f h c5
    refine TriE.exit ?_
    exact Vs.intro sy ⟨v10, rfl, h⟩
  have h := cond_f h c2
  refine TriE.exit ?_
  exact Vs.intro sy ⟨v7, rfl, h⟩
theorem agraffelaw08_RestoreCosts_ok (n : Nat) (a0 : List Task) (a1 : List Stocked) (a2 : List Str) (r : Bool) (h : agraffelaw08_RestoreCosts n a0 a1 a2 = some r) : FnL Tryz.prog 12 [eS 6 eTask a0, eS 3 eStocked a1, eS 1 vt a2] [] (vb r) [] := by
  dsimp only [agraffelaw08_RestoreCosts] at h
  refine FnL.ofS (ts := [6]) Tryz.call12 Tryz.func12 rfl rfl (Nat.le_of_ble_eq_true rfl) (Nat.le_of_ble_eq_true rfl) (fun j h => absurd h (Nat.not_lt_zero j)) ?_
  refine sr [(0, eS 6 eTask a0), (1, eS 3 eStocked a1), (2, eS 1 vt a2)] [] ?_
  refine TriE.seq ?_
  refine sj ?_
  obtain ⟨y1, hy1, h⟩ := bind_some h
  refine RegJ.op (Op1.call (y' := vb y1) (obx := []) (oby := []) (ob2 := []) _ _ (cy (I0 18 (.call 14 []))) rfl (agraffelaw08_awake_ok n y1 hy1) [] (by kernel_rfl) (.cons rfl .nil) (by kernel_rfl) (by kernel_rfl) ObsRen.nil (by kernel_rfl) ObsRen.nil (by kernel_rfl)) ?_
  refine jq 1 [(0, eS 6 eTask a0), (1, eS 3 eStocked a1), (2, eS 1 vt a2), (19, vb (!y1))] [] ?_
  refine TriE.cond (b := !y1) rfl (fun c1 => ?_) (fun c1 => ?_)
  · have h := cond_t h c1
    refine sr [(6, vb false)] [] ?_
    refine TriE.ret ?_
    have h := Option.some.inj h
    subst h
    exact DoneS.ret (S' := ⟨[(6, vb false)], []⟩) Sees.refl rfl rfl
  have h := cond_f h c1
  refine TriE.skip ?_
  refine TriE.seq ?_
  refine sj ?_
  refine rn 1 [(0, eS 6 eTask a0), (1, eS 3 eStocked a1), (2, eS 1 vt a2), (20, eS 6 eTask a0)] [] ?_
  obtain ⟨y2, hy2, h⟩ := bind_some h
  refine RegJ.op (Op1.call (y' := vb y2) (obx := []) (oby := []) (ob2 := []) _ _ (cy (I0 21 (.call 15 [(.t 20)]))) rfl (agraffelaw08_Few_ok n a0 y2 hy2) [] (by kernel_rfl) (.cons rfl (.cons rfl .nil)) (by kernel_rfl) (by kernel_rfl) ObsRen.nil (by kernel_rfl) ObsRen.nil (by kernel_rfl)) ?_
  refine rn 2 [(0, eS 6 eTask a0), (1, eS 3 eStocked a1), (2, eS 1 vt a2), (23, vb (!y2))] [] ?_
  refine RegJ.op (Op1.valk (v := eS 3 eStocked a1) _ _ (cy (IG 24 (.mov (.t 1)) 23 false)) rfl (by kernel_rfl) (fun hg => (.cons rfl .nil))) ?_
  obtain ⟨y3, hy3, h⟩ := bind_some h
  refine RegJ.op (Op1.callg (g := !(!y2)) (y' := vb y3) (obx := []) _ _ (cy (IG 25 (.call 16 [(.t 24)]) 23 false)) rfl (fun hg => agraffelaw08_stocked_ok n a1 y3 (gcall_some hy3 hg)) [] (fun hg => by kernel_rfl) (fun hg => (.cons rfl (.cons hg .nil))) (by kernel_rfl) (by kernel_rfl) ObsRen.nil (by kernel_rfl) (by kernel_rfl)) ?_
  refine RegJ.op (Op1.valk (v := vb (!y3)) _ _ (cy (IG 26 (.un .not (.t 25)) 23 false)) rfl (by kernel_rfl) (fun hg => (.cons hg .nil))) ?_
  refine RegJ.op (Op1.or (cy (I0 27 (.pick (.t 23) (.c (.p (.bool true))) (.t 26)))) rfl rfl (by first | exact hokO1 | exact hokO0 | simp)) ?_
  refine rn 1 [(0, eS 6 eTask a0), (1, eS 3 eStocked a1), (2, eS 1 vt a2), (28, vb ((!y2) || (!y3)))] [] ?_
  refine RegJ.op (Op1.valk (v := eS 1 vt a2) _ _ (cy (IG 29 (.mov (.t 2)) 28 false)) rfl (by kernel_rfl) (fun hg => (.cons rfl .nil))) ?_
  obtain ⟨y4, hy4, h⟩ := bind_some h
  refine RegJ.op (Op1.callg (g := !((!y2) || (!y3))) (y' := vb y4) (obx := []) _ _ (cy (IG 30 (.call 17 [(.t 29), (.c (.p (.int .i64 12)))]) 28 false)) rfl (fun hg => agraffelaw08_texts_ok n a2 12 y4 (gcall_some hy4 hg)) [] (fun hg => by kernel_rfl) (fun hg => (.cons rfl (.cons hg (.cons rfl .nil)))) (by kernel_rfl) (by kernel_rfl) ObsRen.nil (by kernel_rfl) (by kernel_rfl)) ?_
  refine RegJ.op (Op1.valk (v := vb (!y4)) _ _ (cy (IG 31 (.un .not (.t 30)) 28 false)) rfl (by kernel_rfl) (fun hg => (.cons hg .nil))) ?_
  refine RegJ.op (Op1.or (cy (I0 32 (.pick (.t 28) (.c (.p (.bool true))) (.t 31)))) rfl rfl (by first | exact hokO1 | exact hokO0 | simp)) ?_
  refine jp [(0, eS 6 eTask a0), (1, eS 3 eStocked a1), (2, eS 1 vt a2), (32, vb (((!y2) || (!y3)) || (!y4)))] ?_
  refine TriE.cond (b := ((!y2) || (!y3)) || (!y4)) rfl (fun c2 => ?_) (fun c2 => ?_)
  · have h := cond_t h c2
    refine sr [(6, vb true)] [] ?_
    refine TriE.ret ?_
    have h := Option.some.inj h
    subst h
    exact DoneS.ret (S' := ⟨[(6, vb true)], []⟩) Sees.refl rfl rfl
  have h := cond_f h c2
  refine TriE.skip ?_
  refine sj ?_
  refine rn 1 [(0, eS 6 eTask a0), (1, eS 3 eStocked a1), (2, eS 1 vt a2), (34, eS 6 eTask a0)] [] ?_
  obtain ⟨y5, hy5, h⟩ := bind_some h
  refine RegJ.op (Op1.call (y' := eS 6 eTask y5) (obx := []) (oby := []) (ob2 := []) _ _ (cy (I0 35 (.call 20 [(.t 34)]))) rfl (agraffelaw08_Copied_ok n a0 y5 hy5) [] (by kernel_rfl) (.cons rfl (.cons rfl .nil)) (by kernel_rfl) (by kernel_rfl) ObsRen.nil (by kernel_rfl) ObsRen.nil (by kernel_rfl)) ?_
  refine rn 1 [(0, eS 6 eTask a0), (1, eS 3 eStocked a1), (2, eS 1 vt a2), (35, eS 6 eTask y5), (36, eS 3 eStocked a1)] [] ?_
  obtain ⟨y6, hy6, h⟩ := bind_some h
  refine RegJ.op (Op1.call (y' := eS 3 eStocked a1) (obx := []) (oby := []) (ob2 := []) _ _ (cy (I0 37 (.call 23 [(.t 36)]))) rfl (agraffelaw08_stock_ok n a1 y6 hy6) [] (by kernel_rfl) (.cons rfl (.cons rfl .nil)) (by kernel_rfl) (by kernel_rfl) ObsRen.nil (by kernel_rfl) ObsRen.nil (by kernel_rfl)) ?_
  refine rn 1 [(0, eS 6 eTask a0), (1, eS 3 eStocked a1), (2, eS 1 vt a2), (35, eS 6 eTask y5), (37, eS 3 eStocked a1), (38, eS 1 vt a2)] [] ?_
  obtain ⟨y7, hy7, h⟩ := bind_some h
  refine RegJ.op (Op1.call (y' := .own 0 0 a2.length) (obx := []) (oby := [some (.row 1 (List.map vt a2))]) (ob2 := [some (.row 1 (List.map vt a2))]) _ _ (cy (I0 39 (.call 18 [(.t 38)]))) rfl (agraffebase_CopyTexts_2_ok n a2 y7 hy7) [] (by kernel_rfl) (.cons rfl (.cons rfl .nil)) (by kernel_rfl) (by kernel_rfl) ObsRen.nil (by kernel_rfl) (.same (row_ren vt_frz _ _ _) .nil) (by kernel_rfl)) ?_
  refine RegJ.sees (Sees.freeze 0 (fr' := [(0, eS 6 eTask a0), (1, eS 3 eStocked a1), (2, eS 1 vt a2), (35, eS 6 eTask y5), (37, eS 3 eStocked a1), (38, eS 1 vt a2), (39, eS 1 vt a2)]) (ob' := [none]) rfl (frz_row vt_frzE _) (.cons (.refl _) (.cons (.refl _) (.cons (.refl _) (.cons (.refl _) (.cons (.refl _) (.cons (.refl _) (.cons (frz_full rfl) .nil))))))) rfl) ?_
  obtain ⟨y8, hy8, h⟩ := bind_some h
  refine RegJ.op (Op1.call (y' := .tup [vi y8.2, vi y8.1]) (obx := []) (oby := []) (ob2 := [none]) _ _ (cy (I0 40 (.call 66 [(.t 35), (.t 37), (.t 39)]))) rfl (restore_Cost_ok n y5 a1 a2 y8 hy8) [] (by kernel_rfl) (.cons rfl (.cons rfl (.cons rfl (.cons rfl .nil)))) (by kernel_rfl) (by kernel_rfl) ObsRen.nil (by kernel_rfl) ObsRen.nil (by kernel_rfl)) ?_
  refine jq 5 [(0, eS 6 eTask a0), (1, eS 3 eStocked a1), (2, eS 1 vt a2), (7, vi y8.2), (8, vi y8.1)] [none] ?_
  refine sj ?_
  refine rn 1 [(0, eS 6 eTask a0), (1, eS 3 eStocked a1), (2, eS 1 vt a2), (7, vi y8.2), (8, vi y8.1), (43, eS 6 eTask a0)] [none] ?_
  obtain ⟨y9, hy9, h⟩ := bind_some h
  refine RegJ.op (Op1.call (y' := vi y9) (obx := []) (oby := []) (ob2 := [none]) _ _ (cy (I0 44 (.call 21 [(.t 43)]))) rfl (agrafferef08_CheckTasks_ok n a0 y9 hy9) [] (by kernel_rfl) (.cons rfl (.cons rfl .nil)) (by kernel_rfl) (by kernel_rfl) ObsRen.nil (by kernel_rfl) ObsRen.nil (by kernel_rfl)) ?_
  refine jq 1 [(0, eS 6 eTask a0), (1, eS 3 eStocked a1), (2, eS 1 vt a2), (7, vi y8.2), (8, vi y8.1), (9, vi y9)] [none] ?_
  refine TriE.seqK h (fun (v11 : Int) => St.mk [(0, eS 6 eTask a0), (1, eS 3 eStocked a1), (2, eS 1 vt a2), (7, vi y8.2), (8, vi y8.1), (9, vi v11)] []) ?_ ?_
  · rintro v11 h
    refine TriE.seqK h (fun (v13 : Int) => St.mk [(0, eS 6 eTask a0), (1, eS 3 eStocked a1), (2, eS 1 vt a2), (7, vi y8.2), (8, vi y8.1), (9, vi v13)] []) ?_ ?_
    · rintro v13 h
      refine TriE.seq ?_
      refine sr [(0, eS 6 eTask a0), (1, eS 3 eStocked a1), (2, eS 1 vt a2), (7, vi y8.2), (8, vi y8.1), (9, vi v13), (55, vb (v13 != (0 : Int)))] [] ?_
      refine TriE.cond (b := (v13 != (0 : Int))) rfl (fun c5 => ?_) (fun c5 => ?_)
      · have h := cond_t h c5
        refine sj ?_
        refine rn 4 [(7, vi y8.2), (59, vb (y8.1 == v13))] [] ?_
        refine RegJ.op (Op1.valk (v := vi y8.2) _ _ (cy (IG 60 (.mov (.t 7)) 59 true)) rfl (by kernel_rfl) (fun hg => (.cons rfl .nil))) ?_
        refine RegJ.op (Op1.valk (v := vb (y8.2 == (0 : Int))) _ _ (cy (IG 61 (.bin .eql false (.t 60) (.c (.p (.int .i64 0)))) 59 true)) rfl (by kernel_rfl) (fun hg => (.cons hg (.cons rfl .nil)))) ?_
        refine RegJ.op (Op1.and (cy (I0 62 (.pick (.t 59) (.t 61) (.c (.p (.bool false)))))) rfl rfl (by first | exact hokA1 | exact hokA0 | simp)) ?_
        refine jq 1 [(6, vb ((y8.1 == v13) && (y8.2 == (0 : Int))))] [] ?_
        refine TriE.ret ?_
        have h := Option.some.inj h
        subst h
        exact DoneS.ret (S' := ⟨[(6, vb ((y8.1 == v13) && (y8.2 == (0 : Int))))], []⟩) Sees.refl rfl rfl
      have h := cond_f h c5
      refine TriE.skip ?_
      refine sj ?_
      refine rn 3 [(0, eS 6 eTask a0), (1, eS 3 eStocked a1), (2, eS 1 vt a2), (7, vi y8.2), (8, vi y8.1), (64, eS 6 eTask a0), (65, eS 3 eStocked a1), (66, eS 1 vt a2)] [] ?_
      obtain ⟨y14, hy14, h⟩ := bind_some h
      refine RegJ.op (Op1.call (y' := .tup [vi y14.1, vb y14.2]) (obx := []) (oby := []) (ob2 := []) _ _ (cy (I0 67 (.call 71 [(.t 64), (.t 65), (.t 66)]))) rfl (agrafferef08_Cost_ok n a0 a1 a2 y14 hy14) [] (by kernel_rfl) (.cons rfl (.cons rfl (.cons rfl (.cons rfl .nil)))) (by kernel_rfl) (by kernel_rfl) ObsRen.nil (by kernel_rfl) ObsRen.nil (by kernel_rfl)) ?_
      refine jq 5 [(0, eS 6 eTask a0), (1, eS 3 eStocked a1), (2, eS 1 vt a2), (7, vi y8.2), (8, vi y8.1), (10, vi y14.1), (11, vb y14.2)] [] ?_
      refine TriE.seq ?_
      refine sr [(0, eS 6 eTask a0), (1, eS 3 eStocked a1), (2, eS 1 vt a2), (7, vi y8.2), (8, vi y8.1), (10, vi y14.1), (71, vb (!y14.2))] [] ?_
      refine TriE.cond (b := !y14.2) rfl (fun c6 => ?_) (fun c6 => ?_)
      · have h := cond_t h c6
        refine sj ?_
        refine rn 3 [(7, vi y8.2), (74, vb (y8.1 == (6 : Int)))] [] ?_
        refine RegJ.op (Op1.valk (v := vi y8.2) _ _ (cy (IG 75 (.mov (.t 7)) 74 true)) rfl (by kernel_rfl) (fun hg => (.cons rfl .nil))) ?_
        refine RegJ.op (Op1.valk (v := vb (y8.2 == (0 : Int))) _ _ (cy (IG 76 (.bin .eql false (.t 75) (.c (.p (.int .i64 0)))) 74 true)) rfl (by kernel_rfl) (fun hg => (.cons hg (.cons rfl .nil)))) ?_
        refine RegJ.op (Op1.and (cy (I0 77 (.pick (.t 74) (.t 76) (.c (.p (.bool false)))))) rfl rfl (by first | exact hokA1 | exact hokA0 | simp)) ?_
        refine jq 1 [(6, vb ((y8.1 == (6 : Int)) && (y8.2 == (0 : Int))))] [] ?_
        refine TriE.ret ?_
        have h := Option.some.inj h
        subst h
        exact DoneS.ret (S' := ⟨[(6, vb ((y8.1 == (6 : Int)) && (y8.2 == (0 : Int))))], []⟩) Sees.refl rfl rfl
      have h := cond_f h c6
      refine TriE.skip ?_
      refine sj ?_
      refine rn 1 [(0, eS 6 eTask a0), (1, eS 3 eStocked a1), (2, eS 1 vt a2), (7, vi y8.2), (8, vi y8.1), (10, vi y14.1), (79, eS 6 eTask a0)] [] ?_
      obtain ⟨y15, hy15, h⟩ := bind_some h
      refine RegJ.op (Op1.call (y' := eS 6 eTask y15) (obx := []) (oby := []) (ob2 := []) _ _ (cy (I0 80 (.call 20 [(.t 79)]))) rfl (agraffelaw08_Copied_ok n a0 y15 hy15) [] (by kernel_rfl) (.cons rfl (.cons rfl .nil)) (by kernel_rfl) (by kernel_rfl) ObsRen.nil (by kernel_rfl) ObsRen.nil (by kernel_rfl)) ?_
      refine rn 1 [(0, eS 6 eTask a0), (1, eS 3 eStocked a1), (2, eS 1 vt a2), (7, vi y8.2), (8, vi y8.1), (10, vi y14.1), (80, eS 6 eTask y15), (81, eS 1 vt a2)] [] ?_
      obtain ⟨y16, hy16, h⟩ := bind_some h
      refine RegJ.op (Op1.call (y' := .own 0 0 a2.length) (obx := []) (oby := [some (.row 1 (List.map vt a2))]) (ob2 := [some (.row 1 (List.map vt a2))]) _ _ (cy (I0 82 (.call 18 [(.t 81)]))) rfl (agraffebase_CopyTexts_2_ok n a2 y16 hy16) [] (by kernel_rfl) (.cons rfl (.cons rfl .nil)) (by kernel_rfl) (by kernel_rfl) ObsRen.nil (by kernel_rfl) (.same (row_ren vt_frz _ _ _) .nil) (by kernel_rfl)) ?_
      refine RegJ.sees (Sees.freeze 0 (fr' := [(0, eS 6 eTask a0), (1, eS 3 eStocked a1), (2, eS 1 vt a2), (7, vi y8.2), (8, vi y8.1), (10, vi y14.1), (80, eS 6 eTask y15), (81, eS 1 vt a2), (82, eS 1 vt a2)]) (ob' := [none]) rfl (frz_row vt_frzE _) (.cons (.refl _) (.cons (.refl _) (.cons (.refl _) (.cons (.refl _) (.cons (.refl _) (.cons (.refl _) (.cons (.refl _) (.cons (.refl _) (.cons (frz_full rfl) .nil))))))))) rfl) ?_
      obtain ⟨y17, hy17, h⟩ := bind_some h
      refine RegJ.op (Op1.call (y' := .tup [eS 2 ePartCount y17.2, vi y17.1]) (obx := []) (oby := []) (ob2 := [none]) _ _ (cy (I0 83 (.call 72 [(.t 80), (.t 82)]))) rfl (restore_PartsOf_ok n y15 a2 y17 hy17) [] (by kernel_rfl) (.cons rfl (.cons rfl (.cons rfl .nil))) (by kernel_rfl) (by kernel_rfl) ObsRen.nil (by kernel_rfl) ObsRen.nil (by kernel_rfl)) ?_
      refine jq 5 [(0, eS 6 eTask a0), (1, eS 3 eStocked a1), (2, eS 1 vt a2), (7, vi y8.2), (8, vi y8.1), (10, vi y14.1), (12, eS 2 ePartCount y17.2), (13, vi y17.1)] [none] ?_
      refine sr [(0, eS 6 eTask a0), (1, eS 3 eStocked a1), (2, eS 1 vt a2), (7, vi y8.2), (8, vi y8.1), (10, vi y14.1), (12, eS 2 ePartCount y17.2), (13, vi y17.1), (14, vi 0)] [none] ?_
      refine TriE.seqK h (fun (v22 : Int) => St.mk [(1, eS 3 eStocked a1), (7, vi y8.2), (8, vi y8.1), (10, vi y14.1), (12, eS 2 ePartCount y17.2), (13, vi y17.1), (14, vi v22)] []) ?_ ?_
      · rintro v22 h
        refine TriE.seqK h (fun (v27 : Int) => St.mk [(7, vi y8.2), (8, vi y8.1), (10, vi y14.1), (13, vi y17.1), (14, vi v27)] []) ?_ ?_
        · rintro v27 h
          refine sj ?_
          refine rn 3 [(7, vi y8.2), (10, vi y14.1), (13, vi y17.1), (14, vi v27), (134, vb (y8.1 == (0 : Int)))] [] ?_
          refine RegJ.op (Op1.valk (v := vi y8.2) _ _ (cy (IG 135 (.mov (.t 7)) 134 true)) rfl (by kernel_rfl) (fun hg => (.cons rfl .nil))) ?_
          refine RegJ.op (Op1.valk (v := vi y14.1) _ _ (cy (IG 136 (.mov (.t 10)) 134 true)) rfl (by kernel_rfl) (fun hg => (.cons rfl .nil))) ?_
          refine RegJ.op (Op1.valk (v := vb (y8.2 == y14.1)) _ _ (cy (IG 137 (.bin .eql false (.t 135) (.t 136)) 134 true)) rfl (by kernel_rfl) (fun hg => (.cons hg (.cons hg .nil)))) ?_
          refine RegJ.op (Op1.and (cy (I0 138 (.pick (.t 134) (.t 137) (.c (.p (.bool false)))))) rfl rfl (by first | exact hokA1 | exact hokA0 | simp)) ?_
          refine rn 1 [(10, vi y14.1), (13, vi y17.1), (14, vi v27), (139, vb ((y8.1 == (0 : Int)) && (y8.2 == y14.1)))] [] ?_
          refine RegJ.op (Op1.valk (v := vi y17.1) _ _ (cy (IG 140 (.mov (.t 13)) 139 true)) rfl (by kernel_rfl) (fun hg => (.cons rfl .nil))) ?_
          refine RegJ.op (Op1.valk (v := vb (y17.1 == (0 : Int))) _ _ (cy (IG 141 (.bin .eql false (.t 140) (.c (.p (.int .i64 0)))) 139 true)) rfl (by kernel_rfl) (fun hg => (.cons hg (.cons rfl .nil)))) ?_
          refine RegJ.op (Op1.and (cy (I0 142 (.pick (.t 139) (.t 141) (.c (.p (.bool false)))))) rfl rfl (by first | exact hokA1 | exact hokA0 | simp)) ?_
          refine rn 1 [(10, vi y14.1), (14, vi v27), (143, vb (((y8.1 == (0 : Int)) && (y8.2 == y14.1)) && (y17.1 == (0 : Int))))] [] ?_
          refine RegJ.op (Op1.valk (v := vi v27) _ _ (cy (IG 144 (.mov (.t 14)) 143 true)) rfl (by kernel_rfl) (fun hg => (.cons rfl .nil))) ?_
          refine RegJ.op (Op1.valk (v := vi y14.1) _ _ (cy (IG 145 (.mov (.t 10)) 143 true)) rfl (by kernel_rfl) (fun hg => (.cons rfl .nil))) ?_
          refine RegJ.op (Op1.valk (v := vb (v27 == y14.1)) _ _ (cy (IG 146 (.bin .eql false (.t 144) (.t 145)) 143 true)) rfl (by kernel_rfl) (fun hg => (.cons hg (.cons hg .nil)))) ?_
          refine RegJ.op (Op1.and (cy (I0 147 (.pick (.t 143) (.t 146) (.c (.p (.bool false)))))) rfl rfl (by first | exact hokA1 | exact hokA0 | simp)) ?_
          refine jq 1 [(6, vb ((((y8.1 == (0 : Int)) && (y8.2 == y14.1)) && (y17.1 == (0 : Int))) && (v27 == y14.1)))] [] ?_
          refine TriE.ret ?_
          have h := Option.some.inj h
          subst h
          exact DoneS.ret (S' := ⟨[(6, vb ((((y8.1 == (0 : Int)) && (y8.2 == y14.1)) && (y17.1 == (0 : Int))) && (v27 == y14.1)))], []⟩) Sees.refl rfl rfl
        intro k4 h
        refine sr [(1, eS 3 eStocked a1), (7, vi y8.2), (8, vi y8.1), (10, vi y14.1), (12, eS 2 ePartCount y17.2), (13, vi y17.1), (14, vi v22), (16, vi 0)] [] ?_
        refine TriE.block ?_
        refine TriE.sees (S' := ⟨[(1, eS 3 eStocked a1), (7, vi y8.2), (8, vi y8.1), (10, vi y14.1), (12, eS 2 ePartCount y17.2), (13, vi y17.1), (14, vi v22), (16, vi 0)], []⟩) sy ?_
        refine TriE.loopN h (fun (t : Int × Nat) => match t with | (v24, v25) => St.mk [(1, eS 3 eStocked a1), (7, vi y8.2), (8, vi y8.1), (10, vi y14.1), (12, eS 2 ePartCount y17.2), (13, vi y17.1), (14, vi v24), (16, vi v25)] []) rfl ?_
        clear h
        rintro back ⟨v24, v25⟩ h
        dsimp only [agraffelaw08_RestoreCosts_L2] at h
        refine TriE.seq ?_
        refine sj ?_
        refine rn 2 [(1, eS 3 eStocked a1), (7, vi y8.2), (8, vi y8.1), (10, vi y14.1), (12, eS 2 ePartCount y17.2), (13, vi y17.1), (14, vi v24), (16, vi v25), (104, vi v25), (105, eS 2 ePartCount y17.2)] [] ?_
        refine jv (vi ((y17.2.length : Nat) : Int)) (cy (I0 106 (.len 0 (.t 105)))) (ok_len_m rfl) rfl ?_
        refine jv (vb (decide (v25 < y17.2.length))) (cy (I0 107 (.bin .lss false (.t 104) (.t 106)))) (n_lss (i := v25) (j := y17.2.length) rfl rfl) rfl ?_
        refine jp [(1, eS 3 eStocked a1), (7, vi y8.2), (8, vi y8.1), (10, vi y14.1), (12, eS 2 ePartCount y17.2), (13, vi y17.1), (14, vi v24), (16, vi v25), (107, vb (decide (v25 < y17.2.length)))] ?_
        refine TriE.cond (b := decide (v25 < y17.2.length)) rfl (fun c12 => ?_) (fun c12 => ?_)
        · have h := cond_t h c12
          refine TriE.skip ?_
          refine TriE.seq ?_
          refine TriE.block ?_
          refine sj ?_
          refine rn 3 [(1, eS 3 eStocked a1), (7, vi y8.2), (8, vi y8.1), (10, vi y14.1), (12, eS 2 ePartCount y17.2), (13, vi y17.1), (14, vi v24), (16, vi v25), (110, eS 3 eStocked a1), (111, eS 2 ePartCount y17.2), (112, vi v25)] [] ?_
          refine jv (.fptr 2 (List.map ePartCount y17.2) v25 0) (cy (I0 113 (.iaddr 2 (.t 111) (.t 112)))) (ok_iaddr_m (j := v25) rfl rfl rfl c12) rfl ?_
          refine rn 1 [(1, eS 3 eStocked a1), (7, vi y8.2), (8, vi y8.1), (10, vi y14.1), (12, eS 2 ePartCount y17.2), (13, vi y17.1), (14, vi v24), (16, vi v25), (110, eS 3 eStocked a1), (114, .fptr 2 (List.map ePartCount y17.2) v25 0)] [] ?_
          refine jv (vt ((ix y17.2 v25).Part)) (cy (I0 115 (.load false 1 (.t 114)))) (ok_load_fm (v := vt ((ix y17.2 v25).Part)) rfl c12 rfl) rfl ?_
          obtain ⟨y26, hy26, h⟩ := bind_some h
          refine RegJ.op (Op1.call (y' := vi y26) (obx := []) (oby := []) (ob2 := []) _ _ (cy (I0 116 (.call 74 [(.t 110), (.t 115)]))) rfl (agrafferef08_FindStock_ok n a1 ((ix y17.2 v25).Part) y26 hy26) [] (by kernel_rfl) (.cons rfl (.cons rfl (.cons rfl .nil))) (by kernel_rfl) (by kernel_rfl) ObsRen.nil (by kernel_rfl) ObsRen.nil (by kernel_rfl)) ?_
          refine jq 1 [(1, eS 3 eStocked a1), (7, vi y8.2), (8, vi y8.1), (10, vi y14.1), (12, eS 2 ePartCount y17.2), (13, vi y17.1), (14, vi v24), (16, vi v25), (17, vi y26)] [] ?_
          refine TriE.seq ?_
          refine sr [(1, eS 3 eStocked a1), (7, vi y8.2), (8, vi y8.1), (10, vi y14.1), (12, eS 2 ePartCount y17.2), (13, vi y17.1), (14, vi v24), (16, vi v25), (17, vi y26), (118, vb (decide (y26 < (0 : Int))))] [] ?_
          refine TriE.cond (b := decide (y26 < (0 : Int))) rfl (fun c13 => ?_) (fun c13 => ?_)
          · have h := cond_t h c13
            refine sr [(6, vb false)] [] ?_
            refine TriE.ret ?_
            have h := Option.some.inj h
            subst h
            exact DoneS.ret (S' := ⟨[(6, vb false)], []⟩) Sees.refl rfl rfl
          have h := cond_f h c13
          refine TriE.skip ?_
          refine TriE.sees (Sees.less (fr' := [(1, eS 3 eStocked a1), (7, vi y8.2), (8, vi y8.1), (10, vi y14.1), (12, eS 2 ePartCount y17.2), (13, vi y17.1), (14, vi v24), (16, vi v25), (17, vi y26)]) (.cons rfl (.cons rfl (.cons rfl (.cons rfl (.cons rfl (.cons rfl (.cons rfl (.cons rfl (.cons rfl .nil)))))))))) ?_
          refine TriE.draw (by kernel_rfl) ?_
          refine RegD.run 3 [(121, vi v25), (120, eS 2 ePartCount y17.2), (119, vi v24), (1, eS 3 eStocked a1), (7, vi y8.2), (8, vi y8.1), (10, vi y14.1), (12, eS 2 ePartCount y17.2), (13, vi y17.1), (14, vi v24), (16, vi v25), (17, vi y26)] [none, none, none] (by kernel_rfl) ?_
          refine dv (.fptr 2 (List.map ePartCount y17.2) v25 0) (cy (I0 122 (.iaddr 2 (.t 120) (.t 121)))) (ok_iaddr_m (j := v25) rfl rfl rfl c12) rfl ?_
          refine RegD.run 1 [(123, .fptr 2 (List.map ePartCount y17.2) v25 1), (122, .fptr 2 (List.map ePartCount y17.2) v25 0), (121, vi v25), (120, eS 2 ePartCount y17.2), (119, vi v24), (1, eS 3 eStocked a1), (7, vi y8.2), (8, vi y8.1), (10, vi y14.1), (12, eS 2 ePartCount y17.2), (13, vi y17.1), (14, vi v24), (16, vi v25), (17, vi y26)] [none, none, none, none, none] (by kernel_rfl) ?_
          refine dv (vi ((ix y17.2 v25).Count)) (cy (I0 124 (.load false 1 (.t 123)))) (ok_load_fm (v := vi ((ix y17.2 v25).Count)) rfl c12 rfl) rfl ?_
          refine RegD.run 2 [(126, vi y26), (125, eS 3 eStocked a1), (124, vi ((ix y17.2 v25).Count)), (123, .fptr 2 (List.map ePartCount y17.2) v25 1), (122, .fptr 2 (List.map ePartCount y17.2) v25 0), (121, vi v25), (120, eS 2 ePartCount y17.2), (119, vi v24), (1, eS 3 eStocked a1), (7, vi y8.2), (8, vi y8.1), (10, vi y14.1), (12, eS 2 ePartCount y17.2), (13, vi y17.1), (14, vi v24), (16, vi v25), (17, vi y26)] [none, none, none, none, none, none, none, none] (by kernel_rfl) ?_
          obtain ⟨c14, h⟩ := chk_some h
          refine dv (.fptr 3 (List.map eStocked a1) y26.toNat 0) (cy (I0 127 (.iaddr 3 (.t 125) (.t 126)))) (ok_iaddr_m (j := y26.toNat) rfl rfl (inB_to c14) (inB_lt c14)) rfl ?_
          refine RegD.run 1 [(128, .fptr 3 (List.map eStocked a1) y26.toNat 1), (127, .fptr 3 (List.map eStocked a1) y26.toNat 0), (126, vi y26), (125, eS 3 eStocked a1), (124, vi ((ix y17.2 v25).Count)), (123, .fptr 2 (List.map ePartCount y17.2) v25 1), (122, .fptr 2 (List.map ePartCount y17.2) v25 0), (121, vi v25), (120, eS 2 ePartCount y17.2), (119, vi v24), (1, eS 3 eStocked a1), (7, vi y8.2), (8, vi y8.1), (10, vi y14.1), (12, eS 2 ePartCount y17.2), (13, vi y17.1), (14, vi v24), (16, vi v25), (17, vi y26)] [none, none, none, none, none, none, none, none, none, none] (by kernel_rfl) ?_
          obtain ⟨c15, h⟩ := chk_some h
          refine dv (vi ((ix a1 y26.toNat).Cents)) (cy (I0 129 (.load false 1 (.t 128)))) (ok_load_fm (v := vi ((ix a1 y26.toNat).Cents)) rfl c15 rfl) rfl ?_
          obtain ⟨c16, h⟩ := chk_some h
          refine dv (vi (((ix y17.2 v25).Count) * ((ix a1 y26.toNat).Cents))) (cy (I0 130 (.bin .mul false (.t 124) (.t 129)))) (r_mul rfl rfl c16) rfl ?_
          obtain ⟨c17, h⟩ := chk_some h
          refine dv (vi (v24 + (((ix y17.2 v25).Count) * ((ix a1 y26.toNat).Cents)))) (cy (I0 131 (.bin .add false (.t 119) (.t 130)))) (r_add rfl rfl c17) rfl ?_
          refine RegD.run 1 [(14, vi (v24 + (((ix y17.2 v25).Count) * ((ix a1 y26.toNat).Cents)))), (131, vi (v24 + (((ix y17.2 v25).Count) * ((ix a1 y26.toNat).Cents)))), (130, vi (((ix y17.2 v25).Count) * ((ix a1 y26.toNat).Cents))), (129, vi ((ix a1 y26.toNat).Cents)), (128, .fptr 3 (List.map eStocked a1) y26.toNat 1), (127, .fptr 3 (List.map eStocked a1) y26.toNat 0), (126, vi y26), (125, eS 3 eStocked a1), (124, vi ((ix y17.2 v25).Count)), (123, .fptr 2 (List.map ePartCount y17.2) v25 1), (122, .fptr 2 (List.map ePartCount y17.2) v25 0), (121, vi v25), (120, eS 2 ePartCount y17.2), (119, vi v24), (1, eS 3 eStocked a1), (7, vi y8.2), (8, vi y8.1), (10, vi y14.1), (12, eS 2 ePartCount y17.2), (13, vi y17.1), (14, vi v24), (16, vi v25), (17, vi y26)] [none, none, none, none, none, none, none, none, none, none, none, none, none, none] (by kernel_rfl) ?_
          refine RegD.done rfl (by kernel_rfl) (S' := ⟨[(1, eS 3 eStocked a1), (7, vi y8.2), (8, vi y8.1), (10, vi y14.1), (12, eS 2 ePartCount y17.2), (13, vi y17.1), (16, vi v25), (14, vi (v24 + (((ix y17.2 v25).Count) * ((ix a1 y26.toNat).Cents))))], []⟩) (sc [] (by decide) (by kernel_rfl) ObRen.nil rfl rfl) ?_
          refine TriE.regJ ?_
          refine rn 1 [(1, eS 3 eStocked a1), (7, vi y8.2), (8, vi y8.1), (10, vi y14.1), (12, eS 2 ePartCount y17.2), (13, vi y17.1), (14, vi (v24 + (((ix y17.2 v25).Count) * ((ix a1 y26.toNat).Cents)))), (108, vi v25)] [] ?_
          obtain ⟨c18, h⟩ := chk_some h
          refine jv (vi ((v25 + 1 : Nat) : Int)) (cy (I0 109 (.bin .add false (.t 108) (.c (.p (.int .i64 1)))))) (r_addn (i := v25) (j := 1) rfl rfl c18) rfl ?_
          refine jq 1 [(1, eS 3 eStocked a1), (7, vi y8.2), (8, vi y8.1), (10, vi y14.1), (12, eS 2 ePartCount y17.2), (13, vi y17.1), (14, vi (v24 + (((ix y17.2 v25).Count) * ((ix a1 y26.toNat).Cents)))), (16, vi ((v25 + 1 : Nat) : Int))] [] ?_
          exact Vs.intro sy ⟨(v24 + (((ix y17.2 v25).Count) * ((ix a1 y26.toNat).Cents)), v25 + 1), rfl, h⟩
        have h := cond_f h c12
        refine TriE.exit ?_
        exact Vs.intro sy ⟨v24, rfl, h⟩
      intro k3 h
      refine sr [(0, eS 6 eTask a0), (1, eS 3 eStocked a1), (2, eS 1 vt a2), (7, vi y8.2), (8, vi y8.1), (10, vi y14.1), (12, eS 2 ePartCount y17.2), (13, vi y17.1), (14, vi 0), (15, vi 0)] [none] ?_
      refine TriE.block ?_
      refine TriE.sees (S' := ⟨[(0, eS 6 eTask a0), (1, eS 3 eStocked a1), (2, eS 1 vt a2), (7, vi y8.2), (8, vi y8.1), (10, vi y14.1), (12, eS 2 ePartCount y17.2), (13, vi y17.1), (14, vi 0), (15, vi 0)], []⟩) (sc [] (by decide) (by kernel_rfl) ObRen.nil rfl rfl) ?_
      refine TriE.loopN h (fun (t : Int × Nat) => match t with | (v19, v20) => St.mk [(0, eS 6 eTask a0), (1, eS 3 eStocked a1), (2, eS 1 vt a2), (7, vi y8.2), (8, vi y8.1), (10, vi y14.1), (12, eS 2 ePartCount y17.2), (13, vi y17.1), (14, vi v19), (15, vi v20)] []) rfl ?_
      clear h
      rintro back ⟨v19, v20⟩ h
      dsimp only [agraffelaw08_RestoreCosts_L1] at h
      refine TriE.seq ?_
      refine sj ?_
      refine rn 2 [(0, eS 6 eTask a0), (1, eS 3 eStocked a1), (2, eS 1 vt a2), (7, vi y8.2), (8, vi y8.1), (10, vi y14.1), (12, eS 2 ePartCount y17.2), (13, vi y17.1), (14, vi v19), (15, vi v20), (86, vi v20), (87, eS 1 vt a2)] [] ?_
      refine jv (vi (a2.length : Int)) (cy (I0 88 (.len 0 (.t 87)))) (ok_len_m rfl) rfl ?_
      refine jv (vb (decide (v20 < a2.length))) (cy (I0 89 (.bin .lss false (.t 86) (.t 88)))) (n_lss (i := v20) (j := a2.length) rfl rfl) rfl ?_
      refine jp [(0, eS 6 eTask a0), (1, eS 3 eStocked a1), (2, eS 1 vt a2), (7, vi y8.2), (8, vi y8.1), (10, vi y14.1), (12, eS 2 ePartCount y17.2), (13, vi y17.1), (14, vi v19), (15, vi v20), (89, vb (decide (v20 < a2.length)))] ?_
      refine TriE.cond (b := decide (v20 < a2.length)) rfl (fun c7 => ?_) (fun c7 => ?_)
      · have h := cond_t h c7
        refine TriE.skip ?_
        refine TriE.seq ?_
        refine TriE.block ?_
        refine TriE.regJ ?_
        refine rn 5 [(0, eS 6 eTask a0), (1, eS 3 eStocked a1), (2, eS 1 vt a2), (7, vi y8.2), (8, vi y8.1), (10, vi y14.1), (12, eS 2 ePartCount y17.2), (13, vi y17.1), (15, vi v20), (92, vi v19), (93, eS 6 eTask a0), (94, eS 6 eTask a0), (95, eS 1 vt a2), (96, vi v20)] [] ?_
        refine jv (.fptr 1 (List.map vt a2) v20 0) (cy (I0 97 (.iaddr 1 (.t 95) (.t 96)))) (ok_iaddr_m (j := v20) rfl rfl rfl c7) rfl ?_
        refine jv (vt (ix a2 v20)) (cy (I0 98 (.load false 1 (.t 97)))) (ok_load_fm (v := vt (ix a2 v20)) rfl c7 rfl) rfl ?_
        obtain ⟨y21, hy21, h⟩ := bind_some h
        refine RegJ.op (Op1.call (y' := vi y21) (obx := []) (oby := []) (ob2 := []) _ _ (cy (I0 99 (.call 73 [(.t 94), (.t 98)]))) rfl (agrafferef08_Find_ok n a0 (ix a2 v20) y21 hy21) [] (by kernel_rfl) (.cons rfl (.cons rfl (.cons rfl .nil))) (by kernel_rfl) (by kernel_rfl) ObsRen.nil (by kernel_rfl) ObsRen.nil (by kernel_rfl)) ?_
        obtain ⟨c8, h⟩ := chk_some h
        refine jv (.fptr 6 (List.map eTask a0) y21.toNat 0) (cy (I0 100 (.iaddr 6 (.t 93) (.t 99)))) (ok_iaddr_m (j := y21.toNat) rfl rfl (inB_to c8) (inB_lt c8)) rfl ?_
        refine rn 1 [(0, eS 6 eTask a0), (1, eS 3 eStocked a1), (2, eS 1 vt a2), (7, vi y8.2), (8, vi y8.1), (10, vi y14.1), (12, eS 2 ePartCount y17.2), (13, vi y17.1), (15, vi v20), (92, vi v19), (101, .fptr 6 (List.map eTask a0) y21.toNat 1)] [] ?_
        obtain ⟨c9, h⟩ := chk_some h
        refine jv (vi ((ix a0 y21.toNat).Cents)) (cy (I0 102 (.load false 1 (.t 101)))) (ok_load_fm (v := vi ((ix a0 y21.toNat).Cents)) rfl c9 rfl) rfl ?_
        obtain ⟨c10, h⟩ := chk_some h
        refine jv (vi (v19 + ((ix a0 y21.toNat).Cents))) (cy (I0 103 (.bin .add false (.t 92) (.t 102)))) (r_add rfl rfl c10) rfl ?_
        refine jq 1 [(0, eS 6 eTask a0), (1, eS 3 eStocked a1), (2, eS 1 vt a2), (7, vi y8.2), (8, vi y8.1), (10, vi y14.1), (12, eS 2 ePartCount y17.2), (13, vi y17.1), (15, vi v20), (14, vi (v19 + ((ix a0 y21.toNat).Cents)))] [] ?_
        refine TriE.regJ ?_
        refine rn 1 [(0, eS 6 eTask a0), (1, eS 3 eStocked a1), (2, eS 1 vt a2), (7, vi y8.2), (8, vi y8.1), (10, vi y14.1), (12, eS 2 ePartCount y17.2), (13, vi y17.1), (14, vi (v19 + ((ix a0 y21.toNat).Cents))), (90, vi v20)] [] ?_
        obtain ⟨c11, h⟩ := chk_some h
        refine jv (vi ((v20 + 1 : Nat) : Int)) (cy (I0 91 (.bin .add false (.t 90) (.c (.p (.int .i64 1)))))) (r_addn (i := v20) (j := 1) rfl rfl c11) rfl ?_
        refine jq 1 [(0, eS 6 eTask a0), (1, eS 3 eStocked a1), (2, eS 1 vt a2), (7, vi y8.2), (8, vi y8.1), (10, vi y14.1), (12, eS 2 ePartCount y17.2), (13, vi y17.1), (14, vi (v19 + ((ix a0 y21.toNat).Cents))), (15, vi ((v20 + 1 : Nat) : Int))] [] ?_
        exact Vs.intro sy ⟨(v19 + ((ix a0 y21.toNat).Cents), v20 + 1), rfl, h⟩
      have h := cond_f h c7
      refine TriE.exit ?_
      exact Vs.intro sy ⟨v19, rfl, h⟩
    intro k2 h
    refine sr [(0, eS 6 eTask a0), (1, eS 3 eStocked a1), (2, eS 1 vt a2), (7, vi y8.2), (8, vi y8.1), (9, vi v11), (50, vb (v11 == (0 : Int)))] [] ?_
    refine TriE.cond (b := (v11 == (0 : Int))) rfl (fun c4 => ?_) (fun c4 => ?_)
    · have h := cond_t h c4
      refine TriE.regJ ?_
      refine rn 2 [(0, eS 6 eTask a0), (1, eS 3 eStocked a1), (2, eS 1 vt a2), (7, vi y8.2), (8, vi y8.1), (51, eS 6 eTask a0), (52, eS 1 vt a2)] [] ?_
      obtain ⟨y12, hy12, h⟩ := bind_some h
      refine RegJ.op (Op1.call (y' := vi y12) (obx := []) (oby := []) (ob2 := []) _ _ (cy (I0 53 (.call 54 [(.t 51), (.t 52)]))) rfl (agrafferef08_CheckSet_ok n a0 a2 y12 hy12) [] (by kernel_rfl) (.cons rfl (.cons rfl (.cons rfl .nil))) (by kernel_rfl) (by kernel_rfl) ObsRen.nil (by kernel_rfl) ObsRen.nil (by kernel_rfl)) ?_
      refine jq 1 [(0, eS 6 eTask a0), (1, eS 3 eStocked a1), (2, eS 1 vt a2), (7, vi y8.2), (8, vi y8.1), (9, vi y12)] [] ?_
      exact Vs.intro Sees.refl ⟨y12, rfl, h⟩
    have h := cond_f h c4
    refine TriE.skip ?_
    exact Vs.intro sy ⟨v11, rfl, h⟩
  intro k1 h
  refine sr [(0, eS 6 eTask a0), (1, eS 3 eStocked a1), (2, eS 1 vt a2), (7, vi y8.2), (8, vi y8.1), (9, vi y9), (46, vb (y9 == (0 : Int)))] [none] ?_
  refine TriE.cond (b := (y9 == (0 : Int))) rfl (fun c3 => ?_) (fun c3 => ?_)
  · have h := cond_t h c3
    refine TriE.regJ ?_
    refine rn 1 [(0, eS 6 eTask a0), (1, eS 3 eStocked a1), (2, eS 1 vt a2), (7, vi y8.2), (8, vi y8.1), (47, eS 3 eStocked a1)] [none] ?_
    obtain ⟨y10, hy10, h⟩ := bind_some h
    refine RegJ.op (Op1.call (y' := vi y10) (obx := []) (oby := []) (ob2 := [none]) _ _ (cy (I0 48 (.call 24 [(.t 47)]))) rfl (agrafferef08_CheckStock_ok n a1 y10 hy10) [] (by kernel_rfl) (.cons rfl (.cons rfl .nil)) (by kernel_rfl) (by kernel_rfl) ObsRen.nil (by kernel_rfl) ObsRen.nil (by kernel_rfl)) ?_
    refine jq 1 [(0, eS 6 eTask a0), (1, eS 3 eStocked a1), (2, eS 1 vt a2), (7, vi y8.2), (8, vi y8.1), (9, vi y10)] [none] ?_
    exact Vs.intro (sc [] (by decide) (by kernel_rfl) ObRen.nil rfl rfl) ⟨y10, rfl, h⟩
  have h := cond_f h c3
  refine TriE.skip ?_
  exact Vs.intro (sc [] (by decide) (by kernel_rfl) ObRen.nil rfl rfl) ⟨y9, rfl, h⟩
end Go.Proofs.YtcdcpambkdlhjaaGreat.As
