/- The code computes what the plain functions say, part 2: no condition. -/
import Derived.Test.YtcdcpambkdlhjaaGreatWalk1
namespace Go.Proofs.YtcdcpambkdlhjaaGreat.As
open Go Go.Proofs
set_option maxRecDepth 4000
theorem agrafferef08_task_ok (n : Nat) (a0 : List Task) (a1 : Int) (r : Int) (h : agrafferef08_task n a0 a1 = some r) : FnL Tryz.prog 88 [eS 6 eTask a0, vi a1] [] (vi r) [] := by
  dsimp only [agrafferef08_task] at h
  refine FnL.ofS (ts := [4]) Tryz.call88 Tryz.func88 rfl rfl (Nat.le_of_ble_eq_true rfl) (Nat.le_of_ble_eq_true rfl) (fun j h => absurd h (Nat.not_lt_zero j)) ?_
  refine sr [(0, eS 6 eTask a0), (1, vi a1)] [] ?_
  refine sj ?_
  refine rn 2 [(0, eS 6 eTask a0), (1, vi a1), (11, eS 6 eTask a0), (12, vi a1)] [] ?_
  obtain ⟨c1, h⟩ := chk_some h
  refine jv (.fptr 6 (List.map eTask a0) a1.toNat 0) (cy (I0 13 (.iaddr 6 (.t 11) (.t 12)))) (ok_iaddr_m (j := a1.toNat) rfl rfl (inB_to c1) (inB_lt c1)) rfl ?_
  obtain ⟨c2, h⟩ := chk_some h
  refine jv (.agg [vt ((ix a0 a1.toNat).Name), vi ((ix a0 a1.toNat).Cents), vi ((ix a0 a1.toNat).Hours), eS 1 vt ((ix a0 a1.toNat).Needs), eS 1 (eS 1 vt) ((ix a0 a1.toNat).OneOf), eS 2 ePartCount ((ix a0 a1.toNat).Parts)]) (cy (I0 14 (.load true 6 (.t 13)))) (ok_load_fm (v := .agg [vt ((ix a0 a1.toNat).Name), vi ((ix a0 a1.toNat).Cents), vi ((ix a0 a1.toNat).Hours), eS 1 vt ((ix a0 a1.toNat).Needs), eS 1 (eS 1 vt) ((ix a0 a1.toNat).OneOf), eS 2 ePartCount ((ix a0 a1.toNat).Parts)]) rfl c2 rfl) rfl ?_
  refine jq 2 [(0, eS 6 eTask a0), (1, vi a1), (5, .ptr 0 0 0)] [some (.row 6 [.agg [vt ((ix a0 a1.toNat).Name), vi ((ix a0 a1.toNat).Cents), vi ((ix a0 a1.toNat).Hours), eS 1 vt ((ix a0 a1.toNat).Needs), eS 1 (eS 1 vt) ((ix a0 a1.toNat).OneOf), eS 2 ePartCount ((ix a0 a1.toNat).Parts)]])] ?_
  refine TriE.seq ?_
  refine sj ?_
  refine rn 2 [(0, eS 6 eTask a0), (1, vi a1), (5, .ptr 0 0 0), (16, vt ((ix a0 a1.toNat).Name))] [some (.row 6 [.agg [vt ((ix a0 a1.toNat).Name), vi ((ix a0 a1.toNat).Cents), vi ((ix a0 a1.toNat).Hours), eS 1 vt ((ix a0 a1.toNat).Needs), eS 1 (eS 1 vt) ((ix a0 a1.toNat).OneOf), eS 2 ePartCount ((ix a0 a1.toNat).Parts)]])] ?_
  obtain ⟨y1, hy1, h⟩ := bind_some h
  refine RegJ.op (Op1.call (y' := vb y1) (obx := []) (oby := []) (ob2 := [some (.row 6 [.agg [vt ((ix a0 a1.toNat).Name), vi ((ix a0 a1.toNat).Cents), vi ((ix a0 a1.toNat).Hours), eS 1 vt ((ix a0 a1.toNat).Needs), eS 1 (eS 1 vt) ((ix a0 a1.toNat).OneOf), eS 2 ePartCount ((ix a0 a1.toNat).Parts)]])]) _ _ (cy (I0 17 (.call 92 [(.t 16)]))) rfl (agraffebase_IsName_ok n ((ix a0 a1.toNat).Name) y1 hy1) [] (by kernel_rfl) (.cons rfl (.cons rfl .nil)) (by kernel_rfl) (by kernel_rfl) ObsRen.nil (by kernel_rfl) ObsRen.nil (by kernel_rfl)) ?_
  refine jq 1 [(0, eS 6 eTask a0), (1, vi a1), (5, .ptr 0 0 0), (18, vb (!y1))] [some (.row 6 [.agg [vt ((ix a0 a1.toNat).Name), vi ((ix a0 a1.toNat).Cents), vi ((ix a0 a1.toNat).Hours), eS 1 vt ((ix a0 a1.toNat).Needs), eS 1 (eS 1 vt) ((ix a0 a1.toNat).OneOf), eS 2 ePartCount ((ix a0 a1.toNat).Parts)]])] ?_
  refine TriE.cond (b := !y1) rfl (fun c3 => ?_) (fun c3 => ?_)
  · have h := cond_t h c3
    refine sr [(4, vi 4)] [some (.row 6 [.agg [vt ((ix a0 a1.toNat).Name), vi ((ix a0 a1.toNat).Cents), vi ((ix a0 a1.toNat).Hours), eS 1 vt ((ix a0 a1.toNat).Needs), eS 1 (eS 1 vt) ((ix a0 a1.toNat).OneOf), eS 2 ePartCount ((ix a0 a1.toNat).Parts)]])] ?_
    refine TriE.ret ?_
    have h := Option.some.inj h
    subst h
    exact DoneS.ret (S' := ⟨[(4, vi 4)], []⟩) (sc [] (by decide) (by kernel_rfl) ObRen.nil rfl rfl) rfl rfl
  have h := cond_f h c3
  refine TriE.skip ?_
  refine TriE.seq ?_
  refine TriE.seq ?_
  refine TriE.sees (Sees.less (fr' := [(0, eS 6 eTask a0), (1, vi a1), (5, .ptr 0 0 0)]) (.cons rfl (.cons rfl (.cons rfl .nil)))) ?_
  refine TriE.draw (by kernel_rfl) ?_
  refine RegD.run 2 [(20, vi a1), (19, eS 6 eTask a0), (0, eS 6 eTask a0), (1, vi a1), (5, .ptr 0 0 0)] [some (.row 6 [.agg [vt ((ix a0 a1.toNat).Name), vi ((ix a0 a1.toNat).Cents), vi ((ix a0 a1.toNat).Hours), eS 1 vt ((ix a0 a1.toNat).Needs), eS 1 (eS 1 vt) ((ix a0 a1.toNat).OneOf), eS 2 ePartCount ((ix a0 a1.toNat).Parts)]]), none, none] (by kernel_rfl) ?_
  obtain ⟨c4, h⟩ := chk_some h
  refine dv (eS 6 eTask (List.take a1.toNat a0)) (cy (I0 21 (.slc 6 (.t 19) none (some (.t 20)) none))) (ok_slc_hi (j := a1.toNat) rfl rfl (inC_to c4) (inC_le c4)) rfl ?_
  refine RegD.run 2 [(23, vt ((ix a0 a1.toNat).Name)), (22, .ptr 0 0 0), (21, eS 6 eTask (List.take a1.toNat a0)), (20, vi a1), (19, eS 6 eTask a0), (0, eS 6 eTask a0), (1, vi a1), (5, .ptr 0 0 0)] [some (.row 6 [.agg [vt ((ix a0 a1.toNat).Name), vi ((ix a0 a1.toNat).Cents), vi ((ix a0 a1.toNat).Hours), eS 1 vt ((ix a0 a1.toNat).Needs), eS 1 (eS 1 vt) ((ix a0 a1.toNat).OneOf), eS 2 ePartCount ((ix a0 a1.toNat).Parts)]]), none, none, none, none, none] (by kernel_rfl) ?_
  obtain ⟨y2, hy2, h⟩ := bind_some h
  refine RegD.op (OpD.call (y' := vi y2) (obx := []) (oby := []) (ob2 := [some (.row 6 [.agg [vt ((ix a0 a1.toNat).Name), vi ((ix a0 a1.toNat).Cents), vi ((ix a0 a1.toNat).Hours), eS 1 vt ((ix a0 a1.toNat).Needs), eS 1 (eS 1 vt) ((ix a0 a1.toNat).OneOf), eS 2 ePartCount ((ix a0 a1.toNat).Parts)]]), none, none, none, none, none, none]) (tch := []) 0 _ _ (cy (I0 24 (.call 73 [(.t 21), (.t 23)]))) (agrafferef08_Find_ok n (List.take a1.toNat a0) ((ix a0 a1.toNat).Name) y2 hy2) [] (by kernel_rfl) (.cons rfl (.cons rfl (.cons rfl .nil))) (by kernel_rfl) (by kernel_rfl) ObsRen.nil (by kernel_rfl) ObsRen.nil (by kernel_rfl) rfl (.inr ⟨rfl, rfl⟩)) ?_
  refine RegD.run 1 [(25, vb (decide ((0 : Int) ≤ y2))), (24, vi y2), (23, vt ((ix a0 a1.toNat).Name)), (22, .ptr 0 0 0), (21, eS 6 eTask (List.take a1.toNat a0)), (20, vi a1), (19, eS 6 eTask a0), (0, eS 6 eTask a0), (1, vi a1), (5, .ptr 0 0 0)] [some (.row 6 [.agg [vt ((ix a0 a1.toNat).Name), vi ((ix a0 a1.toNat).Cents), vi ((ix a0 a1.toNat).Hours), eS 1 vt ((ix a0 a1.toNat).Needs), eS 1 (eS 1 vt) ((ix a0 a1.toNat).OneOf), eS 2 ePartCount ((ix a0 a1.toNat).Parts)]]), none, none, none, none, none, none, none] (by kernel_rfl) ?_
  refine RegD.done rfl (by kernel_rfl) (S' := ⟨[(0, eS 6 eTask a0), (5, .ptr 0 0 0), (25, vb (decide ((0 : Int) ≤ y2)))], [some (.row 6 [.agg [vt ((ix a0 a1.toNat).Name), vi ((ix a0 a1.toNat).Cents), vi ((ix a0 a1.toNat).Hours), eS 1 vt ((ix a0 a1.toNat).Needs), eS 1 (eS 1 vt) ((ix a0 a1.toNat).OneOf), eS 2 ePartCount ((ix a0 a1.toNat).Parts)]])]⟩) (sc [0] (by decide) (by kernel_rfl) (.cons rfl .nil) rfl rfl) ?_
  refine TriE.cond (b := decide ((0 : Int) ≤ y2)) rfl (fun c5 => ?_) (fun c5 => ?_)
  · have h := cond_t h c5
    refine sr [(4, vi 5)] [some (.row 6 [.agg [vt ((ix a0 a1.toNat).Name), vi ((ix a0 a1.toNat).Cents), vi ((ix a0 a1.toNat).Hours), eS 1 vt ((ix a0 a1.toNat).Needs), eS 1 (eS 1 vt) ((ix a0 a1.toNat).OneOf), eS 2 ePartCount ((ix a0 a1.toNat).Parts)]])] ?_
    refine TriE.ret ?_
    have h := Option.some.inj h
    subst h
    exact DoneS.ret (S' := ⟨[(4, vi 5)], []⟩) (sc [] (by decide) (by kernel_rfl) ObRen.nil rfl rfl) rfl rfl
  have h := cond_f h c5
  refine TriE.skip ?_
  refine TriE.seq ?_
  refine sj ?_
  refine rn 2 [(0, eS 6 eTask a0), (5, .ptr 0 0 0), (27, vi ((ix a0 a1.toNat).Cents))] [some (.row 6 [.agg [vt ((ix a0 a1.toNat).Name), vi ((ix a0 a1.toNat).Cents), vi ((ix a0 a1.toNat).Hours), eS 1 vt ((ix a0 a1.toNat).Needs), eS 1 (eS 1 vt) ((ix a0 a1.toNat).OneOf), eS 2 ePartCount ((ix a0 a1.toNat).Parts)]])] ?_
  obtain ⟨y3, hy3, h⟩ := bind_some h
  refine RegJ.op (Op1.call (y' := vb ((decide (0 ≤ ((ix a0 a1.toNat).Cents))) && (decide (((ix a0 a1.toNat).Cents) ≤ 1000000000)))) (obx := []) (oby := []) (ob2 := [some (.row 6 [.agg [vt ((ix a0 a1.toNat).Name), vi ((ix a0 a1.toNat).Cents), vi ((ix a0 a1.toNat).Hours), eS 1 vt ((ix a0 a1.toNat).Needs), eS 1 (eS 1 vt) ((ix a0 a1.toNat).OneOf), eS 2 ePartCount ((ix a0 a1.toNat).Parts)]])]) _ _ (cy (I0 28 (.call 93 [(.t 27), (.c (.p (.int .i64 0))), (.c (.p (.int .i64 1000000000)))]))) rfl (agraffebase_Within_ok n ((ix a0 a1.toNat).Cents) 0 1000000000 y3 hy3) [] (by kernel_rfl) (.cons rfl (.cons rfl (.cons rfl (.cons rfl .nil)))) (by kernel_rfl) (by kernel_rfl) ObsRen.nil (by kernel_rfl) ObsRen.nil (by kernel_rfl)) ?_
  refine rn 2 [(0, eS 6 eTask a0), (5, .ptr 0 0 0), (30, vb (!((decide (0 ≤ ((ix a0 a1.toNat).Cents))) && (decide (((ix a0 a1.toNat).Cents) ≤ 1000000000)))))] [some (.row 6 [.agg [vt ((ix a0 a1.toNat).Name), vi ((ix a0 a1.toNat).Cents), vi ((ix a0 a1.toNat).Hours), eS 1 vt ((ix a0 a1.toNat).Needs), eS 1 (eS 1 vt) ((ix a0 a1.toNat).OneOf), eS 2 ePartCount ((ix a0 a1.toNat).Parts)]])] ?_
  refine RegJ.op (Op1.valk (v := .ptr 0 0 2) _ _ (cy (IG 31 (.faddr 2 (.t 5)) 30 false)) rfl (by kernel_rfl) (fun hg => (.cons rfl .nil))) ?_
  refine RegJ.op (Op1.valk (v := vi ((ix a0 a1.toNat).Hours)) _ _ (cy (IG 32 (.load false 1 (.t 31)) 30 false)) rfl (by kernel_rfl) (fun hg => (.cons hg .nil))) ?_
  obtain ⟨y4, hy4, h⟩ := bind_some h
  refine RegJ.op (Op1.callg (g := !(!((decide (0 ≤ ((ix a0 a1.toNat).Cents))) && (decide (((ix a0 a1.toNat).Cents) ≤ 1000000000))))) (y' := vb ((decide (0 ≤ ((ix a0 a1.toNat).Hours))) && (decide (((ix a0 a1.toNat).Hours) ≤ 10000)))) (obx := []) _ _ (cy (IG 33 (.call 93 [(.t 32), (.c (.p (.int .i64 0))), (.c (.p (.int .i64 10000)))]) 30 false)) rfl (fun hg => agraffebase_Within_ok n ((ix a0 a1.toNat).Hours) 0 10000 y4 (gcall_some hy4 hg)) [] (fun hg => by kernel_rfl) (fun hg => (.cons rfl (.cons hg (.cons rfl (.cons rfl .nil))))) (by kernel_rfl) (by kernel_rfl) ObsRen.nil (by kernel_rfl) (by kernel_rfl)) ?_
  refine RegJ.op (Op1.valk (v := vb (!((decide (0 ≤ ((ix a0 a1.toNat).Hours))) && (decide (((ix a0 a1.toNat).Hours) ≤ 10000))))) _ _ (cy (IG 34 (.un .not (.t 33)) 30 false)) rfl (by kernel_rfl) (fun hg => (.cons hg .nil))) ?_
  refine RegJ.op (Op1.or (cy (I0 35 (.pick (.t 30) (.c (.p (.bool true))) (.t 34)))) rfl rfl (by first | exact hokO1 | exact hokO0 | simp)) ?_
  refine jp [(0, eS 6 eTask a0), (5, .ptr 0 0 0), (35, vb ((!((decide (0 ≤ ((ix a0 a1.toNat).Cents))) && (decide (((ix a0 a1.toNat).Cents) ≤ 1000000000)))) || (!((decide (0 ≤ ((ix a0 a1.toNat).Hours))) && (decide (((ix a0 a1.toNat).Hours) ≤ 10000))))))] ?_
  refine TriE.cond (b := (!((decide (0 ≤ ((ix a0 a1.toNat).Cents))) && (decide (((ix a0 a1.toNat).Cents) ≤ 1000000000)))) || (!((decide (0 ≤ ((ix a0 a1.toNat).Hours))) && (decide (((ix a0 a1.toNat).Hours) ≤ 10000))))) rfl (fun c6 => ?_) (fun c6 => ?_)
  · have h := cond_t h c6
    refine sr [(4, vi 2)] [some (.row 6 [.agg [vt ((ix a0 a1.toNat).Name), vi ((ix a0 a1.toNat).Cents), vi ((ix a0 a1.toNat).Hours), eS 1 vt ((ix a0 a1.toNat).Needs), eS 1 (eS 1 vt) ((ix a0 a1.toNat).OneOf), eS 2 ePartCount ((ix a0 a1.toNat).Parts)]])] ?_
    refine TriE.ret ?_
    have h := Option.some.inj h
    subst h
    exact DoneS.ret (S' := ⟨[(4, vi 2)], []⟩) (sc [] (by decide) (by kernel_rfl) ObRen.nil rfl rfl) rfl rfl
  have h := cond_f h c6
  refine TriE.skip ?_
  refine sj ?_
  refine rn 2 [(0, eS 6 eTask a0), (5, .ptr 0 0 0), (37, eS 1 vt ((ix a0 a1.toNat).Needs))] [some (.row 6 [.agg [vt ((ix a0 a1.toNat).Name), vi ((ix a0 a1.toNat).Cents), vi ((ix a0 a1.toNat).Hours), eS 1 vt ((ix a0 a1.toNat).Needs), eS 1 (eS 1 vt) ((ix a0 a1.toNat).OneOf), eS 2 ePartCount ((ix a0 a1.toNat).Parts)]])] ?_
  refine jv (vi ((((ix a0 a1.toNat).Needs).length : Nat) : Int)) (cy (I0 38 (.len 0 (.t 37)))) (ok_len_m rfl) rfl ?_
  refine jv (vb (decide (10 < (((ix a0 a1.toNat).Needs).length)))) (cy (I0 39 (.bin .gtr false (.t 38) (.c (.p (.int .i64 10)))))) (n_gtr (i := ((ix a0 a1.toNat).Needs).length) (j := 10) rfl rfl) rfl ?_
  refine rn 1 [(0, eS 6 eTask a0), (5, .ptr 0 0 0), (40, vb (decide (10 < (((ix a0 a1.toNat).Needs).length))))] [some (.row 6 [.agg [vt ((ix a0 a1.toNat).Name), vi ((ix a0 a1.toNat).Cents), vi ((ix a0 a1.toNat).Hours), eS 1 vt ((ix a0 a1.toNat).Needs), eS 1 (eS 1 vt) ((ix a0 a1.toNat).OneOf), eS 2 ePartCount ((ix a0 a1.toNat).Parts)]])] ?_
  refine RegJ.op (Op1.valk (v := .ptr 0 0 4) _ _ (cy (IG 41 (.faddr 4 (.t 5)) 40 false)) rfl (by kernel_rfl) (fun hg => (.cons rfl .nil))) ?_
  refine RegJ.op (Op1.valk (v := eS 1 (eS 1 vt) ((ix a0 a1.toNat).OneOf)) _ _ (cy (IG 42 (.load false 1 (.t 41)) 40 false)) rfl (by kernel_rfl) (fun hg => (.cons hg .nil))) ?_
  refine RegJ.op (Op1.valg (v := vi ((((ix a0 a1.toNat).OneOf).length : Nat) : Int)) _ _ (cy (IG 43 (.len 0 (.t 42)) 40 false)) rfl (fun hg => (ok_len_m rfl)) (fun hg => (.cons hg .nil))) ?_
  refine RegJ.op (Op1.valg (v := vb (decide (6 < (((ix a0 a1.toNat).OneOf).length)))) _ _ (cy (IG 44 (.bin .gtr false (.t 43) (.c (.p (.int .i64 6)))) 40 false)) rfl (fun hg => (n_gtr (i := ((ix a0 a1.toNat).OneOf).length) (j := 6) rfl rfl)) (fun hg => (.cons hg (.cons rfl .nil)))) ?_
  refine RegJ.op (Op1.or (cy (I0 45 (.pick (.t 40) (.c (.p (.bool true))) (.t 44)))) rfl rfl (by first | exact hokO1 | exact hokO0 | simp)) ?_
  refine rn 1 [(0, eS 6 eTask a0), (5, .ptr 0 0 0), (46, vb ((decide (10 < (((ix a0 a1.toNat).Needs).length))) || (decide (6 < (((ix a0 a1.toNat).OneOf).length)))))] [some (.row 6 [.agg [vt ((ix a0 a1.toNat).Name), vi ((ix a0 a1.toNat).Cents), vi ((ix a0 a1.toNat).Hours), eS 1 vt ((ix a0 a1.toNat).Needs), eS 1 (eS 1 vt) ((ix a0 a1.toNat).OneOf), eS 2 ePartCount ((ix a0 a1.toNat).Parts)]])] ?_
  refine RegJ.op (Op1.valk (v := .ptr 0 0 5) _ _ (cy (IG 47 (.faddr 5 (.t 5)) 46 false)) rfl (by kernel_rfl) (fun hg => (.cons rfl .nil))) ?_
  refine RegJ.op (Op1.valk (v := eS 2 ePartCount ((ix a0 a1.toNat).Parts)) _ _ (cy (IG 48 (.load false 1 (.t 47)) 46 false)) rfl (by kernel_rfl) (fun hg => (.cons hg .nil))) ?_
  refine RegJ.op (Op1.valg (v := vi ((((ix a0 a1.toNat).Parts).length : Nat) : Int)) _ _ (cy (IG 49 (.len 0 (.t 48)) 46 false)) rfl (fun hg => (ok_len_m rfl)) (fun hg => (.cons hg .nil))) ?_
  refine RegJ.op (Op1.valg (v := vb (decide (10 < (((ix a0 a1.toNat).Parts).length)))) _ _ (cy (IG 50 (.bin .gtr false (.t 49) (.c (.p (.int .i64 10)))) 46 false)) rfl (fun hg => (n_gtr (i := ((ix a0 a1.toNat).Parts).length) (j := 10) rfl rfl)) (fun hg => (.cons hg (.cons rfl .nil)))) ?_
  refine RegJ.op (Op1.or (cy (I0 51 (.pick (.t 46) (.c (.p (.bool true))) (.t 50)))) rfl rfl (by first | exact hokO1 | exact hokO0 | simp)) ?_
  refine jq 1 [(0, eS 6 eTask a0), (5, .ptr 0 0 0), (6, vb (((decide (10 < (((ix a0 a1.toNat).Needs).length))) || (decide (6 < (((ix a0 a1.toNat).OneOf).length)))) || (decide (10 < (((ix a0 a1.toNat).Parts).length)))))] [some (.row 6 [.agg [vt ((ix a0 a1.toNat).Name), vi ((ix a0 a1.toNat).Cents), vi ((ix a0 a1.toNat).Hours), eS 1 vt ((ix a0 a1.toNat).Needs), eS 1 (eS 1 vt) ((ix a0 a1.toNat).OneOf), eS 2 ePartCount ((ix a0 a1.toNat).Parts)]])] ?_
  refine TriE.seqK h (fun (v7 : Bool) => St.mk [(0, eS 6 eTask a0), (5, .ptr 0 0 0), (6, vb v7)] [some (.row 6 [.agg [vt ((ix a0 a1.toNat).Name), vi ((ix a0 a1.toNat).Cents), vi ((ix a0 a1.toNat).Hours), eS 1 vt ((ix a0 a1.toNat).Needs), eS 1 (eS 1 vt) ((ix a0 a1.toNat).OneOf), eS 2 ePartCount ((ix a0 a1.toNat).Parts)]])]) ?_ ?_
  · rintro v7 h
    refine TriE.seq ?_
    refine sr [(0, eS 6 eTask a0), (5, .ptr 0 0 0), (69, vb v7)] [some (.row 6 [.agg [vt ((ix a0 a1.toNat).Name), vi ((ix a0 a1.toNat).Cents), vi ((ix a0 a1.toNat).Hours), eS 1 vt ((ix a0 a1.toNat).Needs), eS 1 (eS 1 vt) ((ix a0 a1.toNat).OneOf), eS 2 ePartCount ((ix a0 a1.toNat).Parts)]])] ?_
    refine TriE.cond (b := v7) rfl (fun c11 => ?_) (fun c11 => ?_)
    · have h := cond_t h c11
      refine sr [(4, vi 8)] [some (.row 6 [.agg [vt ((ix a0 a1.toNat).Name), vi ((ix a0 a1.toNat).Cents), vi ((ix a0 a1.toNat).Hours), eS 1 vt ((ix a0 a1.toNat).Needs), eS 1 (eS 1 vt) ((ix a0 a1.toNat).OneOf), eS 2 ePartCount ((ix a0 a1.toNat).Parts)]])] ?_
      refine TriE.ret ?_
      have h := Option.some.inj h
      subst h
      exact DoneS.ret (S' := ⟨[(4, vi 8)], []⟩) (sc [] (by decide) (by kernel_rfl) ObRen.nil rfl rfl) rfl rfl
    have h := cond_f h c11
    refine TriE.skip ?_
    refine TriE.seq ?_
    refine sj ?_
    refine rn 3 [(0, eS 6 eTask a0), (5, .ptr 0 0 0), (70, eS 6 eTask a0), (72, eS 1 vt ((ix a0 a1.toNat).Needs))] [some (.row 6 [.agg [vt ((ix a0 a1.toNat).Name), vi ((ix a0 a1.toNat).Cents), vi ((ix a0 a1.toNat).Hours), eS 1 vt ((ix a0 a1.toNat).Needs), eS 1 (eS 1 vt) ((ix a0 a1.toNat).OneOf), eS 2 ePartCount ((ix a0 a1.toNat).Parts)]])] ?_
    obtain ⟨y8, hy8, h⟩ := bind_some h
    refine RegJ.op (Op1.call (y' := vi y8) (obx := []) (oby := []) (ob2 := [some (.row 6 [.agg [vt ((ix a0 a1.toNat).Name), vi ((ix a0 a1.toNat).Cents), vi ((ix a0 a1.toNat).Hours), eS 1 vt ((ix a0 a1.toNat).Needs), eS 1 (eS 1 vt) ((ix a0 a1.toNat).OneOf), eS 2 ePartCount ((ix a0 a1.toNat).Parts)]])]) _ _ (cy (I0 73 (.call 97 [(.t 70), (.t 72)]))) rfl (agrafferef08_tasks_ok n a0 ((ix a0 a1.toNat).Needs) y8 hy8) [] (by kernel_rfl) (.cons rfl (.cons rfl (.cons rfl .nil))) (by kernel_rfl) (by kernel_rfl) ObsRen.nil (by kernel_rfl) ObsRen.nil (by kernel_rfl)) ?_
    refine jq 1 [(0, eS 6 eTask a0), (5, .ptr 0 0 0), (8, vi y8)] [some (.row 6 [.agg [vt ((ix a0 a1.toNat).Name), vi ((ix a0 a1.toNat).Cents), vi ((ix a0 a1.toNat).Hours), eS 1 vt ((ix a0 a1.toNat).Needs), eS 1 (eS 1 vt) ((ix a0 a1.toNat).OneOf), eS 2 ePartCount ((ix a0 a1.toNat).Parts)]])] ?_
    refine sr [(0, eS 6 eTask a0), (5, .ptr 0 0 0), (8, vi y8), (75, vb (y8 != (0 : Int)))] [some (.row 6 [.agg [vt ((ix a0 a1.toNat).Name), vi ((ix a0 a1.toNat).Cents), vi ((ix a0 a1.toNat).Hours), eS 1 vt ((ix a0 a1.toNat).Needs), eS 1 (eS 1 vt) ((ix a0 a1.toNat).OneOf), eS 2 ePartCount ((ix a0 a1.toNat).Parts)]])] ?_
    refine TriE.cond (b := (y8 != (0 : Int))) rfl (fun c12 => ?_) (fun c12 => ?_)
    · have h := cond_t h c12
      refine sr [(4, vi y8)] [some (.row 6 [.agg [vt ((ix a0 a1.toNat).Name), vi ((ix a0 a1.toNat).Cents), vi ((ix a0 a1.toNat).Hours), eS 1 vt ((ix a0 a1.toNat).Needs), eS 1 (eS 1 vt) ((ix a0 a1.toNat).OneOf), eS 2 ePartCount ((ix a0 a1.toNat).Parts)]])] ?_
      refine TriE.ret ?_
      have h := Option.some.inj h
      subst h
      exact DoneS.ret (S' := ⟨[(4, vi y8)], []⟩) (sc [] (by decide) (by kernel_rfl) ObRen.nil rfl rfl) rfl rfl
    have h := cond_f h c12
    refine TriE.skip ?_
    refine TriE.seqK h (fun (_ : Unit) => St.mk [(5, .ptr 0 0 0)] [some (.row 6 [.agg [vt ((ix a0 a1.toNat).Name), vi ((ix a0 a1.toNat).Cents), vi ((ix a0 a1.toNat).Hours), eS 1 vt ((ix a0 a1.toNat).Needs), eS 1 (eS 1 vt) ((ix a0 a1.toNat).OneOf), eS 2 ePartCount ((ix a0 a1.toNat).Parts)]])]) ?_ ?_
    · rintro ⟨⟩ h
      refine sj ?_
      refine rn 2 [(102, eS 2 ePartCount ((ix a0 a1.toNat).Parts))] [some (.row 6 [.agg [vt ((ix a0 a1.toNat).Name), vi ((ix a0 a1.toNat).Cents), vi ((ix a0 a1.toNat).Hours), eS 1 vt ((ix a0 a1.toNat).Needs), eS 1 (eS 1 vt) ((ix a0 a1.toNat).OneOf), eS 2 ePartCount ((ix a0 a1.toNat).Parts)]])] ?_
      obtain ⟨y12, hy12, h⟩ := bind_some h
      refine RegJ.op (Op1.call (y' := vi y12) (obx := []) (oby := []) (ob2 := [some (.row 6 [.agg [vt ((ix a0 a1.toNat).Name), vi ((ix a0 a1.toNat).Cents), vi ((ix a0 a1.toNat).Hours), eS 1 vt ((ix a0 a1.toNat).Needs), eS 1 (eS 1 vt) ((ix a0 a1.toNat).OneOf), eS 2 ePartCount ((ix a0 a1.toNat).Parts)]])]) _ _ (cy (I0 103 (.call 110 [(.t 102), (.c (.p (.int .i64 1000)))]))) rfl (agrafferef08_counts_ok n ((ix a0 a1.toNat).Parts) 1000 y12 hy12) [] (by kernel_rfl) (.cons rfl (.cons rfl (.cons rfl .nil))) (by kernel_rfl) (by kernel_rfl) ObsRen.nil (by kernel_rfl) ObsRen.nil (by kernel_rfl)) ?_
      refine jq 1 [(4, vi y12)] [some (.row 6 [.agg [vt ((ix a0 a1.toNat).Name), vi ((ix a0 a1.toNat).Cents), vi ((ix a0 a1.toNat).Hours), eS 1 vt ((ix a0 a1.toNat).Needs), eS 1 (eS 1 vt) ((ix a0 a1.toNat).OneOf), eS 2 ePartCount ((ix a0 a1.toNat).Parts)]])] ?_
      refine TriE.ret ?_
      have h := Option.some.inj h
      subst h
      exact DoneS.ret (S' := ⟨[(4, vi y12)], []⟩) (sc [] (by decide) (by kernel_rfl) ObRen.nil rfl rfl) rfl rfl
    intro k2 h
    refine sr [(0, eS 6 eTask a0), (5, .ptr 0 0 0), (9, vi 0)] [some (.row 6 [.agg [vt ((ix a0 a1.toNat).Name), vi ((ix a0 a1.toNat).Cents), vi ((ix a0 a1.toNat).Hours), eS 1 vt ((ix a0 a1.toNat).Needs), eS 1 (eS 1 vt) ((ix a0 a1.toNat).OneOf), eS 2 ePartCount ((ix a0 a1.toNat).Parts)]])] ?_
    refine TriE.block ?_
    refine TriE.sees (S' := ⟨[(0, eS 6 eTask a0), (5, .ptr 0 0 0), (9, vi 0)], [some (.row 6 [.agg [vt ((ix a0 a1.toNat).Name), vi ((ix a0 a1.toNat).Cents), vi ((ix a0 a1.toNat).Hours), eS 1 vt ((ix a0 a1.toNat).Needs), eS 1 (eS 1 vt) ((ix a0 a1.toNat).OneOf), eS 2 ePartCount ((ix a0 a1.toNat).Parts)]])]⟩) sy ?_
    refine TriE.loopN h (fun (v10 : Nat) => St.mk [(0, eS 6 eTask a0), (5, .ptr 0 0 0), (9, vi v10)] [some (.row 6 [.agg [vt ((ix a0 a1.toNat).Name), vi ((ix a0 a1.toNat).Cents), vi ((ix a0 a1.toNat).Hours), eS 1 vt ((ix a0 a1.toNat).Needs), eS 1 (eS 1 vt) ((ix a0 a1.toNat).OneOf), eS 2 ePartCount ((ix a0 a1.toNat).Parts)]])]) rfl ?_
    clear h
    rintro back v10 h
    dsimp only [agrafferef08_task_L2] at h
    refine TriE.seq ?_
    refine sj ?_
    refine rn 3 [(0, eS 6 eTask a0), (5, .ptr 0 0 0), (9, vi v10), (77, vi v10), (79, eS 1 (eS 1 vt) ((ix a0 a1.toNat).OneOf))] [some (.row 6 [.agg [vt ((ix a0 a1.toNat).Name), vi ((ix a0 a1.toNat).Cents), vi ((ix a0 a1.toNat).Hours), eS 1 vt ((ix a0 a1.toNat).Needs), eS 1 (eS 1 vt) ((ix a0 a1.toNat).OneOf), eS 2 ePartCount ((ix a0 a1.toNat).Parts)]])] ?_
    refine jv (vi ((((ix a0 a1.toNat).OneOf).length : Nat) : Int)) (cy (I0 80 (.len 0 (.t 79)))) (ok_len_m rfl) rfl ?_
    refine jv (vb (decide (v10 < (((ix a0 a1.toNat).OneOf).length)))) (cy (I0 81 (.bin .lss false (.t 77) (.t 80)))) (n_lss (i := v10) (j := ((ix a0 a1.toNat).OneOf).length) rfl rfl) rfl ?_
    refine jp [(0, eS 6 eTask a0), (5, .ptr 0 0 0), (9, vi v10), (81, vb (decide (v10 < (((ix a0 a1.toNat).OneOf).length))))] ?_
    refine TriE.cond (b := decide (v10 < (((ix a0 a1.toNat).OneOf).length))) rfl (fun c13 => ?_) (fun c13 => ?_)
    · have h := cond_t h c13
      refine TriE.skip ?_
      refine TriE.seq ?_
      refine TriE.block ?_
      refine TriE.seq ?_
      refine sj ?_
      refine rn 3 [(0, eS 6 eTask a0), (5, .ptr 0 0 0), (9, vi v10), (85, eS 1 (eS 1 vt) ((ix a0 a1.toNat).OneOf)), (86, vi v10)] [some (.row 6 [.agg [vt ((ix a0 a1.toNat).Name), vi ((ix a0 a1.toNat).Cents), vi ((ix a0 a1.toNat).Hours), eS 1 vt ((ix a0 a1.toNat).Needs), eS 1 (eS 1 vt) ((ix a0 a1.toNat).OneOf), eS 2 ePartCount ((ix a0 a1.toNat).Parts)]])] ?_
      obtain ⟨c14, h⟩ := chk_some h
      refine jv (.fptr 1 (List.map (eS 1 vt) ((ix a0 a1.toNat).OneOf)) v10 0) (cy (I0 87 (.iaddr 1 (.t 85) (.t 86)))) (ok_iaddr_m (j := v10) rfl rfl rfl c14) rfl ?_
      refine jv (eS 1 vt (ix ((ix a0 a1.toNat).OneOf) v10)) (cy (I0 88 (.load false 1 (.t 87)))) (ok_load_fm (v := eS 1 vt (ix ((ix a0 a1.toNat).OneOf) v10)) rfl c14 rfl) rfl ?_
      refine jv (vi (((ix ((ix a0 a1.toNat).OneOf) v10).length : Nat) : Int)) (cy (I0 89 (.len 0 (.t 88)))) (ok_len_m rfl) rfl ?_
      refine jv (vb (decide (((ix ((ix a0 a1.toNat).OneOf) v10).length) = 0))) (cy (I0 90 (.bin .eql false (.t 89) (.c (.p (.int .i64 0)))))) (n_eql (i := (ix ((ix a0 a1.toNat).OneOf) v10).length) (j := 0) rfl rfl) rfl ?_
      refine jp [(0, eS 6 eTask a0), (5, .ptr 0 0 0), (9, vi v10), (90, vb (decide (((ix ((ix a0 a1.toNat).OneOf) v10).length) = 0)))] ?_
      refine TriE.cond (b := decide (((ix ((ix a0 a1.toNat).OneOf) v10).length) = 0)) rfl (fun c15 => ?_) (fun c15 => ?_)
      · have h := cond_t h c15
        refine sr [(4, vi 10)] [some (.row 6 [.agg [vt ((ix a0 a1.toNat).Name), vi ((ix a0 a1.toNat).Cents), vi ((ix a0 a1.toNat).Hours), eS 1 vt ((ix a0 a1.toNat).Needs), eS 1 (eS 1 vt) ((ix a0 a1.toNat).OneOf), eS 2 ePartCount ((ix a0 a1.toNat).Parts)]])] ?_
        refine TriE.ret ?_
        have h := Option.some.inj h
        subst h
        exact DoneS.ret (S' := ⟨[(4, vi 10)], []⟩) (sc [] (by decide) (by kernel_rfl) ObRen.nil rfl rfl) rfl rfl
      have h := cond_f h c15
      refine TriE.skip ?_
      refine sj ?_
      refine rn 4 [(0, eS 6 eTask a0), (5, .ptr 0 0 0), (9, vi v10), (91, eS 6 eTask a0), (93, eS 1 (eS 1 vt) ((ix a0 a1.toNat).OneOf)), (94, vi v10)] [some (.row 6 [.agg [vt ((ix a0 a1.toNat).Name), vi ((ix a0 a1.toNat).Cents), vi ((ix a0 a1.toNat).Hours), eS 1 vt ((ix a0 a1.toNat).Needs), eS 1 (eS 1 vt) ((ix a0 a1.toNat).OneOf), eS 2 ePartCount ((ix a0 a1.toNat).Parts)]])] ?_
      refine jv (.fptr 1 (List.map (eS 1 vt) ((ix a0 a1.toNat).OneOf)) v10 0) (cy (I0 95 (.iaddr 1 (.t 93) (.t 94)))) (ok_iaddr_m (j := v10) rfl rfl rfl c14) rfl ?_
      refine jv (eS 1 vt (ix ((ix a0 a1.toNat).OneOf) v10)) (cy (I0 96 (.load false 1 (.t 95)))) (ok_load_fm (v := eS 1 vt (ix ((ix a0 a1.toNat).OneOf) v10)) rfl c14 rfl) rfl ?_
      obtain ⟨y11, hy11, h⟩ := bind_some h
      refine RegJ.op (Op1.call (y' := vi y11) (obx := []) (oby := []) (ob2 := [some (.row 6 [.agg [vt ((ix a0 a1.toNat).Name), vi ((ix a0 a1.toNat).Cents), vi ((ix a0 a1.toNat).Hours), eS 1 vt ((ix a0 a1.toNat).Needs), eS 1 (eS 1 vt) ((ix a0 a1.toNat).OneOf), eS 2 ePartCount ((ix a0 a1.toNat).Parts)]])]) _ _ (cy (I0 97 (.call 97 [(.t 91), (.t 96)]))) rfl (agrafferef08_tasks_ok n a0 (ix ((ix a0 a1.toNat).OneOf) v10) y11 hy11) [] (by kernel_rfl) (.cons rfl (.cons rfl (.cons rfl .nil))) (by kernel_rfl) (by kernel_rfl) ObsRen.nil (by kernel_rfl) ObsRen.nil (by kernel_rfl)) ?_
      refine jq 1 [(0, eS 6 eTask a0), (5, .ptr 0 0 0), (9, vi v10), (10, vi y11)] [some (.row 6 [.agg [vt ((ix a0 a1.toNat).Name), vi ((ix a0 a1.toNat).Cents), vi ((ix a0 a1.toNat).Hours), eS 1 vt ((ix a0 a1.toNat).Needs), eS 1 (eS 1 vt) ((ix a0 a1.toNat).OneOf), eS 2 ePartCount ((ix a0 a1.toNat).Parts)]])] ?_
      refine sr [(0, eS 6 eTask a0), (5, .ptr 0 0 0), (9, vi v10), (10, vi y11), (99, vb (y11 != (0 : Int)))] [some (.row 6 [.agg [vt ((ix a0 a1.toNat).Name), vi ((ix a0 a1.toNat).Cents), vi ((ix a0 a1.toNat).Hours), eS 1 vt ((ix a0 a1.toNat).Needs), eS 1 (eS 1 vt) ((ix a0 a1.toNat).OneOf), eS 2 ePartCount ((ix a0 a1.toNat).Parts)]])] ?_
      refine TriE.cond (b := (y11 != (0 : Int))) rfl (fun c16 => ?_) (fun c16 => ?_)
      · have h := cond_t h c16
        refine sr [(4, vi y11)] [some (.row 6 [.agg [vt ((ix a0 a1.toNat).Name), vi ((ix a0 a1.toNat).Cents), vi ((ix a0 a1.toNat).Hours), eS 1 vt ((ix a0 a1.toNat).Needs), eS 1 (eS 1 vt) ((ix a0 a1.toNat).OneOf), eS 2 ePartCount ((ix a0 a1.toNat).Parts)]])] ?_
        refine TriE.ret ?_
        have h := Option.some.inj h
        subst h
        exact DoneS.ret (S' := ⟨[(4, vi y11)], []⟩) (sc [] (by decide) (by kernel_rfl) ObRen.nil rfl rfl) rfl rfl
      have h := cond_f h c16
      refine TriE.skip ?_
      refine TriE.regJ ?_
      refine rn 1 [(0, eS 6 eTask a0), (5, .ptr 0 0 0), (82, vi v10)] [some (.row 6 [.agg [vt ((ix a0 a1.toNat).Name), vi ((ix a0 a1.toNat).Cents), vi ((ix a0 a1.toNat).Hours), eS 1 vt ((ix a0 a1.toNat).Needs), eS 1 (eS 1 vt) ((ix a0 a1.toNat).OneOf), eS 2 ePartCount ((ix a0 a1.toNat).Parts)]])] ?_
      obtain ⟨c17, h⟩ := chk_some h
      refine jv (vi ((v10 + 1 : Nat) : Int)) (cy (I0 83 (.bin .add false (.t 82) (.c (.p (.int .i64 1)))))) (r_addn (i := v10) (j := 1) rfl rfl c17) rfl ?_
      refine jq 1 [(0, eS 6 eTask a0), (5, .ptr 0 0 0), (9, vi ((v10 + 1 : Nat) : Int))] [some (.row 6 [.agg [vt ((ix a0 a1.toNat).Name), vi ((ix a0 a1.toNat).Cents), vi ((ix a0 a1.toNat).Hours), eS 1 vt ((ix a0 a1.toNat).Needs), eS 1 (eS 1 vt) ((ix a0 a1.toNat).OneOf), eS 2 ePartCount ((ix a0 a1.toNat).Parts)]])] ?_
      exact Vs.intro sy ⟨(v10 + 1), rfl, h⟩
    have h := cond_f h c13
    refine TriE.exit ?_
    exact Vs.intro sy ⟨(), rfl, h⟩
  intro k1 h
  refine sr [(0, eS 6 eTask a0), (5, .ptr 0 0 0), (6, vb (((decide (10 < (((ix a0 a1.toNat).Needs).length))) || (decide (6 < (((ix a0 a1.toNat).OneOf).length)))) || (decide (10 < (((ix a0 a1.toNat).Parts).length))))), (7, vi 0)] [some (.row 6 [.agg [vt ((ix a0 a1.toNat).Name), vi ((ix a0 a1.toNat).Cents), vi ((ix a0 a1.toNat).Hours), eS 1 vt ((ix a0 a1.toNat).Needs), eS 1 (eS 1 vt) ((ix a0 a1.toNat).OneOf), eS 2 ePartCount ((ix a0 a1.toNat).Parts)]])] ?_
  refine TriE.block ?_
  refine TriE.sees (S' := ⟨[(0, eS 6 eTask a0), (5, .ptr 0 0 0), (6, vb (((decide (10 < (((ix a0 a1.toNat).Needs).length))) || (decide (6 < (((ix a0 a1.toNat).OneOf).length)))) || (decide (10 < (((ix a0 a1.toNat).Parts).length))))), (7, vi 0)], [some (.row 6 [.agg [vt ((ix a0 a1.toNat).Name), vi ((ix a0 a1.toNat).Cents), vi ((ix a0 a1.toNat).Hours), eS 1 vt ((ix a0 a1.toNat).Needs), eS 1 (eS 1 vt) ((ix a0 a1.toNat).OneOf), eS 2 ePartCount ((ix a0 a1.toNat).Parts)]])]⟩) sy ?_
  refine TriE.loopN h (fun (t : Bool × Nat) => match t with | (v5, v6) => St.mk [(0, eS 6 eTask a0), (5, .ptr 0 0 0), (6, vb v5), (7, vi v6)] [some (.row 6 [.agg [vt ((ix a0 a1.toNat).Name), vi ((ix a0 a1.toNat).Cents), vi ((ix a0 a1.toNat).Hours), eS 1 vt ((ix a0 a1.toNat).Needs), eS 1 (eS 1 vt) ((ix a0 a1.toNat).OneOf), eS 2 ePartCount ((ix a0 a1.toNat).Parts)]])]) rfl ?_
  clear h
  rintro back ⟨v5, v6⟩ h
  dsimp only [agrafferef08_task_L1] at h
  refine TriE.seq ?_
  refine sj ?_
  refine rn 3 [(0, eS 6 eTask a0), (5, .ptr 0 0 0), (6, vb v5), (7, vi v6), (52, vi v6), (54, eS 1 (eS 1 vt) ((ix a0 a1.toNat).OneOf))] [some (.row 6 [.agg [vt ((ix a0 a1.toNat).Name), vi ((ix a0 a1.toNat).Cents), vi ((ix a0 a1.toNat).Hours), eS 1 vt ((ix a0 a1.toNat).Needs), eS 1 (eS 1 vt) ((ix a0 a1.toNat).OneOf), eS 2 ePartCount ((ix a0 a1.toNat).Parts)]])] ?_
  refine jv (vi ((((ix a0 a1.toNat).OneOf).length : Nat) : Int)) (cy (I0 55 (.len 0 (.t 54)))) (ok_len_m rfl) rfl ?_
  refine jv (vb (decide (v6 < (((ix a0 a1.toNat).OneOf).length)))) (cy (I0 56 (.bin .lss false (.t 52) (.t 55)))) (n_lss (i := v6) (j := ((ix a0 a1.toNat).OneOf).length) rfl rfl) rfl ?_
  refine jp [(0, eS 6 eTask a0), (5, .ptr 0 0 0), (6, vb v5), (7, vi v6), (56, vb (decide (v6 < (((ix a0 a1.toNat).OneOf).length))))] ?_
  refine TriE.cond (b := decide (v6 < (((ix a0 a1.toNat).OneOf).length))) rfl (fun c7 => ?_) (fun c7 => ?_)
  · have h := cond_t h c7
    refine TriE.skip ?_
    refine TriE.seq ?_
    refine TriE.block ?_
    refine TriE.regJ ?_
    refine rn 2 [(0, eS 6 eTask a0), (5, .ptr 0 0 0), (7, vi v6), (60, vb v5)] [some (.row 6 [.agg [vt ((ix a0 a1.toNat).Name), vi ((ix a0 a1.toNat).Cents), vi ((ix a0 a1.toNat).Hours), eS 1 vt ((ix a0 a1.toNat).Needs), eS 1 (eS 1 vt) ((ix a0 a1.toNat).OneOf), eS 2 ePartCount ((ix a0 a1.toNat).Parts)]])] ?_
    refine RegJ.op (Op1.valk (v := .ptr 0 0 4) _ _ (cy (IG 61 (.faddr 4 (.t 5)) 60 false)) rfl (by kernel_rfl) (fun hg => (.cons rfl .nil))) ?_
    refine RegJ.op (Op1.valk (v := eS 1 (eS 1 vt) ((ix a0 a1.toNat).OneOf)) _ _ (cy (IG 62 (.load false 1 (.t 61)) 60 false)) rfl (by kernel_rfl) (fun hg => (.cons hg .nil))) ?_
    refine RegJ.op (Op1.valk (v := vi v6) _ _ (cy (IG 63 (.mov (.t 7)) 60 false)) rfl (by kernel_rfl) (fun hg => (.cons rfl .nil))) ?_
    obtain ⟨c8, h⟩ := chk_some h
    refine RegJ.op (Op1.valg (v := .fptr 1 (List.map (eS 1 vt) ((ix a0 a1.toNat).OneOf)) v6 0) _ _ (cy (IG 64 (.iaddr 1 (.t 62) (.t 63)) 60 false)) rfl (fun hg => (ok_iaddr_m (j := v6) rfl rfl rfl (gor c8 hg))) (fun hg => (.cons hg (.cons hg .nil)))) ?_
    obtain ⟨c9, h⟩ := chk_some h
    refine RegJ.op (Op1.valg (v := eS 1 vt (ix ((ix a0 a1.toNat).OneOf) v6)) _ _ (cy (IG 65 (.load false 1 (.t 64)) 60 false)) rfl (fun hg => (ok_load_fm (v := eS 1 vt (ix ((ix a0 a1.toNat).OneOf) v6)) rfl (gor c9 hg) rfl)) (fun hg => (.cons hg .nil))) ?_
    refine RegJ.op (Op1.valg (v := vi (((ix ((ix a0 a1.toNat).OneOf) v6).length : Nat) : Int)) _ _ (cy (IG 66 (.len 0 (.t 65)) 60 false)) rfl (fun hg => (ok_len_m rfl)) (fun hg => (.cons hg .nil))) ?_
    refine RegJ.op (Op1.valg (v := vb (decide (6 < ((ix ((ix a0 a1.toNat).OneOf) v6).length)))) _ _ (cy (IG 67 (.bin .gtr false (.t 66) (.c (.p (.int .i64 6)))) 60 false)) rfl (fun hg => (n_gtr (i := (ix ((ix a0 a1.toNat).OneOf) v6).length) (j := 6) rfl rfl)) (fun hg => (.cons hg (.cons rfl .nil)))) ?_
    refine RegJ.op (Op1.or (cy (I0 68 (.pick (.t 60) (.c (.p (.bool true))) (.t 67)))) rfl rfl (by first | exact hokO1 | exact hokO0 | simp)) ?_
    refine jq 1 [(0, eS 6 eTask a0), (5, .ptr 0 0 0), (7, vi v6), (6, vb (v5 || (decide (6 < ((ix ((ix a0 a1.toNat).OneOf) v6).length)))))] [some (.row 6 [.agg [vt ((ix a0 a1.toNat).Name), vi ((ix a0 a1.toNat).Cents), vi ((ix a0 a1.toNat).Hours), eS 1 vt ((ix a0 a1.toNat).Needs), eS 1 (eS 1 vt) ((ix a0 a1.toNat).OneOf), eS 2 ePartCount ((ix a0 a1.toNat).Parts)]])] ?_
    refine TriE.regJ ?_
    refine rn 1 [(0, eS 6 eTask a0), (5, .ptr 0 0 0), (6, vb (v5 || (decide (6 < ((ix ((ix a0 a1.toNat).OneOf) v6).length))))), (57, vi v6)] [some (.row 6 [.agg [vt ((ix a0 a1.toNat).Name), vi ((ix a0 a1.toNat).Cents), vi ((ix a0 a1.toNat).Hours), eS 1 vt ((ix a0 a1.toNat).Needs), eS 1 (eS 1 vt) ((ix a0 a1.toNat).OneOf), eS 2 ePartCount ((ix a0 a1.toNat).Parts)]])] ?_
    obtain ⟨c10, h⟩ := chk_some h
    refine jv (vi ((v6 + 1 : Nat) : Int)) (cy (I0 58 (.bin .add false (.t 57) (.c (.p (.int .i64 1)))))) (r_addn (i := v6) (j := 1) rfl rfl c10) rfl ?_
    refine jq 1 [(0, eS 6 eTask a0), (5, .ptr 0 0 0), (6, vb (v5 || (decide (6 < ((ix ((ix a0 a1.toNat).OneOf) v6).length))))), (7, vi ((v6 + 1 : Nat) : Int))] [some (.row 6 [.agg [vt ((ix a0 a1.toNat).Name), vi ((ix a0 a1.toNat).Cents), vi ((ix a0 a1.toNat).Hours), eS 1 vt ((ix a0 a1.toNat).Needs), eS 1 (eS 1 vt) ((ix a0 a1.toNat).OneOf), eS 2 ePartCount ((ix a0 a1.toNat).Parts)]])] ?_
    exact Vs.intro sy ⟨(v5 || (decide (6 < ((ix ((ix a0 a1.toNat).OneOf) v6).length))), v6 + 1), rfl, h⟩
  have h := cond_f h c7
  refine TriE.exit ?_
  exact Vs.intro sy ⟨v5, rfl, h⟩
theorem agrafferef08_Leads_ok (n : Nat) (a0 : Task) (r : (List Str)) (h : agrafferef08_Leads n a0 = some r) : FnL Tryz.prog 80 [.agg [vt a0.Name, vi a0.Cents, vi a0.Hours, eS 1 vt a0.Needs, eS 1 (eS 1 vt) a0.OneOf, eS 2 ePartCount a0.Parts]] [] (eS 1 vt r) [] := by
  dsimp only [agrafferef08_Leads] at h
  refine FnL.ofS (ts := [2]) Tryz.call80 Tryz.func80 rfl rfl (Nat.le_of_ble_eq_true rfl) (Nat.le_of_ble_eq_true rfl) (fun j h => absurd h (Nat.not_lt_zero j)) ?_
  refine sr [(1, .ptr 0 0 0)] [some (.row 6 [.agg [vt a0.Name, vi a0.Cents, vi a0.Hours, eS 1 vt a0.Needs, eS 1 (eS 1 vt) a0.OneOf, eS 2 ePartCount a0.Parts]])] ?_
  refine sj ?_
  refine rn 2 [(1, .ptr 0 0 0), (6, eS 1 vt a0.Needs)] [some (.row 6 [.agg [vt a0.Name, vi a0.Cents, vi a0.Hours, eS 1 vt a0.Needs, eS 1 (eS 1 vt) a0.OneOf, eS 2 ePartCount a0.Parts]])] ?_
  obtain ⟨y1, hy1, h⟩ := bind_some h
  refine RegJ.op (Op1.call (y' := .own 1 0 a0.Needs.length) (obx := []) (oby := [some (.row 1 (List.map vt a0.Needs))]) (ob2 := [some (.row 6 [.agg [vt a0.Name, vi a0.Cents, vi a0.Hours, eS 1 vt a0.Needs, eS 1 (eS 1 vt) a0.OneOf, eS 2 ePartCount a0.Parts]]), some (.row 1 (List.map vt a0.Needs))]) _ _ (cy (I0 7 (.call 18 [(.t 6)]))) rfl (agraffebase_CopyTexts_2_ok n a0.Needs y1 hy1) [] (by kernel_rfl) (.cons rfl (.cons rfl .nil)) (by kernel_rfl) (by kernel_rfl) ObsRen.nil (by kernel_rfl) (.same (row_ren vt_frz _ _ _) .nil) (by kernel_rfl)) ?_
  refine jq 1 [(1, .ptr 0 0 0), (3, .own 1 0 a0.Needs.length)] [some (.row 6 [.agg [vt a0.Name, vi a0.Cents, vi a0.Hours, eS 1 vt a0.Needs, eS 1 (eS 1 vt) a0.OneOf, eS 2 ePartCount a0.Parts]]), some (.row 1 (List.map vt a0.Needs))] ?_
  refine TriE.seqK h (fun (v4 : (List Str)) => St.mk [(3, .own 0 0 v4.length)] [some (.row 1 (List.map vt v4))]) ?_ ?_
  · rintro v4 h
    refine sr [(2, .own 0 0 v4.length)] [some (.row 1 (List.map vt v4))] ?_
    refine TriE.ret ?_
    have h := Option.some.inj h
    subst h
    exact DoneS.ret (S' := ⟨[(2, eS 1 vt v4)], []⟩) (Sees.trans (Sees.freeze 0 (fr' := [(2, eS 1 vt v4)]) (ob' := [none]) rfl (frz_row vt_frzE _) (.cons (frz_full rfl) .nil) rfl) (sc [] (by decide) (by kernel_rfl) ObRen.nil rfl rfl)) rfl rfl
  intro k1 h
  refine sr [(1, .ptr 0 0 0), (3, .own 1 0 a0.Needs.length), (4, vi 0)] [some (.row 6 [.agg [vt a0.Name, vi a0.Cents, vi a0.Hours, eS 1 vt a0.Needs, eS 1 (eS 1 vt) a0.OneOf, eS 2 ePartCount a0.Parts]]), some (.row 1 (List.map vt a0.Needs))] ?_
  refine TriE.block ?_
  refine TriE.sees (S' := ⟨[(1, .ptr 0 0 0), (3, .own 1 0 a0.Needs.length), (4, vi 0)], [some (.row 6 [.agg [vt a0.Name, vi a0.Cents, vi a0.Hours, eS 1 vt a0.Needs, eS 1 (eS 1 vt) a0.OneOf, eS 2 ePartCount a0.Parts]]), some (.row 1 (List.map vt a0.Needs))]⟩) sy ?_
  refine TriE.loopN h (fun (t : Nat × (List Str)) => match t with | (v2, v3) => St.mk [(1, .ptr 0 0 0), (3, .own 1 0 v3.length), (4, vi v2)] [some (.row 6 [.agg [vt a0.Name, vi a0.Cents, vi a0.Hours, eS 1 vt a0.Needs, eS 1 (eS 1 vt) a0.OneOf, eS 2 ePartCount a0.Parts]]), some (.row 1 (List.map vt v3))]) rfl ?_
  clear h
  rintro back ⟨v2, v3⟩ h
  dsimp only [agrafferef08_Leads_L1] at h
  refine TriE.seq ?_
  refine sj ?_
  refine rn 3 [(1, .ptr 0 0 0), (3, .own 1 0 v3.length), (4, vi v2), (8, vi v2), (10, eS 1 (eS 1 vt) a0.OneOf)] [some (.row 6 [.agg [vt a0.Name, vi a0.Cents, vi a0.Hours, eS 1 vt a0.Needs, eS 1 (eS 1 vt) a0.OneOf, eS 2 ePartCount a0.Parts]]), some (.row 1 (List.map vt v3))] ?_
  refine jv (vi ((a0.OneOf.length : Nat) : Int)) (cy (I0 11 (.len 0 (.t 10)))) (ok_len_m rfl) rfl ?_
  refine jv (vb (decide (v2 < a0.OneOf.length))) (cy (I0 12 (.bin .lss false (.t 8) (.t 11)))) (n_lss (i := v2) (j := a0.OneOf.length) rfl rfl) rfl ?_
  refine jp [(1, .ptr 0 0 0), (3, .own 1 0 v3.length), (4, vi v2), (12, vb (decide (v2 < a0.OneOf.length)))] ?_
  refine TriE.cond (b := decide (v2 < a0.OneOf.length)) rfl (fun c1 => ?_) (fun c1 => ?_)
  · have h := cond_t h c1
    refine TriE.skip ?_
    refine TriE.seq ?_
    refine TriE.block ?_
    refine TriE.regJ ?_
    refine rn 4 [(1, .ptr 0 0 0), (4, vi v2), (15, .own 1 0 v3.length), (17, eS 1 (eS 1 vt) a0.OneOf), (18, vi v2)] [some (.row 6 [.agg [vt a0.Name, vi a0.Cents, vi a0.Hours, eS 1 vt a0.Needs, eS 1 (eS 1 vt) a0.OneOf, eS 2 ePartCount a0.Parts]]), some (.row 1 (List.map vt v3))] ?_
    refine jv (.fptr 1 (List.map (eS 1 vt) a0.OneOf) v2 0) (cy (I0 19 (.iaddr 1 (.t 17) (.t 18)))) (ok_iaddr_m (j := v2) rfl rfl rfl c1) rfl ?_
    refine jv (eS 1 vt (ix a0.OneOf v2)) (cy (I0 20 (.load false 1 (.t 19)))) (ok_load_fm (v := eS 1 vt (ix a0.OneOf v2)) rfl c1 rfl) rfl ?_
    obtain ⟨c2, h⟩ := chk_some h
    refine je (.own 2 0 ((v3 ++ (ix a0.OneOf v2)).length)) [some (.row 6 [.agg [vt a0.Name, vi a0.Cents, vi a0.Hours, eS 1 vt a0.Needs, eS 1 (eS 1 vt) a0.OneOf, eS 2 ePartCount a0.Parts]]), none, some (.row 1 (List.map vt (v3 ++ (ix a0.OneOf v2))))] (cy (I0 21 (.app 1 16 (.t 15) (.t 20)))) (ok_app_own (l := v3) (l2 := (ix a0.OneOf v2)) (e := vt) (u := eS 1 vt (ix a0.OneOf v2)) rfl rfl rfl rfl els_sl c2) rfl rfl rfl ?_
    refine jq 1 [(1, .ptr 0 0 0), (4, vi v2), (3, .own 2 0 ((v3 ++ (ix a0.OneOf v2)).length))] [some (.row 6 [.agg [vt a0.Name, vi a0.Cents, vi a0.Hours, eS 1 vt a0.Needs, eS 1 (eS 1 vt) a0.OneOf, eS 2 ePartCount a0.Parts]]), none, some (.row 1 (List.map vt (v3 ++ (ix a0.OneOf v2))))] ?_
    refine TriE.regJ ?_
    refine rn 1 [(1, .ptr 0 0 0), (3, .own 2 0 ((v3 ++ (ix a0.OneOf v2)).length)), (13, vi v2)] [some (.row 6 [.agg [vt a0.Name, vi a0.Cents, vi a0.Hours, eS 1 vt a0.Needs, eS 1 (eS 1 vt) a0.OneOf, eS 2 ePartCount a0.Parts]]), none, some (.row 1 (List.map vt (v3 ++ (ix a0.OneOf v2))))] ?_
    obtain ⟨c3, h⟩ := chk_some h
    refine jv (vi ((v2 + 1 : Nat) : Int)) (cy (I0 14 (.bin .add false (.t 13) (.c (.p (.int .i64 1)))))) (r_addn (i := v2) (j := 1) rfl rfl c3) rfl ?_
    refine jq 1 [(1, .ptr 0 0 0), (3, .own 2 0 ((v3 ++ (ix a0.OneOf v2)).length)), (4, vi ((v2 + 1 : Nat) : Int))] [some (.row 6 [.agg [vt a0.Name, vi a0.Cents, vi a0.Hours, eS 1 vt a0.Needs, eS 1 (eS 1 vt) a0.OneOf, eS 2 ePartCount a0.Parts]]), none, some (.row 1 (List.map vt (v3 ++ (ix a0.OneOf v2))))] ?_
    exact Vs.intro (sc [0, 2] (by decide) (by kernel_rfl) (.cons rfl (obRen_row vt_frz rfl .nil)) rfl rfl) ⟨(v2 + 1, (v3 ++ (ix a0.OneOf v2))), rfl, h⟩
  have h := cond_f h c1
  refine TriE.exit ?_
  exact Vs.intro (sc [1] (by decide) (by kernel_rfl) (obRen_row vt_frz rfl .nil) rfl rfl) ⟨v3, rfl, h⟩
theorem agraffebase_HasText_2_ok (n : Nat) (a0 : List Str) (a1 : Str) (r : Bool) (h : agraffebase_HasText_2 n a0 a1 = some r) : FnL Tryz.prog 81 [.own 0 0 a0.length, vt a1] [some (.row 1 (List.map vt a0))] (vb r) [some (.row 1 (List.map vt a0))] := by
  dsimp only [agraffebase_HasText_2] at h
  refine FnL.ofS (ts := [4]) Tryz.call81 Tryz.func81 rfl rfl (Nat.le_of_ble_eq_true rfl) (Nat.le_of_ble_eq_true rfl) (hall_of (.cons rfl .nil)) ?_
  refine sr [(0, .own 0 0 a0.length), (1, vt a1)] [some (.row 1 (List.map vt a0))] ?_
  refine TriE.seqK h (fun (_ : Unit) => St.mk [] [some (.row 1 (List.map vt a0))]) ?_ ?_
  · rintro ⟨⟩ h
    refine sr [(4, vb false)] [some (.row 1 (List.map vt a0))] ?_
    refine TriE.ret ?_
    have h := Option.some.inj h
    subst h
    exact DoneS.ret (S' := ⟨[(4, vb false)], [some (.row 1 (List.map vt a0))]⟩) Sees.refl rfl rfl
  intro k1 h
  refine sr [(0, .own 0 0 a0.length), (1, vt a1), (5, vi 0)] [some (.row 1 (List.map vt a0))] ?_
  refine TriE.block ?_
  refine TriE.sees (S' := ⟨[(0, .own 0 0 a0.length), (1, vt a1), (5, vi 0)], [some (.row 1 (List.map vt a0))]⟩) sy ?_
  refine TriE.loopN h (fun (v1 : Nat) => St.mk [(0, .own 0 0 a0.length), (1, vt a1), (5, vi v1)] [some (.row 1 (List.map vt a0))]) rfl ?_
  clear h
  rintro back v1 h
  dsimp only [agraffebase_HasText_2_L1] at h
  refine TriE.seq ?_
  refine sj ?_
  refine rn 3 [(0, .own 0 0 a0.length), (1, vt a1), (5, vi v1), (6, vi v1), (8, vi (a0.length : Int))] [some (.row 1 (List.map vt a0))] ?_
  refine jv (vb (decide (v1 < a0.length))) (cy (I0 9 (.bin .lss false (.t 6) (.t 8)))) (n_lss (i := v1) (j := a0.length) rfl rfl) rfl ?_
  refine jp [(0, .own 0 0 a0.length), (1, vt a1), (5, vi v1), (9, vb (decide (v1 < a0.length)))] ?_
  refine TriE.cond (b := decide (v1 < a0.length)) rfl (fun c1 => ?_) (fun c1 => ?_)
  · have h := cond_t h c1
    refine TriE.skip ?_
    refine TriE.seq ?_
    refine TriE.block ?_
    refine sj ?_
    refine rn 2 [(0, .own 0 0 a0.length), (1, vt a1), (5, vi v1), (12, .own 0 0 a0.length), (13, vi v1)] [some (.row 1 (List.map vt a0))] ?_
    refine jv (.ptr 0 v1 0) (cy (I0 14 (.iaddr 1 (.t 12) (.t 13)))) (ok_iaddr_o0 (j := v1) rfl rfl rfl rfl c1) rfl ?_
    refine jv (vt (ix a0 v1)) (cy (I0 15 (.load false 1 (.t 14)))) (ok_load_pm (l := a0) (e := vt) (v := vt (ix a0 v1)) rfl rfl c1 rfl) rfl ?_
    refine jq 2 [(0, .own 0 0 a0.length), (1, vt a1), (5, vi v1), (17, vb ((ix a0 v1) == a1))] [some (.row 1 (List.map vt a0))] ?_
    refine TriE.cond (b := ((ix a0 v1) == a1)) rfl (fun c2 => ?_) (fun c2 => ?_)
    · have h := cond_t h c2
      refine sr [(4, vb true)] [some (.row 1 (List.map vt a0))] ?_
      refine TriE.ret ?_
      have h := Option.some.inj h
      subst h
      exact DoneS.ret (S' := ⟨[(4, vb true)], [some (.row 1 (List.map vt a0))]⟩) Sees.refl rfl rfl
    have h := cond_f h c2
    refine TriE.skip ?_
    refine TriE.regJ ?_
    refine rn 1 [(0, .own 0 0 a0.length), (1, vt a1), (10, vi v1)] [some (.row 1 (List.map vt a0))] ?_
    obtain ⟨c3, h⟩ := chk_some h
    refine jv (vi ((v1 + 1 : Nat) : Int)) (cy (I0 11 (.bin .add false (.t 10) (.c (.p (.int .i64 1)))))) (r_addn (i := v1) (j := 1) rfl rfl c3) rfl ?_
    refine jq 1 [(0, .own 0 0 a0.length), (1, vt a1), (5, vi ((v1 + 1 : Nat) : Int))] [some (.row 1 (List.map vt a0))] ?_
    exact Vs.intro sy ⟨(v1 + 1), rfl, h⟩
  have h := cond_f h c1
  refine TriE.exit ?_
  exact Vs.intro sy ⟨(), rfl, h⟩
theorem agrafferef08_Order_ok (n : Nat) (a0 : List Task) (a1 : List Str) (r : (List Str)) (h : agrafferef08_Order n a0 a1 = some r) : FnL Tryz.prog 78 [eS 6 eTask a0, eS 1 vt a1] [] (eS 1 vt r) [] := by
  dsimp only [agrafferef08_Order] at h
  refine FnL.ofS (ts := [4]) Tryz.call78 Tryz.func78 rfl rfl (Nat.le_of_ble_eq_true rfl) (Nat.le_of_ble_eq_true rfl) (fun j h => absurd h (Nat.not_lt_zero j)) ?_
  refine sr [(0, eS 6 eTask a0), (1, eS 1 vt a1)] [] ?_
  refine sr [(0, eS 6 eTask a0), (1, eS 1 vt a1), (5, .emp)] [] ?_
  refine TriE.block ?_
  refine TriE.sees (S' := ⟨[(0, eS 6 eTask a0), (1, eS 1 vt a1), (5, .own 0 0 ([] : List Str).length)], [some (.row 1 (List.map vt ([] : List Str)))]⟩) (Sees.trans (Sees.co (fr' := [(0, eS 6 eTask a0), (1, eS 1 vt a1), (5, .own 0 0 0)]) (ob' := []) (.cons .same (.cons .same (.cons .own .nil))) ObCo.nil 1) sy) ?_
  refine TriE.loopN h (fun (v26 : (List Str)) => St.mk [(0, eS 6 eTask a0), (1, eS 1 vt a1), (5, .own 0 0 v26.length)] [some (.row 1 (List.map vt v26))]) rfl ?_
  clear h
  rintro back v26 h
  dsimp only [agrafferef08_Order_L3] at h
  refine TriE.block ?_
  refine sr [(0, eS 6 eTask a0), (1, eS 1 vt a1), (5, .own 0 0 v26.length), (6, vi (-1))] [some (.row 1 (List.map vt v26))] ?_
  refine TriE.seqK h (fun (v51 : Int) => St.mk [(0, eS 6 eTask a0), (1, eS 1 vt a1), (5, .own 0 0 v26.length), (6, vi v51)] [some (.row 1 (List.map vt v26))]) ?_ ?_
  · rintro v51 h
    refine TriE.seq ?_
    refine sr [(0, eS 6 eTask a0), (1, eS 1 vt a1), (5, .own 0 0 v26.length), (6, vi v51), (70, vb (decide (v51 < (0 : Int))))] [some (.row 1 (List.map vt v26))] ?_
    refine TriE.cond (b := decide (v51 < (0 : Int))) rfl (fun c8 => ?_) (fun c8 => ?_)
    · have h := cond_t h c8
      refine sr [(4, .own 0 0 v26.length)] [some (.row 1 (List.map vt v26))] ?_
      refine TriE.ret ?_
      have h := Option.some.inj h
      subst h
      exact DoneS.ret (S' := ⟨[(4, eS 1 vt v26)], []⟩) (Sees.trans (Sees.freeze 0 (fr' := [(4, eS 1 vt v26)]) (ob' := [none]) rfl (frz_row vt_frzE _) (.cons (frz_full rfl) .nil) rfl) (sc [] (by decide) (by kernel_rfl) ObRen.nil rfl rfl)) rfl rfl
    have h := cond_f h c8
    refine TriE.skip ?_
    refine TriE.regJ ?_
    refine rn 3 [(0, eS 6 eTask a0), (1, eS 1 vt a1), (72, .own 0 0 v26.length), (73, eS 6 eTask a0), (74, vi v51)] [some (.row 1 (List.map vt v26))] ?_
    obtain ⟨c9, h⟩ := chk_some h
    refine jv (.fptr 6 (List.map eTask a0) v51.toNat 0) (cy (I0 75 (.iaddr 6 (.t 73) (.t 74)))) (ok_iaddr_m (j := v51.toNat) rfl rfl (inB_to c9) (inB_lt c9)) rfl ?_
    refine rn 1 [(0, eS 6 eTask a0), (1, eS 1 vt a1), (72, .own 0 0 v26.length), (76, .fptr 6 (List.map eTask a0) v51.toNat 0)] [some (.row 1 (List.map vt v26))] ?_
    obtain ⟨c10, h⟩ := chk_some h
    refine jv (vt ((ix a0 v51.toNat).Name)) (cy (I0 77 (.load false 1 (.t 76)))) (ok_load_fm (v := vt ((ix a0 v51.toNat).Name)) rfl c10 rfl) rfl ?_
    refine rn 1 [(0, eS 6 eTask a0), (1, eS 1 vt a1), (72, .own 0 0 v26.length), (78, .own 1 0 1)] [some (.row 1 (List.map vt v26)), some (.row 1 [vt ((ix a0 v51.toNat).Name)])] ?_
    obtain ⟨c11, h⟩ := chk_some h
    refine je (.own 2 0 ((v26 ++ ([(ix a0 v51.toNat).Name] : List Str)).length)) [none, some (.row 1 [vt ((ix a0 v51.toNat).Name)]), some (.row 1 (List.map vt (v26 ++ ([(ix a0 v51.toNat).Name] : List Str))))] (cy (I0 79 (.app 1 16 (.t 72) (.t 78)))) (ok_app_own (l := v26) (l2 := ([(ix a0 v51.toNat).Name] : List Str)) (e := vt) (u := .own 1 0 1) rfl rfl rfl rfl rfl c11) rfl rfl rfl ?_
    refine jq 1 [(0, eS 6 eTask a0), (1, eS 1 vt a1), (5, .own 2 0 ((v26 ++ ([(ix a0 v51.toNat).Name] : List Str)).length))] [none, some (.row 1 [vt ((ix a0 v51.toNat).Name)]), some (.row 1 (List.map vt (v26 ++ ([(ix a0 v51.toNat).Name] : List Str))))] ?_
    exact Vs.intro (sc [2] (by decide) (by kernel_rfl) (obRen_row vt_frz rfl .nil) rfl rfl) ⟨(v26 ++ ([(ix a0 v51.toNat).Name] : List Str)), rfl, h⟩
  intro k3 h
  refine sr [(0, eS 6 eTask a0), (1, eS 1 vt a1), (5, .own 0 0 v26.length), (6, vi (-1)), (7, vi 0)] [some (.row 1 (List.map vt v26))] ?_
  refine TriE.block ?_
  refine TriE.sees (S' := ⟨[(0, eS 6 eTask a0), (1, eS 1 vt a1), (5, .own 0 0 v26.length), (6, vi (-1)), (7, vi 0)], [some (.row 1 (List.map vt v26))]⟩) sy ?_
  refine TriE.loopN h (fun (t : Int × Nat) => match t with | (v38, v39) => St.mk [(0, eS 6 eTask a0), (1, eS 1 vt a1), (5, .own 0 0 v26.length), (6, vi v38), (7, vi v39)] [some (.row 1 (List.map vt v26))]) rfl ?_
  clear h
  rintro back ⟨v38, v39⟩ h
  dsimp only [agrafferef08_Order_L2] at h
  refine TriE.seq ?_
  refine sj ?_
  refine rn 2 [(0, eS 6 eTask a0), (1, eS 1 vt a1), (5, .own 0 0 v26.length), (6, vi v38), (7, vi v39), (11, vi v39), (12, eS 6 eTask a0)] [some (.row 1 (List.map vt v26))] ?_
  refine jv (vi (a0.length : Int)) (cy (I0 13 (.len 0 (.t 12)))) (ok_len_m rfl) rfl ?_
  refine jv (vb (decide (v39 < a0.length))) (cy (I0 14 (.bin .lss false (.t 11) (.t 13)))) (n_lss (i := v39) (j := a0.length) rfl rfl) rfl ?_
  refine rn 1 [(0, eS 6 eTask a0), (1, eS 1 vt a1), (5, .own 0 0 v26.length), (6, vi v38), (7, vi v39), (15, vb (decide (v39 < a0.length)))] [some (.row 1 (List.map vt v26))] ?_
  refine RegJ.op (Op1.valk (v := vi v38) _ _ (cy (IG 16 (.mov (.t 6)) 15 true)) rfl (by kernel_rfl) (fun hg => (.cons rfl .nil))) ?_
  refine RegJ.op (Op1.valk (v := vb (decide (v38 < (0 : Int)))) _ _ (cy (IG 17 (.bin .lss false (.t 16) (.c (.p (.int .i64 0)))) 15 true)) rfl (by kernel_rfl) (fun hg => (.cons hg (.cons rfl .nil)))) ?_
  refine RegJ.op (Op1.and (cy (I0 18 (.pick (.t 15) (.t 17) (.c (.p (.bool false)))))) rfl rfl (by first | exact hokA1 | exact hokA0 | simp)) ?_
  refine jp [(0, eS 6 eTask a0), (1, eS 1 vt a1), (5, .own 0 0 v26.length), (6, vi v38), (7, vi v39), (18, vb ((decide (v39 < a0.length)) && (decide (v38 < (0 : Int)))))] ?_
  refine TriE.cond (b := (decide (v39 < a0.length)) && (decide (v38 < (0 : Int)))) rfl (fun c1 => ?_) (fun c1 => ?_)
  · have h := cond_t h c1
    refine TriE.skip ?_
    refine TriE.seqK h (fun (v50 : Int) => St.mk [(0, eS 6 eTask a0), (1, eS 1 vt a1), (5, .own 0 0 v26.length), (6, vi v50), (7, vi v39)] [some (.row 1 (List.map vt v26))]) ?_ ?_
    · rintro v50 h
      refine TriE.regJ ?_
      refine rn 1 [(0, eS 6 eTask a0), (1, eS 1 vt a1), (5, .own 0 0 v26.length), (6, vi v50), (19, vi v39)] [some (.row 1 (List.map vt v26))] ?_
      obtain ⟨c7, h⟩ := chk_some h
      refine jv (vi ((v39 + 1 : Nat) : Int)) (cy (I0 20 (.bin .add false (.t 19) (.c (.p (.int .i64 1)))))) (r_addn (i := v39) (j := 1) rfl rfl c7) rfl ?_
      refine jq 1 [(0, eS 6 eTask a0), (1, eS 1 vt a1), (5, .own 0 0 v26.length), (6, vi v50), (7, vi ((v39 + 1 : Nat) : Int))] [some (.row 1 (List.map vt v26))] ?_
      exact Vs.intro sy ⟨(v50, v39 + 1), rfl, h⟩
    intro k2 h
    refine TriE.block ?_
    refine TriE.seq ?_
    refine sj ?_
    refine rn 3 [(0, eS 6 eTask a0), (1, eS 1 vt a1), (5, .own 0 0 v26.length), (6, vi v38), (7, vi v39), (21, eS 1 vt a1), (22, eS 6 eTask a0), (23, vi v39)] [some (.row 1 (List.map vt v26))] ?_
    obtain ⟨c2, h⟩ := chk_some h
    refine jv (.fptr 6 (List.map eTask a0) v39 0) (cy (I0 24 (.iaddr 6 (.t 22) (.t 23)))) (ok_iaddr_m (j := v39) rfl rfl rfl c2) rfl ?_
    refine rn 1 [(0, eS 6 eTask a0), (1, eS 1 vt a1), (5, .own 0 0 v26.length), (6, vi v38), (7, vi v39), (21, eS 1 vt a1), (25, .fptr 6 (List.map eTask a0) v39 0)] [some (.row 1 (List.map vt v26))] ?_
    refine jv (vt ((ix a0 v39).Name)) (cy (I0 26 (.load false 1 (.t 25)))) (ok_load_fm (v := vt ((ix a0 v39).Name)) rfl c2 rfl) rfl ?_
    obtain ⟨y40, hy40, h⟩ := bind_some h
    refine RegJ.op (Op1.call (y' := vb y40) (obx := []) (oby := []) (ob2 := [some (.row 1 (List.map vt v26))]) _ _ (cy (I0 27 (.call 81 [(.t 21), (.t 26)]))) rfl (agraffebase_HasText_ok n a1 ((ix a0 v39).Name) y40 hy40) [] (by kernel_rfl) (.cons rfl (.cons rfl (.cons rfl .nil))) (by kernel_rfl) (by kernel_rfl) ObsRen.nil (by kernel_rfl) ObsRen.nil (by kernel_rfl)) ?_
    refine rn 2 [(0, eS 6 eTask a0), (1, eS 1 vt a1), (5, .own 0 0 v26.length), (6, vi v38), (7, vi v39), (29, vb (!y40))] [some (.row 1 (List.map vt v26))] ?_
    refine RegJ.op (Op1.valk (v := .own 0 0 v26.length) _ _ (cy (IG 30 (.mov (.t 5)) 29 false)) rfl (by kernel_rfl) (fun hg => (.cons rfl .nil))) ?_
    refine RegJ.op (Op1.valk (v := eS 6 eTask a0) _ _ (cy (IG 31 (.mov (.t 0)) 29 false)) rfl (by kernel_rfl) (fun hg => (.cons rfl .nil))) ?_
    refine RegJ.op (Op1.valk (v := vi v39) _ _ (cy (IG 32 (.mov (.t 7)) 29 false)) rfl (by kernel_rfl) (fun hg => (.cons rfl .nil))) ?_
    refine RegJ.op (Op1.valg (v := .fptr 6 (List.map eTask a0) v39 0) _ _ (cy (IG 33 (.iaddr 6 (.t 31) (.t 32)) 29 false)) rfl (fun hg => (ok_iaddr_m (j := v39) rfl rfl rfl c2)) (fun hg => (.cons hg (.cons hg .nil)))) ?_
    refine RegJ.op (Op1.valk (v := .fptr 6 (List.map eTask a0) v39 0) _ _ (cy (IG 34 (.faddr 0 (.t 33)) 29 false)) rfl (by kernel_rfl) (fun hg => (.cons hg .nil))) ?_
    refine RegJ.op (Op1.valg (v := vt ((ix a0 v39).Name)) _ _ (cy (IG 35 (.load false 1 (.t 34)) 29 false)) rfl (fun hg => (ok_load_fm (v := vt ((ix a0 v39).Name)) rfl c2 rfl)) (fun hg => (.cons hg .nil))) ?_
    obtain ⟨y41, hy41, h⟩ := bind_some h
    refine RegJ.op (Op1.callg (g := !(!y40)) (y' := vb y41) (obx := [some (.row 1 (List.map vt v26))]) _ _ (cy (IG 36 (.call 81 [(.t 30), (.t 35)]) 29 false)) rfl (fun hg => agraffebase_HasText_2_ok n v26 ((ix a0 v39).Name) y41 (gcall_some hy41 hg)) [0] (fun hg => by kernel_rfl) (fun hg => (.cons rfl (.cons hg (.cons hg .nil)))) (by kernel_rfl) (by kernel_rfl) (.same (row_ren vt_frz _ _ _) .nil) (by kernel_rfl) (by kernel_rfl)) ?_
    refine RegJ.op (Op1.or (cy (I0 37 (.pick (.t 29) (.c (.p (.bool true))) (.t 36)))) rfl rfl (by first | exact hokO1 | exact hokO0 | simp)) ?_
    refine jp [(0, eS 6 eTask a0), (1, eS 1 vt a1), (5, .own 0 0 v26.length), (6, vi v38), (7, vi v39), (37, vb ((!y40) || y41))] ?_
    refine TriE.cond (b := (!y40) || y41) rfl (fun c3 => ?_) (fun c3 => ?_)
    · have h := cond_t h c3
      refine TriE.exit ?_
      exact Vs.intro sy ⟨v38, rfl, h⟩
    have h := cond_f h c3
    refine TriE.skip ?_
    refine sr [(0, eS 6 eTask a0), (1, eS 1 vt a1), (5, .own 0 0 v26.length), (6, vi v38), (7, vi v39), (8, vb true)] [some (.row 1 (List.map vt v26))] ?_
    refine sj ?_
    refine rn 2 [(0, eS 6 eTask a0), (1, eS 1 vt a1), (5, .own 0 0 v26.length), (6, vi v38), (7, vi v39), (8, vb true), (38, eS 6 eTask a0), (39, vi v39)] [some (.row 1 (List.map vt v26))] ?_
    refine jv (.fptr 6 (List.map eTask a0) v39 0) (cy (I0 40 (.iaddr 6 (.t 38) (.t 39)))) (ok_iaddr_m (j := v39) rfl rfl rfl c2) rfl ?_
    refine jv (.agg [vt ((ix a0 v39).Name), vi ((ix a0 v39).Cents), vi ((ix a0 v39).Hours), eS 1 vt ((ix a0 v39).Needs), eS 1 (eS 1 vt) ((ix a0 v39).OneOf), eS 2 ePartCount ((ix a0 v39).Parts)]) (cy (I0 41 (.load true 6 (.t 40)))) (ok_load_fm (v := .agg [vt ((ix a0 v39).Name), vi ((ix a0 v39).Cents), vi ((ix a0 v39).Hours), eS 1 vt ((ix a0 v39).Needs), eS 1 (eS 1 vt) ((ix a0 v39).OneOf), eS 2 ePartCount ((ix a0 v39).Parts)]) rfl c2 rfl) rfl ?_
    obtain ⟨y42, hy42, h⟩ := bind_some h
    refine RegJ.op (Op1.call (y' := eS 1 vt y42) (obx := []) (oby := []) (ob2 := [some (.row 1 (List.map vt v26))]) _ _ (cy (I0 42 (.call 80 [(.t 41)]))) rfl (agrafferef08_Leads_ok n (ix a0 v39) y42 hy42) [] (by kernel_rfl) (.cons rfl (.cons rfl .nil)) (by kernel_rfl) (by kernel_rfl) ObsRen.nil (by kernel_rfl) ObsRen.nil (by kernel_rfl)) ?_
    refine jq 1 [(0, eS 6 eTask a0), (1, eS 1 vt a1), (5, .own 0 0 v26.length), (6, vi v38), (7, vi v39), (8, vb true), (9, eS 1 vt y42)] [some (.row 1 (List.map vt v26))] ?_
    refine TriE.seqK h (fun (v49 : Bool) => St.mk [(0, eS 6 eTask a0), (1, eS 1 vt a1), (5, .own 0 0 v26.length), (6, vi v38), (7, vi v39), (8, vb v49)] [some (.row 1 (List.map vt v26))]) ?_ ?_
    · rintro v49 h
      refine sr [(0, eS 6 eTask a0), (1, eS 1 vt a1), (5, .own 0 0 v26.length), (6, vi v38), (7, vi v39), (67, vb v49)] [some (.row 1 (List.map vt v26))] ?_
      refine TriE.cond (b := v49) rfl (fun c6 => ?_) (fun c6 => ?_)
      · have h := cond_t h c6
        refine tr [(0, eS 6 eTask a0), (1, eS 1 vt a1), (5, .own 0 0 v26.length), (7, vi v39), (6, vi v39)] [some (.row 1 (List.map vt v26))] ?_
        exact Vs.intro sy ⟨(v39 : Int), rfl, h⟩
      have h := cond_f h c6
      refine TriE.skip ?_
      exact Vs.intro sy ⟨v38, rfl, h⟩
    intro k1 h
    refine sr [(0, eS 6 eTask a0), (1, eS 1 vt a1), (5, .own 0 0 v26.length), (6, vi v38), (7, vi v39), (8, vb true), (9, eS 1 vt y42), (10, vi 0)] [some (.row 1 (List.map vt v26))] ?_
    refine TriE.block ?_
    refine TriE.sees (S' := ⟨[(0, eS 6 eTask a0), (1, eS 1 vt a1), (5, .own 0 0 v26.length), (6, vi v38), (7, vi v39), (8, vb true), (9, eS 1 vt y42), (10, vi 0)], [some (.row 1 (List.map vt v26))]⟩) sy ?_
    refine TriE.loopN h (fun (t : Bool × Nat) => match t with | (v45, v46) => St.mk [(0, eS 6 eTask a0), (1, eS 1 vt a1), (5, .own 0 0 v26.length), (6, vi v38), (7, vi v39), (8, vb v45), (9, eS 1 vt y42), (10, vi v46)] [some (.row 1 (List.map vt v26))]) rfl ?_
    clear h
    rintro back ⟨v45, v46⟩ h
    dsimp only [agrafferef08_Order_L1] at h
    refine TriE.seq ?_
    refine sj ?_
    refine rn 2 [(0, eS 6 eTask a0), (1, eS 1 vt a1), (5, .own 0 0 v26.length), (6, vi v38), (7, vi v39), (8, vb v45), (9, eS 1 vt y42), (10, vi v46), (43, vi v46), (44, eS 1 vt y42)] [some (.row 1 (List.map vt v26))] ?_
    refine jv (vi (y42.length : Int)) (cy (I0 45 (.len 0 (.t 44)))) (ok_len_m rfl) rfl ?_
    refine jv (vb (decide (v46 < y42.length))) (cy (I0 46 (.bin .lss false (.t 43) (.t 45)))) (n_lss (i := v46) (j := y42.length) rfl rfl) rfl ?_
    refine jp [(0, eS 6 eTask a0), (1, eS 1 vt a1), (5, .own 0 0 v26.length), (6, vi v38), (7, vi v39), (8, vb v45), (9, eS 1 vt y42), (10, vi v46), (46, vb (decide (v46 < y42.length)))] ?_
    refine TriE.cond (b := decide (v46 < y42.length)) rfl (fun c4 => ?_) (fun c4 => ?_)
    · have h := cond_t h c4
      refine TriE.skip ?_
      refine TriE.seq ?_
      refine TriE.block ?_
      refine TriE.regJ ?_
      refine rn 2 [(0, eS 6 eTask a0), (1, eS 1 vt a1), (5, .own 0 0 v26.length), (6, vi v38), (7, vi v39), (9, eS 1 vt y42), (10, vi v46), (50, vb v45)] [some (.row 1 (List.map vt v26))] ?_
      refine RegJ.op (Op1.valk (v := eS 1 vt a1) _ _ (cy (IG 51 (.mov (.t 1)) 50 true)) rfl (by kernel_rfl) (fun hg => (.cons rfl .nil))) ?_
      refine RegJ.op (Op1.valk (v := eS 1 vt y42) _ _ (cy (IG 52 (.mov (.t 9)) 50 true)) rfl (by kernel_rfl) (fun hg => (.cons rfl .nil))) ?_
      refine RegJ.op (Op1.valk (v := vi v46) _ _ (cy (IG 53 (.mov (.t 10)) 50 true)) rfl (by kernel_rfl) (fun hg => (.cons rfl .nil))) ?_
      refine RegJ.op (Op1.valg (v := .fptr 1 (List.map vt y42) v46 0) _ _ (cy (IG 54 (.iaddr 1 (.t 52) (.t 53)) 50 true)) rfl (fun hg => (ok_iaddr_m (j := v46) rfl rfl rfl c4)) (fun hg => (.cons hg (.cons hg .nil)))) ?_
      refine RegJ.op (Op1.valg (v := vt (ix y42 v46)) _ _ (cy (IG 55 (.load false 1 (.t 54)) 50 true)) rfl (fun hg => (ok_load_fm (v := vt (ix y42 v46)) rfl c4 rfl)) (fun hg => (.cons hg .nil))) ?_
      obtain ⟨y47, hy47, h⟩ := bind_some h
      refine RegJ.op (Op1.callg (g := v45) (y' := vb y47) (obx := []) _ _ (cy (IG 56 (.call 81 [(.t 51), (.t 55)]) 50 true)) rfl (fun hg => agraffebase_HasText_ok n a1 (ix y42 v46) y47 (gcall_some hy47 hg)) [] (fun hg => by kernel_rfl) (fun hg => (.cons rfl (.cons hg (.cons hg .nil)))) (by kernel_rfl) (by kernel_rfl) ObsRen.nil (by kernel_rfl) (by kernel_rfl)) ?_
      refine RegJ.op (Op1.valk (v := vb (!y47)) _ _ (cy (IG 57 (.un .not (.t 56)) 50 true)) rfl (by kernel_rfl) (fun hg => (.cons hg .nil))) ?_
      refine RegJ.op (Op1.valk (v := vb (!y47)) _ _ (cy (IG 58 (.mov (.t 57)) 50 true)) rfl (by kernel_rfl) (fun hg => (.cons hg .nil))) ?_
      refine RegJ.op (Op1.valk (v := .own 0 0 v26.length) _ _ (cy (IG 59 (.mov (.t 5)) 58 false)) rfl (by kernel_rfl) (fun hg => (.cons rfl .nil))) ?_
      refine RegJ.op (Op1.valk (v := eS 1 vt y42) _ _ (cy (IG 60 (.mov (.t 9)) 58 false)) rfl (by kernel_rfl) (fun hg => (.cons rfl .nil))) ?_
      refine RegJ.op (Op1.valk (v := vi v46) _ _ (cy (IG 61 (.mov (.t 10)) 58 false)) rfl (by kernel_rfl) (fun hg => (.cons rfl .nil))) ?_
      refine RegJ.op (Op1.valg (v := .fptr 1 (List.map vt y42) v46 0) _ _ (cy (IG 62 (.iaddr 1 (.t 60) (.t 61)) 58 false)) rfl (fun hg => (ok_iaddr_m (j := v46) rfl rfl rfl c4)) (fun hg => (.cons hg (.cons hg .nil)))) ?_
      refine RegJ.op (Op1.valg (v := vt (ix y42 v46)) _ _ (cy (IG 63 (.load false 1 (.t 62)) 58 false)) rfl (fun hg => (ok_load_fm (v := vt (ix y42 v46)) rfl c4 rfl)) (fun hg => (.cons hg .nil))) ?_
      obtain ⟨y48, hy48, h⟩ := bind_some h
      refine RegJ.op (Op1.callg (g := v45 && !(!y47)) (y' := vb y48) (obx := [some (.row 1 (List.map vt v26))]) _ _ (cy (IG 64 (.call 81 [(.t 59), (.t 63)]) 58 false)) rfl (fun hg => agraffebase_HasText_2_ok n v26 (ix y42 v46) y48 (gcall_some hy48 hg)) [0] (fun hg => by kernel_rfl) (fun hg => (.cons rfl (.cons hg (.cons hg .nil)))) (by kernel_rfl) (by kernel_rfl) (.same (row_ren vt_frz _ _ _) .nil) (by kernel_rfl) (by kernel_rfl)) ?_
      refine RegJ.op (Op1.org (g := v45) (cy (IG 65 (.pick (.t 58) (.c (.p (.bool true))) (.t 64)) 50 true)) rfl rfl rfl (fun hg => by first | exact hokO2 hg | exact hokO3 hg | exact hokO1 | exact hokO0 | (rw [hg]; simp) | simp_all)) ?_
      refine RegJ.op (Op1.and (cy (I0 66 (.pick (.t 50) (.t 65) (.c (.p (.bool false)))))) rfl rfl (by first | exact hokA1 | exact hokA0 | simp)) ?_
      refine jq 1 [(0, eS 6 eTask a0), (1, eS 1 vt a1), (5, .own 0 0 v26.length), (6, vi v38), (7, vi v39), (9, eS 1 vt y42), (10, vi v46), (8, vb (v45 && ((!y47) || y48)))] [some (.row 1 (List.map vt v26))] ?_
      refine TriE.regJ ?_
      refine rn 1 [(0, eS 6 eTask a0), (1, eS 1 vt a1), (5, .own 0 0 v26.length), (6, vi v38), (7, vi v39), (9, eS 1 vt y42), (8, vb (v45 && ((!y47) || y48))), (47, vi v46)] [some (.row 1 (List.map vt v26))] ?_
      obtain ⟨c5, h⟩ := chk_some h
      refine jv (vi ((v46 + 1 : Nat) : Int)) (cy (I0 48 (.bin .add false (.t 47) (.c (.p (.int .i64 1)))))) (r_addn (i := v46) (j := 1) rfl rfl c5) rfl ?_
      refine jq 1 [(0, eS 6 eTask a0), (1, eS 1 vt a1), (5, .own 0 0 v26.length), (6, vi v38), (7, vi v39), (9, eS 1 vt y42), (8, vb (v45 && ((!y47) || y48))), (10, vi ((v46 + 1 : Nat) : Int))] [some (.row 1 (List.map vt v26))] ?_
      exact Vs.intro sy ⟨(v45 && ((!y47) || y48), v46 + 1), rfl, h⟩
    have h := cond_f h c4
    refine TriE.exit ?_
    exact Vs.intro sy ⟨v45, rfl, h⟩
  have h := cond_f h c1
  refine TriE.exit ?_
  exact Vs.intro sy ⟨v38, rfl, h⟩
theorem agrafferef08_CheckTasks_ok (n : Nat) (a0 : List Task) (r : Int) (h : agrafferef08_CheckTasks n a0 = some r) : FnL Tryz.prog 21 [eS 6 eTask a0] [] (vi r) [] := by
  dsimp only [agrafferef08_CheckTasks] at h
  refine FnL.ofS (ts := [2]) Tryz.call21 Tryz.func21 rfl rfl (Nat.le_of_ble_eq_true rfl) (Nat.le_of_ble_eq_true rfl) (fun j h => absurd h (Nat.not_lt_zero j)) ?_
  refine sr [(0, eS 6 eTask a0)] [] ?_
  refine TriE.seq ?_
  refine sj ?_
  refine rn 1 [(0, eS 6 eTask a0), (7, eS 6 eTask a0)] [] ?_
  refine jv (vi (a0.length : Int)) (cy (I0 8 (.len 0 (.t 7)))) (ok_len_m rfl) rfl ?_
  refine jv (vb (decide (60 < a0.length))) (cy (I0 9 (.bin .gtr false (.t 8) (.c (.p (.int .i64 60)))))) (n_gtr (i := a0.length) (j := 60) rfl rfl) rfl ?_
  refine jp [(0, eS 6 eTask a0), (9, vb (decide (60 < a0.length)))] ?_
  refine TriE.cond (b := decide (60 < a0.length)) rfl (fun c1 => ?_) (fun c1 => ?_)
  · have h := cond_t h c1
    refine sr [(2, vi 8)] [] ?_
    refine TriE.ret ?_
    have h := Option.some.inj h
    subst h
    exact DoneS.ret (S' := ⟨[(2, vi 8)], []⟩) Sees.refl rfl rfl
  have h := cond_f h c1
  refine TriE.skip ?_
  refine TriE.seqK h (fun (_ : Unit) => St.mk [(0, eS 6 eTask a0)] []) ?_ ?_
  · rintro ⟨⟩ h
    refine sr [(0, eS 6 eTask a0), (5, .emp)] [] ?_
    refine TriE.seqK h (fun (v6 : (List Str)) => St.mk [(0, eS 6 eTask a0), (5, .own 0 0 v6.length)] [some (.row 1 (List.map vt v6))]) ?_ ?_
    · rintro v6 h
      refine TriE.seq ?_
      refine sj ?_
      refine rn 2 [(0, eS 6 eTask a0), (36, eS 6 eTask a0), (37, .own 0 0 v6.length)] [some (.row 1 (List.map vt v6))] ?_
      refine RegJ.sees (Sees.freeze 0 (fr' := [(0, eS 6 eTask a0), (36, eS 6 eTask a0), (37, eS 1 vt v6)]) (ob' := [none]) rfl (frz_row vt_frzE _) (.cons (.refl _) (.cons (.refl _) (.cons (frz_full rfl) .nil))) rfl) ?_
      obtain ⟨y7, hy7, h⟩ := bind_some h
      refine RegJ.op (Op1.call (y' := eS 1 vt y7) (obx := []) (oby := []) (ob2 := [none]) _ _ (cy (I0 38 (.call 78 [(.t 36), (.t 37)]))) rfl (agrafferef08_Order_ok n a0 v6 y7 hy7) [] (by kernel_rfl) (.cons rfl (.cons rfl (.cons rfl .nil))) (by kernel_rfl) (by kernel_rfl) ObsRen.nil (by kernel_rfl) ObsRen.nil (by kernel_rfl)) ?_
      refine jv (vi (y7.length : Int)) (cy (I0 39 (.len 0 (.t 38)))) (ok_len_m rfl) rfl ?_
      refine rn 1 [(39, vi (y7.length : Int)), (40, eS 6 eTask a0)] [none] ?_
      refine jv (vi (a0.length : Int)) (cy (I0 41 (.len 0 (.t 40)))) (ok_len_m rfl) rfl ?_
      refine jv (vb (decide (y7.length < a0.length))) (cy (I0 42 (.bin .lss false (.t 39) (.t 41)))) (n_lss (i := y7.length) (j := a0.length) rfl rfl) rfl ?_
      refine jp [(42, vb (decide (y7.length < a0.length)))] ?_
      refine TriE.cond (b := decide (y7.length < a0.length)) rfl (fun c8 => ?_) (fun c8 => ?_)
      · have h := cond_t h c8
        refine sr [(2, vi 21)] [none] ?_
        refine TriE.ret ?_
        have h := Option.some.inj h
        subst h
        exact DoneS.ret (S' := ⟨[(2, vi 21)], []⟩) (sc [] (by decide) (by kernel_rfl) ObRen.nil rfl rfl) rfl rfl
      have h := cond_f h c8
      refine TriE.skip ?_
      refine sr [(2, vi 0)] [none] ?_
      refine TriE.ret ?_
      have h := Option.some.inj h
      subst h
      exact DoneS.ret (S' := ⟨[(2, vi 0)], []⟩) (sc [] (by decide) (by kernel_rfl) ObRen.nil rfl rfl) rfl rfl
    intro k2 h
    refine sr [(0, eS 6 eTask a0), (5, .emp), (6, vi 0)] [] ?_
    refine TriE.block ?_
    refine TriE.sees (S' := ⟨[(0, eS 6 eTask a0), (5, .own 0 0 ([] : List Str).length), (6, vi 0)], [some (.row 1 (List.map vt ([] : List Str)))]⟩) (Sees.trans (Sees.co (fr' := [(0, eS 6 eTask a0), (5, .own 0 0 0), (6, vi 0)]) (ob' := []) (.cons .same (.cons .own (.cons .same .nil))) ObCo.nil 1) sy) ?_
    refine TriE.loopN h (fun (t : (List Str) × Nat) => match t with | (v4, v5) => St.mk [(0, eS 6 eTask a0), (5, .own 0 0 v4.length), (6, vi v5)] [some (.row 1 (List.map vt v4))]) rfl ?_
    clear h
    rintro back ⟨v4, v5⟩ h
    dsimp only [agrafferef08_CheckTasks_L2] at h
    refine TriE.seq ?_
    refine sj ?_
    refine rn 2 [(0, eS 6 eTask a0), (5, .own 0 0 v4.length), (6, vi v5), (22, vi v5), (23, eS 6 eTask a0)] [some (.row 1 (List.map vt v4))] ?_
    refine jv (vi (a0.length : Int)) (cy (I0 24 (.len 0 (.t 23)))) (ok_len_m rfl) rfl ?_
    refine jv (vb (decide (v5 < a0.length))) (cy (I0 25 (.bin .lss false (.t 22) (.t 24)))) (n_lss (i := v5) (j := a0.length) rfl rfl) rfl ?_
    refine jp [(0, eS 6 eTask a0), (5, .own 0 0 v4.length), (6, vi v5), (25, vb (decide (v5 < a0.length)))] ?_
    refine TriE.cond (b := decide (v5 < a0.length)) rfl (fun c5 => ?_) (fun c5 => ?_)
    · have h := cond_t h c5
      refine TriE.skip ?_
      refine TriE.seq ?_
      refine TriE.block ?_
      refine TriE.regJ ?_
      refine rn 3 [(0, eS 6 eTask a0), (6, vi v5), (28, .own 0 0 v4.length), (29, eS 6 eTask a0), (30, vi v5)] [some (.row 1 (List.map vt v4))] ?_
      refine jv (.fptr 6 (List.map eTask a0) v5 0) (cy (I0 31 (.iaddr 6 (.t 29) (.t 30)))) (ok_iaddr_m (j := v5) rfl rfl rfl c5) rfl ?_
      refine rn 1 [(0, eS 6 eTask a0), (6, vi v5), (28, .own 0 0 v4.length), (32, .fptr 6 (List.map eTask a0) v5 0)] [some (.row 1 (List.map vt v4))] ?_
      refine jv (vt ((ix a0 v5).Name)) (cy (I0 33 (.load false 1 (.t 32)))) (ok_load_fm (v := vt ((ix a0 v5).Name)) rfl c5 rfl) rfl ?_
      refine rn 1 [(0, eS 6 eTask a0), (6, vi v5), (28, .own 0 0 v4.length), (34, .own 1 0 1)] [some (.row 1 (List.map vt v4)), some (.row 1 [vt ((ix a0 v5).Name)])] ?_
      obtain ⟨c6, h⟩ := chk_some h
      refine je (.own 2 0 ((v4 ++ ([(ix a0 v5).Name] : List Str)).length)) [none, some (.row 1 [vt ((ix a0 v5).Name)]), some (.row 1 (List.map vt (v4 ++ ([(ix a0 v5).Name] : List Str))))] (cy (I0 35 (.app 1 16 (.t 28) (.t 34)))) (ok_app_own (l := v4) (l2 := ([(ix a0 v5).Name] : List Str)) (e := vt) (u := .own 1 0 1) rfl rfl rfl rfl rfl c6) rfl rfl rfl ?_
      refine jq 1 [(0, eS 6 eTask a0), (6, vi v5), (5, .own 2 0 ((v4 ++ ([(ix a0 v5).Name] : List Str)).length))] [none, some (.row 1 [vt ((ix a0 v5).Name)]), some (.row 1 (List.map vt (v4 ++ ([(ix a0 v5).Name] : List Str))))] ?_
      refine TriE.regJ ?_
      refine rn 1 [(0, eS 6 eTask a0), (5, .own 2 0 ((v4 ++ ([(ix a0 v5).Name] : List Str)).length)), (26, vi v5)] [none, some (.row 1 [vt ((ix a0 v5).Name)]), some (.row 1 (List.map vt (v4 ++ ([(ix a0 v5).Name] : List Str))))] ?_
      obtain ⟨c7, h⟩ := chk_some h
      refine jv (vi ((v5 + 1 : Nat) : Int)) (cy (I0 27 (.bin .add false (.t 26) (.c (.p (.int .i64 1)))))) (r_addn (i := v5) (j := 1) rfl rfl c7) rfl ?_
      refine jq 1 [(0, eS 6 eTask a0), (5, .own 2 0 ((v4 ++ ([(ix a0 v5).Name] : List Str)).length)), (6, vi ((v5 + 1 : Nat) : Int))] [none, some (.row 1 [vt ((ix a0 v5).Name)]), some (.row 1 (List.map vt (v4 ++ ([(ix a0 v5).Name] : List Str))))] ?_
      exact Vs.intro (sc [2] (by decide) (by kernel_rfl) (obRen_row vt_frz rfl .nil) rfl rfl) ⟨((v4 ++ ([(ix a0 v5).Name] : List Str)), v5 + 1), rfl, h⟩
    have h := cond_f h c5
    refine TriE.exit ?_
    exact Vs.intro sy ⟨v4, rfl, h⟩
  intro k1 h
  refine sr [(0, eS 6 eTask a0), (3, vi 0)] [] ?_
  refine TriE.block ?_
  refine TriE.sees (S' := ⟨[(0, eS 6 eTask a0), (3, vi 0)], []⟩) sy ?_
  refine TriE.loopN h (fun (v2 : Nat) => St.mk [(0, eS 6 eTask a0), (3, vi v2)] []) rfl ?_
  clear h
  rintro back v2 h
  dsimp only [agrafferef08_CheckTasks_L1] at h
  refine TriE.seq ?_
  refine sj ?_
  refine rn 2 [(0, eS 6 eTask a0), (3, vi v2), (10, vi v2), (11, eS 6 eTask a0)] [] ?_
  refine jv (vi (a0.length : Int)) (cy (I0 12 (.len 0 (.t 11)))) (ok_len_m rfl) rfl ?_
  refine jv (vb (decide (v2 < a0.length))) (cy (I0 13 (.bin .lss false (.t 10) (.t 12)))) (n_lss (i := v2) (j := a0.length) rfl rfl) rfl ?_
  refine jp [(0, eS 6 eTask a0), (3, vi v2), (13, vb (decide (v2 < a0.length)))] ?_
  refine TriE.cond (b := decide (v2 < a0.length)) rfl (fun c2 => ?_) (fun c2 => ?_)
  · have h := cond_t h c2
    refine TriE.skip ?_
    refine TriE.seq ?_
    refine TriE.block ?_
    refine sj ?_
    refine rn 2 [(0, eS 6 eTask a0), (3, vi v2), (16, eS 6 eTask a0), (17, vi v2)] [] ?_
    obtain ⟨y3, hy3, h⟩ := bind_some h
    refine RegJ.op (Op1.call (y' := vi y3) (obx := []) (oby := []) (ob2 := []) _ _ (cy (I0 18 (.call 88 [(.t 16), (.t 17)]))) rfl (agrafferef08_task_ok n a0 (v2 : Int) y3 hy3) [] (by kernel_rfl) (.cons rfl (.cons rfl (.cons rfl .nil))) (by kernel_rfl) (by kernel_rfl) ObsRen.nil (by kernel_rfl) ObsRen.nil (by kernel_rfl)) ?_
    refine jq 1 [(0, eS 6 eTask a0), (3, vi v2), (4, vi y3)] [] ?_
    refine sr [(0, eS 6 eTask a0), (3, vi v2), (4, vi y3), (20, vb (y3 != (0 : Int)))] [] ?_
    refine TriE.cond (b := (y3 != (0 : Int))) rfl (fun c3 => ?_) (fun c3 => ?_)
    · have h := cond_t h c3
      refine sr [(2, vi y3)] [] ?_
      refine TriE.ret ?_
      have h := Option.some.inj h
      subst h
      exact DoneS.ret (S' := ⟨[(2, vi y3)], []⟩) Sees.refl rfl rfl
    have h := cond_f h c3
    refine TriE.skip ?_
    refine TriE.regJ ?_
    refine rn 1 [(0, eS 6 eTask a0), (14, vi v2)] [] ?_
    obtain ⟨c4, h⟩ := chk_some h
    refine jv (vi ((v2 + 1 : Nat) : Int)) (cy (I0 15 (.bin .add false (.t 14) (.c (.p (.int .i64 1)))))) (r_addn (i := v2) (j := 1) rfl rfl c4) rfl ?_
    refine jq 1 [(0, eS 6 eTask a0), (3, vi ((v2 + 1 : Nat) : Int))] [] ?_
    exact Vs.intro sy ⟨(v2 + 1), rfl, h⟩
  have h := cond_f h c2
  refine TriE.exit ?_
  exact Vs.intro sy ⟨(), rfl, h⟩
theorem agraffelaw08_stock_ok (n : Nat) (a0 : List Stocked) (r : Unit) (h : agraffelaw08_stock n a0 = some r) : FnL Tryz.prog 23 [eS 3 eStocked a0] [] (eS 3 eStocked a0) [] := by
  dsimp only [agraffelaw08_stock] at h
  refine FnL.ofS (ts := [2]) Tryz.call23 Tryz.func23 rfl rfl (Nat.le_of_ble_eq_true rfl) (Nat.le_of_ble_eq_true rfl) (fun j h => absurd h (Nat.not_lt_zero j)) ?_
  refine sr [(0, eS 3 eStocked a0)] [] ?_
  refine sj ?_
  refine rn 2 [(3, .emp), (4, eS 3 eStocked a0)] [] ?_
  obtain ⟨c1, h⟩ := chk_some h
  refine je (.own 0 0 a0.length) [some (.row 3 (List.map eStocked a0))] (cy (I0 5 (.app 3 32 (.t 3) (.t 4)))) (ok_app_emp (e := eStocked) (l := a0) (u := eS 3 eStocked a0) rfl rfl els_sl c1) rfl rfl rfl ?_
  refine jq 1 [(2, .own 0 0 a0.length)] [some (.row 3 (List.map eStocked a0))] ?_
  refine TriE.ret ?_
  have h := Option.some.inj h
  subst h
  exact DoneS.ret (S' := ⟨[(2, eS 3 eStocked a0)], []⟩) (Sees.trans (Sees.freeze 0 (fr' := [(2, eS 3 eStocked a0)]) (ob' := [none]) rfl (frz_row eStocked_frzE _) (.cons (frz_full rfl) .nil) rfl) (sc [] (by decide) (by kernel_rfl) ObRen.nil rfl rfl)) rfl rfl
theorem restore_stocked_f1_ok (n : Nat) (a0 : Stocked) (a1 : Str) (r : Unit) (h : restore_stocked_f1 n a0 a1 = some r) : FnL Tryz.prog 158 [.agg [vt a0.Part, vi a0.Cents, vi a0.Count], .ptr 0 0 0] [some (.row 1 [vt a1])] (vb (a0.Part == a1)) [some (.row 1 [vt a1])] := by
  dsimp only [restore_stocked_f1] at h
  refine FnL.ofS (ts := [3]) Tryz.call158 Tryz.func158 rfl rfl (Nat.le_of_ble_eq_true rfl) (Nat.le_of_ble_eq_true rfl) (hall_of (.cons rfl .nil)) ?_
  refine sr [(1, .ptr 0 0 0), (2, .ptr 1 0 0)] [some (.row 1 [vt a1]), some (.row 3 [.agg [vt a0.Part, vi a0.Cents, vi a0.Count]])] ?_
  refine sr [(3, vb (a0.Part == a1))] [some (.row 1 [vt a1]), some (.row 3 [.agg [vt a0.Part, vi a0.Cents, vi a0.Count]])] ?_
  refine TriE.ret ?_
  have h := Option.some.inj h
  subst h
  exact DoneS.ret (S' := ⟨[(3, vb (a0.Part == a1))], [some (.row 1 [vt a1])]⟩) (sc [0] (by decide) (by kernel_rfl) (.cons rfl .nil) rfl rfl) rfl rfl
theorem slices_IndexFunc_Stocked_ok (n : Nat) (a0 : List Stocked) (a1 : Str) (r : Int) (h : slices_IndexFunc_Stocked n a0 a1 = some r) : FnL Tryz.prog 157 [eS 3 eStocked a0, .fn (.func 158) [] [.ptr 0 0 0]] [some (.row 1 [vt a1])] (vi r) [some (.row 1 [vt a1])] := by
  dsimp only [slices_IndexFunc_Stocked] at h
  refine FnL.ofS (ts := [4]) Tryz.call157 Tryz.func157 rfl rfl (Nat.le_of_ble_eq_true rfl) (Nat.le_of_ble_eq_true rfl) (hall_of (.cons rfl .nil)) ?_
  refine sr [(0, eS 3 eStocked a0), (1, .fn (.func 158) [] [.ptr 0 0 0])] [some (.row 1 [vt a1])] ?_
  refine TriE.seqK h (fun (_ : Unit) => St.mk [] [some (.row 1 [vt a1])]) ?_ ?_
  · rintro ⟨⟩ h
    refine sr [(4, vi (-1))] [some (.row 1 [vt a1])] ?_
    refine TriE.ret ?_
    have h := Option.some.inj h
    subst h
    exact DoneS.ret (S' := ⟨[(4, vi (-1))], [some (.row 1 [vt a1])]⟩) Sees.refl rfl rfl
  intro k1 h
  refine sj ?_
  refine rn 1 [(0, eS 3 eStocked a0), (1, .fn (.func 158) [] [.ptr 0 0 0]), (6, eS 3 eStocked a0)] [some (.row 1 [vt a1])] ?_
  refine jv (vi (a0.length : Int)) (cy (I0 7 (.len 0 (.t 6)))) (ok_len_m rfl) rfl ?_
  refine jq 1 [(0, eS 3 eStocked a0), (1, .fn (.func 158) [] [.ptr 0 0 0]), (7, vi (a0.length : Int)), (8, vi 0)] [some (.row 1 [vt a1])] ?_
  refine TriE.block ?_
  refine TriE.sees (S' := ⟨[(0, eS 3 eStocked a0), (1, .fn (.func 158) [] [.ptr 0 0 0]), (7, vi (a0.length : Int)), (8, vi 0)], [some (.row 1 [vt a1])]⟩) sy ?_
  refine TriE.loopN h (fun (v2 : Nat) => St.mk [(0, eS 3 eStocked a0), (1, .fn (.func 158) [] [.ptr 0 0 0]), (7, vi (a0.length : Int)), (8, vi v2)] [some (.row 1 [vt a1])]) rfl ?_
  clear h
  rintro back v2 h
  dsimp only [slices_IndexFunc_Stocked_L1] at h
  refine sj ?_
  refine jv (vb (decide (v2 < a0.length))) (cy (I0 9 (.bin .lss false (.t 8) (.t 7)))) (n_lss (i := v2) (j := a0.length) rfl rfl) rfl ?_
  refine jp [(0, eS 3 eStocked a0), (1, .fn (.func 158) [] [.ptr 0 0 0]), (7, vi (a0.length : Int)), (8, vi v2), (9, vb (decide (v2 < a0.length)))] ?_
  refine TriE.seq ?_
  refine TriE.cond (b := decide (v2 < a0.length)) rfl (fun c1 => ?_) (fun c1 => ?_)
  · have h := cond_t h c1
    refine TriE.skip ?_
    refine TriE.seq ?_
    refine TriE.block ?_
    refine sr [(0, eS 3 eStocked a0), (1, .fn (.func 158) [] [.ptr 0 0 0]), (7, vi (a0.length : Int)), (8, vi v2), (5, vi v2)] [some (.row 1 [vt a1])] ?_
    refine sj ?_
    refine rn 3 [(0, eS 3 eStocked a0), (1, .fn (.func 158) [] [.ptr 0 0 0]), (7, vi (a0.length : Int)), (8, vi v2), (5, vi v2), (11, .fn (.func 158) [] [.ptr 0 0 0]), (12, eS 3 eStocked a0), (13, vi v2)] [some (.row 1 [vt a1])] ?_
    refine jv (.fptr 3 (List.map eStocked a0) v2 0) (cy (I0 14 (.iaddr 3 (.t 12) (.t 13)))) (ok_iaddr_m (j := v2) rfl rfl rfl c1) rfl ?_
    refine jv (.agg [vt ((ix a0 v2).Part), vi ((ix a0 v2).Cents), vi ((ix a0 v2).Count)]) (cy (I0 15 (.load true 3 (.t 14)))) (ok_load_fm (v := .agg [vt ((ix a0 v2).Part), vi ((ix a0 v2).Cents), vi ((ix a0 v2).Count)]) rfl c1 rfl) rfl ?_
    obtain ⟨y3, hy3, h⟩ := bind_some h
    refine RegJ.op (Op1.dyn (y' := vb ((ix a0 v2).Part == a1)) (obx := [some (.row 1 [vt a1])]) (oby := [some (.row 1 [vt a1])]) (ob2 := [some (.row 1 [vt a1])]) _ _ _ (cy (I0 16 (.dyn (.t 11) [(.t 15)]))) rfl rfl (restore_stocked_f1_ok n (ix a0 v2) a1 y3 hy3) [0] (by kernel_rfl) (.cons rfl (.cons rfl .nil)) (by kernel_rfl) (by kernel_rfl) (.cons rfl .nil) (by kernel_rfl) (.cons rfl .nil) (by kernel_rfl)) ?_
    refine jp [(0, eS 3 eStocked a0), (1, .fn (.func 158) [] [.ptr 0 0 0]), (7, vi (a0.length : Int)), (8, vi v2), (5, vi v2), (16, vb ((ix a0 v2).Part == a1))] ?_
    refine TriE.cond (b := ((ix a0 v2).Part == a1)) rfl (fun c2 => ?_) (fun c2 => ?_)
    · have h := cond_t h c2
      refine sr [(4, vi v2)] [some (.row 1 [vt a1])] ?_
      refine TriE.ret ?_
      have h := Option.some.inj h
      subst h
      exact DoneS.ret (S' := ⟨[(4, vi v2)], [some (.row 1 [vt a1])]⟩) Sees.refl rfl rfl
    have h := cond_f h c2
    refine TriE.skip ?_
    refine TriE.regJ ?_
    obtain ⟨c3, h⟩ := chk_some h
    refine jv (vi ((v2 + 1 : Nat) : Int)) (cy (I0 18 (.bin .add false (.t 8) (.c (.p (.int .i64 1)))))) (r_addn (i := v2) (j := 1) rfl rfl c3) rfl ?_
    refine jq 1 [(0, eS 3 eStocked a0), (1, .fn (.func 158) [] [.ptr 0 0 0]), (7, vi (a0.length : Int)), (8, vi ((v2 + 1 : Nat) : Int))] [some (.row 1 [vt a1])] ?_
    exact Vs.intro sy ⟨(v2 + 1), rfl, h⟩
  have h := cond_f h c1
  refine TriE.exit ?_
  exact Vs.intro sy ⟨(), rfl, h⟩
theorem restore_stocked_ok (n : Nat) (a0 : List Stocked) (a1 : Str) (r : Int) (h : restore_stocked n a0 a1 = some r) : FnL Tryz.prog 90 [eS 3 eStocked a0, vt a1] [] (vi r) [] := by
  dsimp only [restore_stocked] at h
  refine FnL.ofS (ts := [4]) Tryz.call90 Tryz.func90 rfl rfl (Nat.le_of_ble_eq_true rfl) (Nat.le_of_ble_eq_true rfl) (fun j h => absurd h (Nat.not_lt_zero j)) ?_
  refine sr [(0, eS 3 eStocked a0), (3, .ptr 0 0 0)] [some (.row 1 [vt a1])] ?_
  refine sj ?_
  refine rn 2 [(5, eS 3 eStocked a0), (6, .fn (.func 158) [] [.ptr 0 0 0])] [some (.row 1 [vt a1])] ?_
  obtain ⟨y1, hy1, h⟩ := bind_some h
  refine RegJ.op (Op1.call (y' := vi y1) (obx := [some (.row 1 [vt a1])]) (oby := [some (.row 1 [vt a1])]) (ob2 := [some (.row 1 [vt a1])]) _ _ (cy (I0 7 (.call 157 [(.t 5), (.t 6)]))) rfl (slices_IndexFunc_Stocked_ok n a0 a1 y1 hy1) [0] (by kernel_rfl) (.cons rfl (.cons rfl (.cons rfl .nil))) (by kernel_rfl) (by kernel_rfl) (.cons rfl .nil) (by kernel_rfl) (.cons rfl .nil) (by kernel_rfl)) ?_
  refine jq 1 [(4, vi y1)] [some (.row 1 [vt a1])] ?_
  refine TriE.ret ?_
  have h := Option.some.inj h
  subst h
  exact DoneS.ret (S' := ⟨[(4, vi y1)], []⟩) (sc [] (by decide) (by kernel_rfl) ObRen.nil rfl rfl) rfl rfl
theorem restore_CheckStock_ok (n : Nat) (a0 : List Stocked) (r : Int) (h : restore_CheckStock n a0 = some r) : FnL Tryz.prog 22 [eS 3 eStocked a0] [] (vi r) [] := by
  dsimp only [restore_CheckStock] at h
  refine FnL.ofS (ts := [2]) Tryz.call22 Tryz.func22 rfl rfl (Nat.le_of_ble_eq_true rfl) (Nat.le_of_ble_eq_true rfl) (fun j h => absurd h (Nat.not_lt_zero j)) ?_
  refine sr [(0, eS 3 eStocked a0)] [] ?_
  refine TriE.seq ?_
  refine sj ?_
  refine rn 1 [(0, eS 3 eStocked a0), (5, eS 3 eStocked a0)] [] ?_
  refine jv (vi (a0.length : Int)) (cy (I0 6 (.len 0 (.t 5)))) (ok_len_m rfl) rfl ?_
  refine jv (vb (decide (60 < a0.length))) (cy (I0 7 (.bin .gtr false (.t 6) (.c (.p (.int .i64 60)))))) (n_gtr (i := a0.length) (j := 60) rfl rfl) rfl ?_
  refine jp [(0, eS 3 eStocked a0), (7, vb (decide (60 < a0.length)))] ?_
  refine TriE.cond (b := decide (60 < a0.length)) rfl (fun c1 => ?_) (fun c1 => ?_)
  · have h := cond_t h c1
    refine sr [(2, vi 8)] [] ?_
    refine TriE.ret ?_
    have h := Option.some.inj h
    subst h
    exact DoneS.ret (S' := ⟨[(2, vi 8)], []⟩) Sees.refl rfl rfl
  have h := cond_f h c1
  refine TriE.skip ?_
  refine TriE.seqK h (fun (_ : Unit) => St.mk [] []) ?_ ?_
  · rintro ⟨⟩ h
    refine sr [(2, vi 0)] [] ?_
    refine TriE.ret ?_
    have h := Option.some.inj h
    subst h
    exact DoneS.ret (S' := ⟨[(2, vi 0)], []⟩) Sees.refl rfl rfl
  intro k1 h
  refine sj ?_
  refine rn 1 [(0, eS 3 eStocked a0), (8, eS 3 eStocked a0)] [] ?_
  refine jv (vi (a0.length : Int)) (cy (I0 9 (.len 0 (.t 8)))) (ok_len_m rfl) rfl ?_
  refine jq 1 [(0, eS 3 eStocked a0), (8, eS 3 eStocked a0), (9, vi (a0.length : Int)), (10, vi 0)] [] ?_
  refine TriE.block ?_
  refine TriE.sees (S' := ⟨[(0, eS 3 eStocked a0), (8, eS 3 eStocked a0), (9, vi (a0.length : Int)), (10, vi 0)], []⟩) sy ?_
  refine TriE.loopN h (fun (v5 : Nat) => St.mk [(0, eS 3 eStocked a0), (8, eS 3 eStocked a0), (9, vi (a0.length : Int)), (10, vi v5)] []) rfl ?_
  clear h
  rintro back v5 h
  dsimp only [restore_CheckStock_L1] at h
  refine sj ?_
  refine jv (vb (decide (v5 < a0.length))) (cy (I0 11 (.bin .lss false (.t 10) (.t 9)))) (n_lss (i := v5) (j := a0.length) rfl rfl) rfl ?_
  refine jp [(0, eS 3 eStocked a0), (8, eS 3 eStocked a0), (9, vi (a0.length : Int)), (10, vi v5), (11, vb (decide (v5 < a0.length)))] ?_
  refine TriE.seq ?_
  refine TriE.cond (b := decide (v5 < a0.length)) rfl (fun c2 => ?_) (fun c2 => ?_)
  · have h := cond_t h c2
    refine TriE.skip ?_
    refine TriE.seq ?_
    refine TriE.block ?_
    refine sj ?_
    refine rn 1 [(0, eS 3 eStocked a0), (8, eS 3 eStocked a0), (9, vi (a0.length : Int)), (10, vi v5), (12, vi v5)] [] ?_
    refine jv (.fptr 3 (List.map eStocked a0) v5 0) (cy (I0 13 (.iaddr 3 (.t 8) (.t 10)))) (ok_iaddr_m (j := v5) rfl rfl rfl c2) rfl ?_
    refine jv (.agg [vt ((ix a0 v5).Part), vi ((ix a0 v5).Cents), vi ((ix a0 v5).Count)]) (cy (I0 14 (.load true 3 (.t 13)))) (ok_load_fm (v := .agg [vt ((ix a0 v5).Part), vi ((ix a0 v5).Cents), vi ((ix a0 v5).Count)]) rfl c2 rfl) rfl ?_
    refine jq 3 [(0, eS 3 eStocked a0), (8, eS 3 eStocked a0), (9, vi (a0.length : Int)), (10, vi v5), (4, .ptr 0 0 0), (3, vi v5)] [some (.row 3 [.agg [vt ((ix a0 v5).Part), vi ((ix a0 v5).Cents), vi ((ix a0 v5).Count)]])] ?_
    refine TriE.block ?_
    refine sj ?_
    refine rn 2 [(0, eS 3 eStocked a0), (8, eS 3 eStocked a0), (9, vi (a0.length : Int)), (10, vi v5), (4, .ptr 0 0 0), (3, vi v5), (17, vt ((ix a0 v5).Part))] [some (.row 3 [.agg [vt ((ix a0 v5).Part), vi ((ix a0 v5).Cents), vi ((ix a0 v5).Count)]])] ?_
    obtain ⟨y6, hy6, h⟩ := bind_some h
    refine RegJ.op (Op1.call (y' := vb y6) (obx := []) (oby := []) (ob2 := [some (.row 3 [.agg [vt ((ix a0 v5).Part), vi ((ix a0 v5).Cents), vi ((ix a0 v5).Count)]])]) _ _ (cy (I0 18 (.call 89 [(.t 17)]))) rfl (restore_isName_ok n ((ix a0 v5).Part) y6 hy6) [] (by kernel_rfl) (.cons rfl (.cons rfl .nil)) (by kernel_rfl) (by kernel_rfl) ObsRen.nil (by kernel_rfl) ObsRen.nil (by kernel_rfl)) ?_
    refine jq 2 [(0, eS 3 eStocked a0), (8, eS 3 eStocked a0), (9, vi (a0.length : Int)), (10, vi v5), (4, .ptr 0 0 0), (3, vi v5), (15, vb (!y6))] [some (.row 3 [.agg [vt ((ix a0 v5).Part), vi ((ix a0 v5).Cents), vi ((ix a0 v5).Count)]])] ?_
    refine TriE.cond (b := !y6) rfl (fun c3 => ?_) (fun c3 => ?_)
    · have h := cond_t h c3
      refine sr [(2, vi 4)] [some (.row 3 [.agg [vt ((ix a0 v5).Part), vi ((ix a0 v5).Cents), vi ((ix a0 v5).Count)]])] ?_
      refine TriE.ret ?_
      have h := Option.some.inj h
      subst h
      exact DoneS.ret (S' := ⟨[(2, vi 4)], []⟩) (sc [] (by decide) (by kernel_rfl) ObRen.nil rfl rfl) rfl rfl
    have h := cond_f h c3
    refine TriE.seq ?_
    refine TriE.sees (Sees.less (fr' := [(0, eS 3 eStocked a0), (8, eS 3 eStocked a0), (9, vi (a0.length : Int)), (10, vi v5), (4, .ptr 0 0 0), (3, vi v5)]) (.cons rfl (.cons rfl (.cons rfl (.cons rfl (.cons rfl (.cons rfl .nil))))))) ?_
    refine TriE.draw (by kernel_rfl) ?_
    refine RegD.run 2 [(22, vi v5), (21, eS 3 eStocked a0), (0, eS 3 eStocked a0), (8, eS 3 eStocked a0), (9, vi (a0.length : Int)), (10, vi v5), (4, .ptr 0 0 0), (3, vi v5)] [some (.row 3 [.agg [vt ((ix a0 v5).Part), vi ((ix a0 v5).Cents), vi ((ix a0 v5).Count)]]), none, none] (by kernel_rfl) ?_
    obtain ⟨c4, h⟩ := chk_some h
    refine dv (eS 3 eStocked (List.take v5 a0)) (cy (I0 23 (.slc 3 (.t 21) none (some (.t 22)) none))) (ok_slc_hi (j := v5) rfl rfl rfl c4) rfl ?_
    refine RegD.run 2 [(25, vt ((ix a0 v5).Part)), (24, .ptr 0 0 0), (23, eS 3 eStocked (List.take v5 a0)), (22, vi v5), (21, eS 3 eStocked a0), (0, eS 3 eStocked a0), (8, eS 3 eStocked a0), (9, vi (a0.length : Int)), (10, vi v5), (4, .ptr 0 0 0), (3, vi v5)] [some (.row 3 [.agg [vt ((ix a0 v5).Part), vi ((ix a0 v5).Cents), vi ((ix a0 v5).Count)]]), none, none, none, none, none] (by kernel_rfl) ?_
    obtain ⟨y7, hy7, h⟩ := bind_some h
    refine RegD.op (OpD.call (y' := vi y7) (obx := []) (oby := []) (ob2 := [some (.row 3 [.agg [vt ((ix a0 v5).Part), vi ((ix a0 v5).Cents), vi ((ix a0 v5).Count)]]), none, none, none, none, none, none]) (tch := []) 0 _ _ (cy (I0 26 (.call 90 [(.t 23), (.t 25)]))) (restore_stocked_ok n (List.take v5 a0) ((ix a0 v5).Part) y7 hy7) [] (by kernel_rfl) (.cons rfl (.cons rfl (.cons rfl .nil))) (by kernel_rfl) (by kernel_rfl) ObsRen.nil (by kernel_rfl) ObsRen.nil (by kernel_rfl) rfl (.inr ⟨rfl, rfl⟩)) ?_
    refine RegD.run 2 [(20, vb (decide ((0 : Int) ≤ y7))), (27, vb (decide ((0 : Int) ≤ y7))), (26, vi y7), (25, vt ((ix a0 v5).Part)), (24, .ptr 0 0 0), (23, eS 3 eStocked (List.take v5 a0)), (22, vi v5), (21, eS 3 eStocked a0), (0, eS 3 eStocked a0), (8, eS 3 eStocked a0), (9, vi (a0.length : Int)), (10, vi v5), (4, .ptr 0 0 0), (3, vi v5)] [some (.row 3 [.agg [vt ((ix a0 v5).Part), vi ((ix a0 v5).Cents), vi ((ix a0 v5).Count)]]), none, none, none, none, none, none, none, none] (by kernel_rfl) ?_
    refine RegD.done rfl (by kernel_rfl) (S' := ⟨[(0, eS 3 eStocked a0), (8, eS 3 eStocked a0), (9, vi (a0.length : Int)), (10, vi v5), (4, .ptr 0 0 0), (20, vb (decide ((0 : Int) ≤ y7)))], [some (.row 3 [.agg [vt ((ix a0 v5).Part), vi ((ix a0 v5).Cents), vi ((ix a0 v5).Count)]])]⟩) (sc [0] (by decide) (by kernel_rfl) (.cons rfl .nil) rfl rfl) ?_
    refine TriE.cond (b := decide ((0 : Int) ≤ y7)) rfl (fun c5 => ?_) (fun c5 => ?_)
    · have h := cond_t h c5
      refine sr [(2, vi 5)] [some (.row 3 [.agg [vt ((ix a0 v5).Part), vi ((ix a0 v5).Cents), vi ((ix a0 v5).Count)]])] ?_
      refine TriE.ret ?_
      have h := Option.some.inj h
      subst h
      exact DoneS.ret (S' := ⟨[(2, vi 5)], []⟩) (sc [] (by decide) (by kernel_rfl) ObRen.nil rfl rfl) rfl rfl
    have h := cond_f h c5
    refine sj ?_
    refine rn 2 [(0, eS 3 eStocked a0), (8, eS 3 eStocked a0), (9, vi (a0.length : Int)), (10, vi v5), (4, .ptr 0 0 0), (30, vi ((ix a0 v5).Cents))] [some (.row 3 [.agg [vt ((ix a0 v5).Part), vi ((ix a0 v5).Cents), vi ((ix a0 v5).Count)]])] ?_
    obtain ⟨y8, hy8, h⟩ := bind_some h
    refine RegJ.op (Op1.call (y' := vb ((decide (0 ≤ ((ix a0 v5).Cents))) && (decide (((ix a0 v5).Cents) ≤ 1000000000)))) (obx := []) (oby := []) (ob2 := [some (.row 3 [.agg [vt ((ix a0 v5).Part), vi ((ix a0 v5).Cents), vi ((ix a0 v5).Count)]])]) _ _ (cy (I0 31 (.call 91 [(.t 30), (.c (.p (.int .i64 0))), (.c (.p (.int .i64 1000000000)))]))) rfl (restore_within_ok n ((ix a0 v5).Cents) 0 1000000000 y8 hy8) [] (by kernel_rfl) (.cons rfl (.cons rfl (.cons rfl (.cons rfl .nil)))) (by kernel_rfl) (by kernel_rfl) ObsRen.nil (by kernel_rfl) ObsRen.nil (by kernel_rfl)) ?_
    refine rn 2 [(0, eS 3 eStocked a0), (8, eS 3 eStocked a0), (9, vi (a0.length : Int)), (10, vi v5), (4, .ptr 0 0 0), (33, vb (!((decide (0 ≤ ((ix a0 v5).Cents))) && (decide (((ix a0 v5).Cents) ≤ 1000000000)))))] [some (.row 3 [.agg [vt ((ix a0 v5).Part), vi ((ix a0 v5).Cents), vi ((ix a0 v5).Count)]])] ?_
    refine RegJ.op (Op1.valk (v := .ptr 0 0 2) _ _ (cy (IG 34 (.faddr 2 (.t 4)) 33 false)) rfl (by kernel_rfl) (fun hg => (.cons rfl .nil))) ?_
    refine RegJ.op (Op1.valk (v := vi ((ix a0 v5).Count)) _ _ (cy (IG 35 (.load false 1 (.t 34)) 33 false)) rfl (by kernel_rfl) (fun hg => (.cons hg .nil))) ?_
    obtain ⟨y9, hy9, h⟩ := bind_some h
    refine RegJ.op (Op1.callg (g := !(!((decide (0 ≤ ((ix a0 v5).Cents))) && (decide (((ix a0 v5).Cents) ≤ 1000000000))))) (y' := vb ((decide (0 ≤ ((ix a0 v5).Count))) && (decide (((ix a0 v5).Count) ≤ 10000)))) (obx := []) _ _ (cy (IG 36 (.call 91 [(.t 35), (.c (.p (.int .i64 0))), (.c (.p (.int .i64 10000)))]) 33 false)) rfl (fun hg => restore_within_ok n ((ix a0 v5).Count) 0 10000 y9 (gcall_some hy9 hg)) [] (fun hg => by kernel_rfl) (fun hg => (.cons rfl (.cons hg (.cons rfl (.cons rfl .nil))))) (by kernel_rfl) (by kernel_rfl) ObsRen.nil (by kernel_rfl) (by kernel_rfl)) ?_
    refine RegJ.op (Op1.valk (v := vb (!((decide (0 ≤ ((ix a0 v5).Count))) && (decide (((ix a0 v5).Count) ≤ 10000))))) _ _ (cy (IG 37 (.un .not (.t 36)) 33 false)) rfl (by kernel_rfl) (fun hg => (.cons hg .nil))) ?_
    refine RegJ.op (Op1.or (cy (I0 38 (.pick (.t 33) (.c (.p (.bool true))) (.t 37)))) rfl rfl (by first | exact hokO1 | exact hokO0 | simp)) ?_
    refine jq 1 [(0, eS 3 eStocked a0), (8, eS 3 eStocked a0), (9, vi (a0.length : Int)), (10, vi v5), (28, vb ((!((decide (0 ≤ ((ix a0 v5).Cents))) && (decide (((ix a0 v5).Cents) ≤ 1000000000)))) || (!((decide (0 ≤ ((ix a0 v5).Count))) && (decide (((ix a0 v5).Count) ≤ 10000))))))] [some (.row 3 [.agg [vt ((ix a0 v5).Part), vi ((ix a0 v5).Cents), vi ((ix a0 v5).Count)]])] ?_
    refine TriE.cond (b := (!((decide (0 ≤ ((ix a0 v5).Cents))) && (decide (((ix a0 v5).Cents) ≤ 1000000000)))) || (!((decide (0 ≤ ((ix a0 v5).Count))) && (decide (((ix a0 v5).Count) ≤ 10000))))) rfl (fun c6 => ?_) (fun c6 => ?_)
    · have h := cond_t h c6
      refine sr [(2, vi 2)] [some (.row 3 [.agg [vt ((ix a0 v5).Part), vi ((ix a0 v5).Cents), vi ((ix a0 v5).Count)]])] ?_
      refine TriE.ret ?_
      have h := Option.some.inj h
      subst h
      exact DoneS.ret (S' := ⟨[(2, vi 2)], []⟩) (sc [] (by decide) (by kernel_rfl) ObRen.nil rfl rfl) rfl rfl
    have h := cond_f h c6
    refine TriE.skip ?_
    refine TriE.regJ ?_
    obtain ⟨c7, h⟩ := chk_some h
    refine jv (vi ((v5 + 1 : Nat) : Int)) (cy (I0 39 (.bin .add false (.t 10) (.c (.p (.int .i64 1)))))) (r_addn (i := v5) (j := 1) rfl rfl c7) rfl ?_
    refine jq 1 [(0, eS 3 eStocked a0), (8, eS 3 eStocked a0), (9, vi (a0.length : Int)), (10, vi ((v5 + 1 : Nat) : Int))] [some (.row 3 [.agg [vt ((ix a0 v5).Part), vi ((ix a0 v5).Cents), vi ((ix a0 v5).Count)]])] ?_
    exact Vs.intro (sc [] (by decide) (by kernel_rfl) ObRen.nil rfl rfl) ⟨(v5 + 1), rfl, h⟩
  have h := cond_f h c2
  refine TriE.exit ?_
  exact Vs.intro sy ⟨(), rfl, h⟩
theorem agrafferef08_FindStock_ok (n : Nat) (a0 : List Stocked) (a1 : Str) (r : Int) (h : agrafferef08_FindStock n a0 a1 = some r) : FnL Tryz.prog 74 [eS 3 eStocked a0, vt a1] [] (vi r) [] := by
  dsimp only [agrafferef08_FindStock] at h
  refine FnL.ofS (ts := [4]) Tryz.call74 Tryz.func74 rfl rfl (Nat.le_of_ble_eq_true rfl) (Nat.le_of_ble_eq_true rfl) (fun j h => absurd h (Nat.not_lt_zero j)) ?_
  refine sr [(0, eS 3 eStocked a0), (1, vt a1)] [] ?_
  refine TriE.seqK h (fun (_ : Unit) => St.mk [] []) ?_ ?_
  · rintro ⟨⟩ h
    refine sr [(4, vi (-1))] [] ?_
    refine TriE.ret ?_
    have h := Option.some.inj h
    subst h
    exact DoneS.ret (S' := ⟨[(4, vi (-1))], []⟩) Sees.refl rfl rfl
  intro k1 h
  refine sr [(0, eS 3 eStocked a0), (1, vt a1), (5, vi 0)] [] ?_
  refine TriE.block ?_
  refine TriE.sees (S' := ⟨[(0, eS 3 eStocked a0), (1, vt a1), (5, vi 0)], []⟩) sy ?_
  refine TriE.loopN h (fun (v1 : Nat) => St.mk [(0, eS 3 eStocked a0), (1, vt a1), (5, vi v1)] []) rfl ?_
  clear h
  rintro back v1 h
  dsimp only [agrafferef08_FindStock_L1] at h
  refine TriE.seq ?_
  refine sj ?_
  refine rn 2 [(0, eS 3 eStocked a0), (1, vt a1), (5, vi v1), (6, vi v1), (7, eS 3 eStocked a0)] [] ?_
  refine jv (vi (a0.length : Int)) (cy (I0 8 (.len 0 (.t 7)))) (ok_len_m rfl) rfl ?_
  refine jv (vb (decide (v1 < a0.length))) (cy (I0 9 (.bin .lss false (.t 6) (.t 8)))) (n_lss (i := v1) (j := a0.length) rfl rfl) rfl ?_
  refine jp [(0, eS 3 eStocked a0), (1, vt a1), (5, vi v1), (9, vb (decide (v1 < a0.length)))] ?_
  refine TriE.cond (b := decide (v1 < a0.length)) rfl (fun c1 => ?_) (fun c1 => ?_)
  · have h := cond_t h c1
    refine TriE.skip ?_
    refine TriE.seq ?_
    refine TriE.block ?_
    refine sj ?_
    refine rn 2 [(0, eS 3 eStocked a0), (1, vt a1), (5, vi v1), (12, eS 3 eStocked a0), (13, vi v1)] [] ?_
    refine jv (.fptr 3 (List.map eStocked a0) v1 0) (cy (I0 14 (.iaddr 3 (.t 12) (.t 13)))) (ok_iaddr_m (j := v1) rfl rfl rfl c1) rfl ?_
    refine rn 1 [(0, eS 3 eStocked a0), (1, vt a1), (5, vi v1), (15, .fptr 3 (List.map eStocked a0) v1 0)] [] ?_
    refine jv (vt ((ix a0 v1).Part)) (cy (I0 16 (.load false 1 (.t 15)))) (ok_load_fm (v := vt ((ix a0 v1).Part)) rfl c1 rfl) rfl ?_
    refine jq 2 [(0, eS 3 eStocked a0), (1, vt a1), (5, vi v1), (18, vb (((ix a0 v1).Part) == a1))] [] ?_
    refine TriE.cond (b := (((ix a0 v1).Part) == a1)) rfl (fun c2 => ?_) (fun c2 => ?_)
    · have h := cond_t h c2
      refine sr [(4, vi v1)] [] ?_
      refine TriE.ret ?_
      have h := Option.some.inj h
      subst h
      exact DoneS.ret (S' := ⟨[(4, vi v1)], []⟩) Sees.refl rfl rfl
    have h := cond_f h c2
    refine TriE.skip ?_
    refine TriE.regJ ?_
    refine rn 1 [(0, eS 3 eStocked a0), (1, vt a1), (10, vi v1)] [] ?_
    obtain ⟨c3, h⟩ := chk_some h
    refine jv (vi ((v1 + 1 : Nat) : Int)) (cy (I0 11 (.bin .add false (.t 10) (.c (.p (.int .i64 1)))))) (r_addn (i := v1) (j := 1) rfl rfl c3) rfl ?_
    refine jq 1 [(0, eS 3 eStocked a0), (1, vt a1), (5, vi ((v1 + 1 : Nat) : Int))] [] ?_
    exact Vs.intro sy ⟨(v1 + 1), rfl, h⟩
  have h := cond_f h c1
  refine TriE.exit ?_
  exact Vs.intro sy ⟨(), rfl, h⟩
theorem agrafferef08_CheckStock_ok (n : Nat) (a0 : List Stocked) (r : Int) (h : agrafferef08_CheckStock n a0 = some r) : FnL Tryz.prog 24 [eS 3 eStocked a0] [] (vi r) [] := by
  dsimp only [agrafferef08_CheckStock] at h
  refine FnL.ofS (ts := [2]) Tryz.call24 Tryz.func24 rfl rfl (Nat.le_of_ble_eq_true rfl) (Nat.le_of_ble_eq_true rfl) (fun j h => absurd h (Nat.not_lt_zero j)) ?_
  refine sr [(0, eS 3 eStocked a0)] [] ?_
  refine TriE.seq ?_
  refine sj ?_
  refine rn 1 [(0, eS 3 eStocked a0), (4, eS 3 eStocked a0)] [] ?_
  refine jv (vi (a0.length : Int)) (cy (I0 5 (.len 0 (.t 4)))) (ok_len_m rfl) rfl ?_
  refine jv (vb (decide (60 < a0.length))) (cy (I0 6 (.bin .gtr false (.t 5) (.c (.p (.int .i64 60)))))) (n_gtr (i := a0.length) (j := 60) rfl rfl) rfl ?_
  refine jp [(0, eS 3 eStocked a0), (6, vb (decide (60 < a0.length)))] ?_
  refine TriE.cond (b := decide (60 < a0.length)) rfl (fun c1 => ?_) (fun c1 => ?_)
  · have h := cond_t h c1
    refine sr [(2, vi 8)] [] ?_
    refine TriE.ret ?_
    have h := Option.some.inj h
    subst h
    exact DoneS.ret (S' := ⟨[(2, vi 8)], []⟩) Sees.refl rfl rfl
  have h := cond_f h c1
  refine TriE.skip ?_
  refine TriE.seqK h (fun (_ : Unit) => St.mk [] []) ?_ ?_
  · rintro ⟨⟩ h
    refine sr [(2, vi 0)] [] ?_
    refine TriE.ret ?_
    have h := Option.some.inj h
    subst h
    exact DoneS.ret (S' := ⟨[(2, vi 0)], []⟩) Sees.refl rfl rfl
  intro k1 h
  refine sr [(0, eS 3 eStocked a0), (3, vi 0)] [] ?_
  refine TriE.block ?_
  refine TriE.sees (S' := ⟨[(0, eS 3 eStocked a0), (3, vi 0)], []⟩) sy ?_
  refine TriE.loopN h (fun (v5 : Nat) => St.mk [(0, eS 3 eStocked a0), (3, vi v5)] []) rfl ?_
  clear h
  rintro back v5 h
  dsimp only [agrafferef08_CheckStock_L1] at h
  refine TriE.seq ?_
  refine sj ?_
  refine rn 2 [(0, eS 3 eStocked a0), (3, vi v5), (7, vi v5), (8, eS 3 eStocked a0)] [] ?_
  refine jv (vi (a0.length : Int)) (cy (I0 9 (.len 0 (.t 8)))) (ok_len_m rfl) rfl ?_
  refine jv (vb (decide (v5 < a0.length))) (cy (I0 10 (.bin .lss false (.t 7) (.t 9)))) (n_lss (i := v5) (j := a0.length) rfl rfl) rfl ?_
  refine jp [(0, eS 3 eStocked a0), (3, vi v5), (10, vb (decide (v5 < a0.length)))] ?_
  refine TriE.cond (b := decide (v5 < a0.length)) rfl (fun c2 => ?_) (fun c2 => ?_)
  · have h := cond_t h c2
    refine TriE.skip ?_
    refine TriE.seq ?_
    refine TriE.block ?_
    refine TriE.seq ?_
    refine sj ?_
    refine rn 2 [(0, eS 3 eStocked a0), (3, vi v5), (13, eS 3 eStocked a0), (14, vi v5)] [] ?_
    refine jv (.fptr 3 (List.map eStocked a0) v5 0) (cy (I0 15 (.iaddr 3 (.t 13) (.t 14)))) (ok_iaddr_m (j := v5) rfl rfl rfl c2) rfl ?_
    refine rn 1 [(0, eS 3 eStocked a0), (3, vi v5), (16, .fptr 3 (List.map eStocked a0) v5 0)] [] ?_
    refine jv (vt ((ix a0 v5).Part)) (cy (I0 17 (.load false 1 (.t 16)))) (ok_load_fm (v := vt ((ix a0 v5).Part)) rfl c2 rfl) rfl ?_
    obtain ⟨y6, hy6, h⟩ := bind_some h
    refine RegJ.op (Op1.call (y' := vb y6) (obx := []) (oby := []) (ob2 := []) _ _ (cy (I0 18 (.call 92 [(.t 17)]))) rfl (agraffebase_IsName_ok n ((ix a0 v5).Part) y6 hy6) [] (by kernel_rfl) (.cons rfl (.cons rfl .nil)) (by kernel_rfl) (by kernel_rfl) ObsRen.nil (by kernel_rfl) ObsRen.nil (by kernel_rfl)) ?_
    refine jq 1 [(0, eS 3 eStocked a0), (3, vi v5), (19, vb (!y6))] [] ?_
    refine TriE.cond (b := !y6) rfl (fun c3 => ?_) (fun c3 => ?_)
    · have h := cond_t h c3
      refine sr [(2, vi 4)] [] ?_
      refine TriE.ret ?_
      have h := Option.some.inj h
      subst h
      exact DoneS.ret (S' := ⟨[(2, vi 4)], []⟩) Sees.refl rfl rfl
    have h := cond_f h c3
    refine TriE.skip ?_
    refine TriE.seq ?_
    refine TriE.seq ?_
    refine TriE.sees (Sees.less (fr' := [(0, eS 3 eStocked a0), (3, vi v5)]) (.cons rfl (.cons rfl .nil))) ?_
    refine TriE.draw (by kernel_rfl) ?_
    refine RegD.run 2 [(21, vi v5), (20, eS 3 eStocked a0), (0, eS 3 eStocked a0), (3, vi v5)] [none, none] (by kernel_rfl) ?_
    obtain ⟨c4, h⟩ := chk_some h
    refine dv (eS 3 eStocked (List.take v5 a0)) (cy (I0 22 (.slc 3 (.t 20) none (some (.t 21)) none))) (ok_slc_hi (j := v5) rfl rfl rfl c4) rfl ?_
    refine RegD.run 2 [(24, vi v5), (23, eS 3 eStocked a0), (22, eS 3 eStocked (List.take v5 a0)), (21, vi v5), (20, eS 3 eStocked a0), (0, eS 3 eStocked a0), (3, vi v5)] [none, none, none, none, none] (by kernel_rfl) ?_
    refine dv (.fptr 3 (List.map eStocked a0) v5 0) (cy (I0 25 (.iaddr 3 (.t 23) (.t 24)))) (ok_iaddr_m (j := v5) rfl rfl rfl c2) rfl ?_
    refine RegD.run 1 [(26, .fptr 3 (List.map eStocked a0) v5 0), (25, .fptr 3 (List.map eStocked a0) v5 0), (24, vi v5), (23, eS 3 eStocked a0), (22, eS 3 eStocked (List.take v5 a0)), (21, vi v5), (20, eS 3 eStocked a0), (0, eS 3 eStocked a0), (3, vi v5)] [none, none, none, none, none, none, none] (by kernel_rfl) ?_
    refine dv (vt ((ix a0 v5).Part)) (cy (I0 27 (.load false 1 (.t 26)))) (ok_load_fm (v := vt ((ix a0 v5).Part)) rfl c2 rfl) rfl ?_
    obtain ⟨y7, hy7, h⟩ := bind_some h
    refine RegD.op (OpD.call (y' := vi y7) (obx := []) (oby := []) (ob2 := [none, none, none, none, none, none, none, none, none]) (tch := []) 0 _ _ (cy (I0 28 (.call 74 [(.t 22), (.t 27)]))) (agrafferef08_FindStock_ok n (List.take v5 a0) ((ix a0 v5).Part) y7 hy7) [] (by kernel_rfl) (.cons rfl (.cons rfl (.cons rfl .nil))) (by kernel_rfl) (by kernel_rfl) ObsRen.nil (by kernel_rfl) ObsRen.nil (by kernel_rfl) rfl (.inr ⟨rfl, rfl⟩)) ?_
    refine RegD.run 1 [(29, vb (decide ((0 : Int) ≤ y7))), (28, vi y7), (27, vt ((ix a0 v5).Part)), (26, .fptr 3 (List.map eStocked a0) v5 0), (25, .fptr 3 (List.map eStocked a0) v5 0), (24, vi v5), (23, eS 3 eStocked a0), (22, eS 3 eStocked (List.take v5 a0)), (21, vi v5), (20, eS 3 eStocked a0), (0, eS 3 eStocked a0), (3, vi v5)] [none, none, none, none, none, none, none, none, none, none] (by kernel_rfl) ?_
    refine RegD.done rfl (by kernel_rfl) (S' := ⟨[(0, eS 3 eStocked a0), (3, vi v5), (29, vb (decide ((0 : Int) ≤ y7)))], []⟩) (sc [] (by decide) (by kernel_rfl) ObRen.nil rfl rfl) ?_
    refine TriE.cond (b := decide ((0 : Int) ≤ y7)) rfl (fun c5 => ?_) (fun c5 => ?_)
    · have h := cond_t h c5
      refine sr [(2, vi 5)] [] ?_
      refine TriE.ret ?_
      have h := Option.some.inj h
      subst h
      exact DoneS.ret (S' := ⟨[(2, vi 5)], []⟩) Sees.refl rfl rfl
    have h := cond_f h c5
    refine TriE.skip ?_
    refine sj ?_
    refine rn 2 [(0, eS 3 eStocked a0), (3, vi v5), (30, eS 3 eStocked a0), (31, vi v5)] [] ?_
    refine jv (.fptr 3 (List.map eStocked a0) v5 0) (cy (I0 32 (.iaddr 3 (.t 30) (.t 31)))) (ok_iaddr_m (j := v5) rfl rfl rfl c2) rfl ?_
    refine rn 1 [(0, eS 3 eStocked a0), (3, vi v5), (33, .fptr 3 (List.map eStocked a0) v5 1)] [] ?_
    refine jv (vi ((ix a0 v5).Cents)) (cy (I0 34 (.load false 1 (.t 33)))) (ok_load_fm (v := vi ((ix a0 v5).Cents)) rfl c2 rfl) rfl ?_
    obtain ⟨y8, hy8, h⟩ := bind_some h
    refine RegJ.op (Op1.call (y' := vb ((decide (0 ≤ ((ix a0 v5).Cents))) && (decide (((ix a0 v5).Cents) ≤ 1000000000)))) (obx := []) (oby := []) (ob2 := []) _ _ (cy (I0 35 (.call 93 [(.t 34), (.c (.p (.int .i64 0))), (.c (.p (.int .i64 1000000000)))]))) rfl (agraffebase_Within_ok n ((ix a0 v5).Cents) 0 1000000000 y8 hy8) [] (by kernel_rfl) (.cons rfl (.cons rfl (.cons rfl (.cons rfl .nil)))) (by kernel_rfl) (by kernel_rfl) ObsRen.nil (by kernel_rfl) ObsRen.nil (by kernel_rfl)) ?_
    refine rn 2 [(0, eS 3 eStocked a0), (3, vi v5), (37, vb (!((decide (0 ≤ ((ix a0 v5).Cents))) && (decide (((ix a0 v5).Cents) ≤ 1000000000)))))] [] ?_
    refine RegJ.op (Op1.valk (v := eS 3 eStocked a0) _ _ (cy (IG 38 (.mov (.t 0)) 37 false)) rfl (by kernel_rfl) (fun hg => (.cons rfl .nil))) ?_
    refine RegJ.op (Op1.valk (v := vi v5) _ _ (cy (IG 39 (.mov (.t 3)) 37 false)) rfl (by kernel_rfl) (fun hg => (.cons rfl .nil))) ?_
    refine RegJ.op (Op1.valg (v := .fptr 3 (List.map eStocked a0) v5 0) _ _ (cy (IG 40 (.iaddr 3 (.t 38) (.t 39)) 37 false)) rfl (fun hg => (ok_iaddr_m (j := v5) rfl rfl rfl c2)) (fun hg => (.cons hg (.cons hg .nil)))) ?_
    refine RegJ.op (Op1.valk (v := .fptr 3 (List.map eStocked a0) v5 2) _ _ (cy (IG 41 (.faddr 2 (.t 40)) 37 false)) rfl (by kernel_rfl) (fun hg => (.cons hg .nil))) ?_
    refine RegJ.op (Op1.valg (v := vi ((ix a0 v5).Count)) _ _ (cy (IG 42 (.load false 1 (.t 41)) 37 false)) rfl (fun hg => (ok_load_fm (v := vi ((ix a0 v5).Count)) rfl c2 rfl)) (fun hg => (.cons hg .nil))) ?_
    obtain ⟨y9, hy9, h⟩ := bind_some h
    refine RegJ.op (Op1.callg (g := !(!((decide (0 ≤ ((ix a0 v5).Cents))) && (decide (((ix a0 v5).Cents) ≤ 1000000000))))) (y' := vb ((decide (0 ≤ ((ix a0 v5).Count))) && (decide (((ix a0 v5).Count) ≤ 10000)))) (obx := []) _ _ (cy (IG 43 (.call 93 [(.t 42), (.c (.p (.int .i64 0))), (.c (.p (.int .i64 10000)))]) 37 false)) rfl (fun hg => agraffebase_Within_ok n ((ix a0 v5).Count) 0 10000 y9 (gcall_some hy9 hg)) [] (fun hg => by kernel_rfl) (fun hg => (.cons rfl (.cons hg (.cons rfl (.cons rfl .nil))))) (by kernel_rfl) (by kernel_rfl) ObsRen.nil (by kernel_rfl) (by kernel_rfl)) ?_
    refine RegJ.op (Op1.valk (v := vb (!((decide (0 ≤ ((ix a0 v5).Count))) && (decide (((ix a0 v5).Count) ≤ 10000))))) _ _ (cy (IG 44 (.un .not (.t 43)) 37 false)) rfl (by kernel_rfl) (fun hg => (.cons hg .nil))) ?_
    refine RegJ.op (Op1.or (cy (I0 45 (.pick (.t 37) (.c (.p (.bool true))) (.t 44)))) rfl rfl (by first | exact hokO1 | exact hokO0 | simp)) ?_
    refine jp [(0, eS 3 eStocked a0), (3, vi v5), (45, vb ((!((decide (0 ≤ ((ix a0 v5).Cents))) && (decide (((ix a0 v5).Cents) ≤ 1000000000)))) || (!((decide (0 ≤ ((ix a0 v5).Count))) && (decide (((ix a0 v5).Count) ≤ 10000))))))] ?_
    refine TriE.cond (b := (!((decide (0 ≤ ((ix a0 v5).Cents))) && (decide (((ix a0 v5).Cents) ≤ 1000000000)))) || (!((decide (0 ≤ ((ix a0 v5).Count))) && (decide (((ix a0 v5).Count) ≤ 10000))))) rfl (fun c6 => ?_) (fun c6 => ?_)
    · have h := cond_t h c6
      refine sr [(2, vi 2)] [] ?_
      refine TriE.ret ?_
      have h := Option.some.inj h
      subst h
      exact DoneS.ret (S' := ⟨[(2, vi 2)], []⟩) Sees.refl rfl rfl
    have h := cond_f h c6
    refine TriE.skip ?_
    refine TriE.regJ ?_
    refine rn 1 [(0, eS 3 eStocked a0), (11, vi v5)] [] ?_
    obtain ⟨c7, h⟩ := chk_some h
    refine jv (vi ((v5 + 1 : Nat) : Int)) (cy (I0 12 (.bin .add false (.t 11) (.c (.p (.int .i64 1)))))) (r_addn (i := v5) (j := 1) rfl rfl c7) rfl ?_
    refine jq 1 [(0, eS 3 eStocked a0), (3, vi ((v5 + 1 : Nat) : Int))] [] ?_
    exact Vs.intro sy ⟨(v5 + 1), rfl, h⟩
  have h := cond_f h c2
  refine TriE.exit ?_
  exact Vs.intro sy ⟨(), rfl, h⟩
theorem restore_CheckFindings_f1_ok (n : Nat) (a0 : Finding) (a1 : Str) (a2 : List Str) (r : Unit) (h : restore_CheckFindings_f1 n a0 a1 a2 = some r) : FnL Tryz.prog 95 [.agg [vt a0.Name, eS 1 vt a0.Tasks], .ptr 0 0 0] [some (.row 2 [.agg [vt a1, eS 1 vt a2]])] (vb (a0.Name == a1)) [some (.row 2 [.agg [vt a1, eS 1 vt a2]])] := by
  dsimp only [restore_CheckFindings_f1] at h
  refine FnL.ofS (ts := [3]) Tryz.call95 Tryz.func95 rfl rfl (Nat.le_of_ble_eq_true rfl) (Nat.le_of_ble_eq_true rfl) (hall_of (.cons rfl .nil)) ?_
  refine sr [(1, .ptr 0 0 0), (2, .ptr 1 0 0)] [some (.row 2 [.agg [vt a1, eS 1 vt a2]]), some (.row 2 [.agg [vt a0.Name, eS 1 vt a0.Tasks]])] ?_
  refine sr [(3, vb (a0.Name == a1))] [some (.row 2 [.agg [vt a1, eS 1 vt a2]]), some (.row 2 [.agg [vt a0.Name, eS 1 vt a0.Tasks]])] ?_
  refine TriE.ret ?_
  have h := Option.some.inj h
  subst h
  exact DoneS.ret (S' := ⟨[(3, vb (a0.Name == a1))], [some (.row 2 [.agg [vt a1, eS 1 vt a2]])]⟩) (sc [0] (by decide) (by kernel_rfl) (.cons rfl .nil) rfl rfl) rfl rfl
theorem slices_IndexFunc_Finding_ok (n : Nat) (a0 : List Finding) (a1 : Nat) (a2 : Nat) (a3 : Str) (a4 : List Str) (r : Int) (h : slices_IndexFunc_Finding n a0 a1 a2 a3 a4 = some r) : FnL Tryz.prog 161 [.own 0 a1 a2, .fn (.func 95) [] [.ptr 1 0 0]] [some (.row 2 (List.map eFinding a0)), some (.row 2 [.agg [vt a3, eS 1 vt a4]])] (vi r) [some (.row 2 (List.map eFinding a0)), some (.row 2 [.agg [vt a3, eS 1 vt a4]])] := by
  dsimp only [slices_IndexFunc_Finding] at h
  refine FnL.ofS (ts := [4]) Tryz.call161 Tryz.func161 rfl rfl (Nat.le_of_ble_eq_true rfl) (Nat.le_of_ble_eq_true rfl) (hall_of (.cons rfl (.cons rfl .nil))) ?_
  refine sr [(0, .own 0 a1 a2), (1, .fn (.func 95) [] [.ptr 1 0 0])] [some (.row 2 (List.map eFinding a0)), some (.row 2 [.agg [vt a3, eS 1 vt a4]])] ?_
  refine TriE.seqK h (fun (_ : Unit) => St.mk [] [some (.row 2 (List.map eFinding a0)), some (.row 2 [.agg [vt a3, eS 1 vt a4]])]) ?_ ?_
  · rintro ⟨⟩ h
    refine sr [(4, vi (-1))] [some (.row 2 (List.map eFinding a0)), some (.row 2 [.agg [vt a3, eS 1 vt a4]])] ?_
    refine TriE.ret ?_
    have h := Option.some.inj h
    subst h
    exact DoneS.ret (S' := ⟨[(4, vi (-1))], [some (.row 2 (List.map eFinding a0)), some (.row 2 [.agg [vt a3, eS 1 vt a4]])]⟩) Sees.refl rfl rfl
  intro k1 h
  refine sr [(0, .own 0 a1 a2), (1, .fn (.func 95) [] [.ptr 1 0 0]), (7, vi a2), (8, vi 0)] [some (.row 2 (List.map eFinding a0)), some (.row 2 [.agg [vt a3, eS 1 vt a4]])] ?_
  refine TriE.block ?_
  refine TriE.sees (S' := ⟨[(0, .own 0 a1 a2), (1, .fn (.func 95) [] [.ptr 1 0 0]), (7, vi a2), (8, vi 0)], [some (.row 2 (List.map eFinding a0)), some (.row 2 [.agg [vt a3, eS 1 vt a4]])]⟩) sy ?_
  refine TriE.loopN h (fun (v2 : Nat) => St.mk [(0, .own 0 a1 a2), (1, .fn (.func 95) [] [.ptr 1 0 0]), (7, vi a2), (8, vi v2)] [some (.row 2 (List.map eFinding a0)), some (.row 2 [.agg [vt a3, eS 1 vt a4]])]) rfl ?_
  clear h
  rintro back v2 h
  dsimp only [slices_IndexFunc_Finding_L1] at h
  refine sj ?_
  refine jv (vb (decide (v2 < a2))) (cy (I0 9 (.bin .lss false (.t 8) (.t 7)))) (n_lss (i := v2) (j := a2) rfl rfl) rfl ?_
  refine jp [(0, .own 0 a1 a2), (1, .fn (.func 95) [] [.ptr 1 0 0]), (7, vi a2), (8, vi v2), (9, vb (decide (v2 < a2)))] ?_
  refine TriE.seq ?_
  refine TriE.cond (b := decide (v2 < a2)) rfl (fun c1 => ?_) (fun c1 => ?_)
  · have h := cond_t h c1
    refine TriE.skip ?_
    refine TriE.seq ?_
    refine TriE.block ?_
    refine sr [(0, .own 0 a1 a2), (1, .fn (.func 95) [] [.ptr 1 0 0]), (7, vi a2), (8, vi v2), (5, vi v2)] [some (.row 2 (List.map eFinding a0)), some (.row 2 [.agg [vt a3, eS 1 vt a4]])] ?_
    refine sj ?_
    refine rn 3 [(0, .own 0 a1 a2), (1, .fn (.func 95) [] [.ptr 1 0 0]), (7, vi a2), (8, vi v2), (5, vi v2), (11, .fn (.func 95) [] [.ptr 1 0 0]), (12, .own 0 a1 a2), (13, vi v2)] [some (.row 2 (List.map eFinding a0)), some (.row 2 [.agg [vt a3, eS 1 vt a4]])] ?_
    refine jv (.ptr 0 (a1 + v2) 0) (cy (I0 14 (.iaddr 2 (.t 12) (.t 13)))) (ok_iaddr_o (j := v2) rfl rfl rfl rfl c1) rfl ?_
    obtain ⟨c2, h⟩ := chk_some h
    refine jv (.agg [vt ((ix a0 (a1 + v2)).Name), eS 1 vt ((ix a0 (a1 + v2)).Tasks)]) (cy (I0 15 (.load true 2 (.t 14)))) (ok_load_pm (l := a0) (e := eFinding) (v := .agg [vt ((ix a0 (a1 + v2)).Name), eS 1 vt ((ix a0 (a1 + v2)).Tasks)]) rfl rfl c2 rfl) rfl ?_
    obtain ⟨y3, hy3, h⟩ := bind_some h
    refine RegJ.op (Op1.dyn (y' := vb ((ix a0 (a1 + v2)).Name == a3)) (obx := [some (.row 2 [.agg [vt a3, eS 1 vt a4]])]) (oby := [some (.row 2 [.agg [vt a3, eS 1 vt a4]])]) (ob2 := [some (.row 2 (List.map eFinding a0)), some (.row 2 [.agg [vt a3, eS 1 vt a4]])]) _ _ _ (cy (I0 16 (.dyn (.t 11) [(.t 15)]))) rfl rfl (restore_CheckFindings_f1_ok n (ix a0 (a1 + v2)) a3 a4 y3 hy3) [1] (by kernel_rfl) (.cons rfl (.cons rfl .nil)) (by kernel_rfl) (by kernel_rfl) (.cons rfl .nil) (by kernel_rfl) (.cons rfl .nil) (by kernel_rfl)) ?_
    refine jp [(0, .own 0 a1 a2), (1, .fn (.func 95) [] [.ptr 1 0 0]), (7, vi a2), (8, vi v2), (5, vi v2), (16, vb ((ix a0 (a1 + v2)).Name == a3))] ?_
    refine TriE.cond (b := ((ix a0 (a1 + v2)).Name == a3)) rfl (fun c3 => ?_) (fun c3 => ?_)
    · have h := cond_t h c3
      refine sr [(4, vi v2)] [some (.row 2 (List.map eFinding a0)), some (.row 2 [.agg [vt a3, eS 1 vt a4]])] ?_
      refine TriE.ret ?_
      have h := Option.some.inj h
      subst h
      exact DoneS.ret (S' := ⟨[(4, vi v2)], [some (.row 2 (List.map eFinding a0)), some (.row 2 [.agg [vt a3, eS 1 vt a4]])]⟩) Sees.refl rfl rfl
    have h := cond_f h c3
    refine TriE.skip ?_
    refine TriE.regJ ?_
    obtain ⟨c4, h⟩ := chk_some h
    refine jv (vi ((v2 + 1 : Nat) : Int)) (cy (I0 18 (.bin .add false (.t 8) (.c (.p (.int .i64 1)))))) (r_addn (i := v2) (j := 1) rfl rfl c4) rfl ?_
    refine jq 1 [(0, .own 0 a1 a2), (1, .fn (.func 95) [] [.ptr 1 0 0]), (7, vi a2), (8, vi ((v2 + 1 : Nat) : Int))] [some (.row 2 (List.map eFinding a0)), some (.row 2 [.agg [vt a3, eS 1 vt a4]])] ?_
    exact Vs.intro sy ⟨(v2 + 1), rfl, h⟩
  have h := cond_f h c1
  refine TriE.exit ?_
  exact Vs.intro sy ⟨(), rfl, h⟩
theorem slices_ContainsFunc_Finding_ok (n : Nat) (a0 : List Finding) (a1 : Nat) (a2 : Nat) (a3 : Str) (a4 : List Str) (r : Bool) (h : slices_ContainsFunc_Finding n a0 a1 a2 a3 a4 = some r) : FnL Tryz.prog 94 [.own 0 a1 a2, .fn (.func 95) [] [.ptr 1 0 0]] [some (.row 2 (List.map eFinding a0)), some (.row 2 [.agg [vt a3, eS 1 vt a4]])] (vb r) [some (.row 2 (List.map eFinding a0)), some (.row 2 [.agg [vt a3, eS 1 vt a4]])] := by
  dsimp only [slices_ContainsFunc_Finding] at h
  refine FnL.ofS (ts := [4]) Tryz.call94 Tryz.func94 rfl rfl (Nat.le_of_ble_eq_true rfl) (Nat.le_of_ble_eq_true rfl) (hall_of (.cons rfl (.cons rfl .nil))) ?_
  refine sr [(0, .own 0 a1 a2), (1, .fn (.func 95) [] [.ptr 1 0 0])] [some (.row 2 (List.map eFinding a0)), some (.row 2 [.agg [vt a3, eS 1 vt a4]])] ?_
  refine sj ?_
  refine rn 2 [(5, .own 0 a1 a2), (6, .fn (.func 95) [] [.ptr 1 0 0])] [some (.row 2 (List.map eFinding a0)), some (.row 2 [.agg [vt a3, eS 1 vt a4]])] ?_
  obtain ⟨y1, hy1, h⟩ := bind_some h
  refine RegJ.op (Op1.call (y' := vi y1) (obx := [some (.row 2 (List.map eFinding a0)), some (.row 2 [.agg [vt a3, eS 1 vt a4]])]) (oby := [some (.row 2 (List.map eFinding a0)), some (.row 2 [.agg [vt a3, eS 1 vt a4]])]) (ob2 := [some (.row 2 (List.map eFinding a0)), some (.row 2 [.agg [vt a3, eS 1 vt a4]])]) _ _ (cy (I0 7 (.call 161 [(.t 5), (.t 6)]))) rfl (slices_IndexFunc_Finding_ok n a0 a1 a2 a3 a4 y1 hy1) [0, 1] (by kernel_rfl) (.cons rfl (.cons rfl (.cons rfl .nil))) (by kernel_rfl) (by kernel_rfl) (.same (row_ren eFinding_frz _ _ _) (.cons rfl .nil)) (by kernel_rfl) (.same (row_ren eFinding_frz _ _ _) (.cons rfl .nil)) (by kernel_rfl)) ?_
  refine jq 2 [(4, vb (decide ((0 : Int) ≤ y1)))] [some (.row 2 (List.map eFinding a0)), some (.row 2 [.agg [vt a3, eS 1 vt a4]])] ?_
  refine TriE.ret ?_
  have h := Option.some.inj h
  subst h
  exact DoneS.ret (S' := ⟨[(4, vb (decide ((0 : Int) ≤ y1)))], [some (.row 2 (List.map eFinding a0)), some (.row 2 [.agg [vt a3, eS 1 vt a4]])]⟩) Sees.refl rfl rfl
theorem restore_CheckFindings_ok (n : Nat) (a0 : List Task) (a1 : List Finding) (r : Int) (h : restore_CheckFindings n a0 a1 = some r) : FnL Tryz.prog 25 [eS 6 eTask a0, .own 0 0 a1.length] [some (.row 2 (List.map eFinding a1))] (vi r) [some (.row 2 (List.map eFinding a1))] := by
  dsimp only [restore_CheckFindings] at h
  refine FnL.ofS (ts := [4]) Tryz.call25 Tryz.func25 rfl rfl (Nat.le_of_ble_eq_true rfl) (Nat.le_of_ble_eq_true rfl) (hall_of (.cons rfl .nil)) ?_
  refine sr [(0, eS 6 eTask a0), (1, .own 0 0 a1.length)] [some (.row 2 (List.map eFinding a1))] ?_
  refine TriE.seq ?_
  refine sj ?_
  refine rn 1 [(0, eS 6 eTask a0), (1, .own 0 0 a1.length), (9, eS 6 eTask a0)] [some (.row 2 (List.map eFinding a1))] ?_
  obtain ⟨y1, hy1, h⟩ := bind_some h
  refine RegJ.op (Op1.call (y' := vi y1) (obx := []) (oby := []) (ob2 := [some (.row 2 (List.map eFinding a1))]) _ _ (cy (I0 10 (.call 19 [(.t 9)]))) rfl (restore_CheckTasks_ok n a0 y1 hy1) [] (by kernel_rfl) (.cons rfl (.cons rfl .nil)) (by kernel_rfl) (by kernel_rfl) ObsRen.nil (by kernel_rfl) ObsRen.nil (by kernel_rfl)) ?_
  refine jq 1 [(0, eS 6 eTask a0), (1, .own 0 0 a1.length), (5, vi y1)] [some (.row 2 (List.map eFinding a1))] ?_
  refine sr [(0, eS 6 eTask a0), (1, .own 0 0 a1.length), (5, vi y1), (12, vb (y1 != (0 : Int)))] [some (.row 2 (List.map eFinding a1))] ?_
  refine TriE.cond (b := (y1 != (0 : Int))) rfl (fun c1 => ?_) (fun c1 => ?_)
  · have h := cond_t h c1
    refine sr [(4, vi y1)] [some (.row 2 (List.map eFinding a1))] ?_
    refine TriE.ret ?_
    have h := Option.some.inj h
    subst h
    exact DoneS.ret (S' := ⟨[(4, vi y1)], [some (.row 2 (List.map eFinding a1))]⟩) Sees.refl rfl rfl
  have h := cond_f h c1
  refine TriE.skip ?_
  refine TriE.seq ?_
  refine sj ?_
  refine rn 2 [(0, eS 6 eTask a0), (1, .own 0 0 a1.length), (15, vi (a1.length : Int))] [some (.row 2 (List.map eFinding a1))] ?_
  refine jv (vb (decide (40 < a1.length))) (cy (I0 16 (.bin .gtr false (.t 15) (.c (.p (.int .i64 40)))))) (n_gtr (i := a1.length) (j := 40) rfl rfl) rfl ?_
  refine jp [(0, eS 6 eTask a0), (1, .own 0 0 a1.length), (16, vb (decide (40 < a1.length)))] ?_
  refine TriE.cond (b := decide (40 < a1.length)) rfl (fun c2 => ?_) (fun c2 => ?_)
  · have h := cond_t h c2
    refine sr [(4, vi 8)] [some (.row 2 (List.map eFinding a1))] ?_
    refine TriE.ret ?_
    have h := Option.some.inj h
    subst h
    exact DoneS.ret (S' := ⟨[(4, vi 8)], [some (.row 2 (List.map eFinding a1))]⟩) Sees.refl rfl rfl
  have h := cond_f h c2
  refine TriE.skip ?_
  refine TriE.seqK h (fun (_ : Unit) => St.mk [] [some (.row 2 (List.map eFinding a1))]) ?_ ?_
  · rintro ⟨⟩ h
    refine sr [(4, vi 0)] [some (.row 2 (List.map eFinding a1))] ?_
    refine TriE.ret ?_
    have h := Option.some.inj h
    subst h
    exact DoneS.ret (S' := ⟨[(4, vi 0)], [some (.row 2 (List.map eFinding a1))]⟩) Sees.refl rfl rfl
  intro k1 h
  refine sr [(0, eS 6 eTask a0), (1, .own 0 0 a1.length), (17, .own 0 0 a1.length), (18, vi (a1.length : Int)), (19, vi 0)] [some (.row 2 (List.map eFinding a1))] ?_
  refine TriE.block ?_
  refine TriE.sees (S' := ⟨[(0, eS 6 eTask a0), (1, .own 0 0 a1.length), (17, .own 0 0 a1.length), (18, vi (a1.length : Int)), (19, vi 0)], [some (.row 2 (List.map eFinding a1))]⟩) sy ?_
  refine TriE.loopN h (fun (v5 : Nat) => St.mk [(0, eS 6 eTask a0), (1, .own 0 0 a1.length), (17, .own 0 0 a1.length), (18, vi (a1.length : Int)), (19, vi v5)] [some (.row 2 (List.map eFinding a1))]) rfl ?_
  clear h
  rintro back v5 h
  dsimp only [restore_CheckFindings_L1] at h
  refine sj ?_
  refine jv (vb (decide (v5 < a1.length))) (cy (I0 20 (.bin .lss false (.t 19) (.t 18)))) (n_lss (i := v5) (j := a1.length) rfl rfl) rfl ?_
  refine jp [(0, eS 6 eTask a0), (1, .own 0 0 a1.length), (17, .own 0 0 a1.length), (18, vi (a1.length : Int)), (19, vi v5), (20, vb (decide (v5 < a1.length)))] ?_
  refine TriE.seq ?_
  refine TriE.cond (b := decide (v5 < a1.length)) rfl (fun c3 => ?_) (fun c3 => ?_)
  · have h := cond_t h c3
    refine TriE.skip ?_
    refine TriE.seq ?_
    refine TriE.block ?_
    refine sj ?_
    refine rn 1 [(0, eS 6 eTask a0), (1, .own 0 0 a1.length), (17, .own 0 0 a1.length), (18, vi (a1.length : Int)), (19, vi v5), (21, vi v5)] [some (.row 2 (List.map eFinding a1))] ?_
    refine jv (.ptr 0 v5 0) (cy (I0 22 (.iaddr 2 (.t 17) (.t 19)))) (ok_iaddr_o0 (j := v5) rfl rfl rfl rfl c3) rfl ?_
    refine jv (.agg [vt ((ix a1 v5).Name), eS 1 vt ((ix a1 v5).Tasks)]) (cy (I0 23 (.load true 2 (.t 22)))) (ok_load_pm (l := a1) (e := eFinding) (v := .agg [vt ((ix a1 v5).Name), eS 1 vt ((ix a1 v5).Tasks)]) rfl rfl c3 rfl) rfl ?_
    refine jq 3 [(0, eS 6 eTask a0), (1, .own 0 0 a1.length), (17, .own 0 0 a1.length), (18, vi (a1.length : Int)), (19, vi v5), (7, .ptr 1 0 0), (6, vi v5)] [some (.row 2 (List.map eFinding a1)), some (.row 2 [.agg [vt ((ix a1 v5).Name), eS 1 vt ((ix a1 v5).Tasks)]])] ?_
    refine TriE.seq ?_
    refine TriE.block ?_
    refine sj ?_
    refine rn 2 [(0, eS 6 eTask a0), (1, .own 0 0 a1.length), (17, .own 0 0 a1.length), (18, vi (a1.length : Int)), (19, vi v5), (7, .ptr 1 0 0), (6, vi v5), (26, vt ((ix a1 v5).Name))] [some (.row 2 (List.map eFinding a1)), some (.row 2 [.agg [vt ((ix a1 v5).Name), eS 1 vt ((ix a1 v5).Tasks)]])] ?_
    obtain ⟨y6, hy6, h⟩ := bind_some h
    refine RegJ.op (Op1.call (y' := vb y6) (obx := []) (oby := []) (ob2 := [some (.row 2 (List.map eFinding a1)), some (.row 2 [.agg [vt ((ix a1 v5).Name), eS 1 vt ((ix a1 v5).Tasks)]])]) _ _ (cy (I0 27 (.call 89 [(.t 26)]))) rfl (restore_isName_ok n ((ix a1 v5).Name) y6 hy6) [] (by kernel_rfl) (.cons rfl (.cons rfl .nil)) (by kernel_rfl) (by kernel_rfl) ObsRen.nil (by kernel_rfl) ObsRen.nil (by kernel_rfl)) ?_
    refine jq 2 [(0, eS 6 eTask a0), (1, .own 0 0 a1.length), (17, .own 0 0 a1.length), (18, vi (a1.length : Int)), (19, vi v5), (7, .ptr 1 0 0), (6, vi v5), (24, vb (!y6))] [some (.row 2 (List.map eFinding a1)), some (.row 2 [.agg [vt ((ix a1 v5).Name), eS 1 vt ((ix a1 v5).Tasks)]])] ?_
    refine TriE.cond (b := !y6) rfl (fun c4 => ?_) (fun c4 => ?_)
    · have h := cond_t h c4
      refine sr [(4, vi 4)] [some (.row 2 (List.map eFinding a1)), some (.row 2 [.agg [vt ((ix a1 v5).Name), eS 1 vt ((ix a1 v5).Tasks)]])] ?_
      refine TriE.ret ?_
      have h := Option.some.inj h
      subst h
      exact DoneS.ret (S' := ⟨[(4, vi 4)], [some (.row 2 (List.map eFinding a1))]⟩) (sc [0] (by decide) (by kernel_rfl) (obRen_row eFinding_frz rfl .nil) rfl rfl) rfl rfl
    have h := cond_f h c4
    refine sj ?_
    refine rn 2 [(0, eS 6 eTask a0), (1, .own 0 0 a1.length), (17, .own 0 0 a1.length), (18, vi (a1.length : Int)), (19, vi v5), (7, .ptr 1 0 0), (30, .own 0 0 a1.length), (31, vi v5)] [some (.row 2 (List.map eFinding a1)), some (.row 2 [.agg [vt ((ix a1 v5).Name), eS 1 vt ((ix a1 v5).Tasks)]])] ?_
    obtain ⟨c5, h⟩ := chk_some h
    refine jv (.own 0 0 v5) (cy (I0 32 (.slc 2 (.t 30) none (some (.t 31)) none))) (ok_slco_hi (j := v5) rfl rfl rfl rfl c5) rfl ?_
    refine rn 1 [(0, eS 6 eTask a0), (1, .own 0 0 a1.length), (17, .own 0 0 a1.length), (18, vi (a1.length : Int)), (19, vi v5), (7, .ptr 1 0 0), (32, .own 0 0 v5), (33, .fn (.func 95) [] [.ptr 1 0 0])] [some (.row 2 (List.map eFinding a1)), some (.row 2 [.agg [vt ((ix a1 v5).Name), eS 1 vt ((ix a1 v5).Tasks)]])] ?_
    obtain ⟨y7, hy7, h⟩ := bind_some h
    refine RegJ.op (Op1.call (y' := vb y7) (obx := [some (.row 2 (List.map eFinding a1)), some (.row 2 [.agg [vt ((ix a1 v5).Name), eS 1 vt ((ix a1 v5).Tasks)]])]) (oby := [some (.row 2 (List.map eFinding a1)), some (.row 2 [.agg [vt ((ix a1 v5).Name), eS 1 vt ((ix a1 v5).Tasks)]])]) (ob2 := [some (.row 2 (List.map eFinding a1)), some (.row 2 [.agg [vt ((ix a1 v5).Name), eS 1 vt ((ix a1 v5).Tasks)]])]) _ _ (cy (I0 34 (.call 94 [(.t 32), (.t 33)]))) rfl (slices_ContainsFunc_Finding_ok n a1 0 v5 ((ix a1 v5).Name) ((ix a1 v5).Tasks) y7 hy7) [0, 1] (by kernel_rfl) (.cons rfl (.cons rfl (.cons rfl .nil))) (by kernel_rfl) (by kernel_rfl) (.same (row_ren eFinding_frz _ _ _) (.cons rfl .nil)) (by kernel_rfl) (.same (row_ren eFinding_frz _ _ _) (.cons rfl .nil)) (by kernel_rfl)) ?_
    refine jq 1 [(0, eS 6 eTask a0), (1, .own 0 0 a1.length), (17, .own 0 0 a1.length), (18, vi (a1.length : Int)), (19, vi v5), (7, .ptr 1 0 0), (29, vb y7)] [some (.row 2 (List.map eFinding a1)), some (.row 2 [.agg [vt ((ix a1 v5).Name), eS 1 vt ((ix a1 v5).Tasks)]])] ?_
    refine TriE.cond (b := y7) rfl (fun c6 => ?_) (fun c6 => ?_)
    · have h := cond_t h c6
      refine sr [(4, vi 5)] [some (.row 2 (List.map eFinding a1)), some (.row 2 [.agg [vt ((ix a1 v5).Name), eS 1 vt ((ix a1 v5).Tasks)]])] ?_
      refine TriE.ret ?_
      have h := Option.some.inj h
      subst h
      exact DoneS.ret (S' := ⟨[(4, vi 5)], [some (.row 2 (List.map eFinding a1))]⟩) (sc [0] (by decide) (by kernel_rfl) (obRen_row eFinding_frz rfl .nil) rfl rfl) rfl rfl
    have h := cond_f h c6
    refine sj ?_
    refine rn 2 [(0, eS 6 eTask a0), (1, .own 0 0 a1.length), (17, .own 0 0 a1.length), (18, vi (a1.length : Int)), (19, vi v5), (7, .ptr 1 0 0), (37, eS 1 vt ((ix a1 v5).Tasks))] [some (.row 2 (List.map eFinding a1)), some (.row 2 [.agg [vt ((ix a1 v5).Name), eS 1 vt ((ix a1 v5).Tasks)]])] ?_
    refine jv (vi ((((ix a1 v5).Tasks).length : Nat) : Int)) (cy (I0 38 (.len 0 (.t 37)))) (ok_len_m rfl) rfl ?_
    refine jv (vb (decide (20 < (((ix a1 v5).Tasks).length)))) (cy (I0 39 (.bin .gtr false (.t 38) (.c (.p (.int .i64 20)))))) (n_gtr (i := ((ix a1 v5).Tasks).length) (j := 20) rfl rfl) rfl ?_
    refine jq 1 [(0, eS 6 eTask a0), (1, .own 0 0 a1.length), (17, .own 0 0 a1.length), (18, vi (a1.length : Int)), (19, vi v5), (7, .ptr 1 0 0), (35, vb (decide (20 < (((ix a1 v5).Tasks).length))))] [some (.row 2 (List.map eFinding a1)), some (.row 2 [.agg [vt ((ix a1 v5).Name), eS 1 vt ((ix a1 v5).Tasks)]])] ?_
    refine TriE.cond (b := decide (20 < (((ix a1 v5).Tasks).length))) rfl (fun c7 => ?_) (fun c7 => ?_)
    · have h := cond_t h c7
      refine sr [(4, vi 8)] [some (.row 2 (List.map eFinding a1)), some (.row 2 [.agg [vt ((ix a1 v5).Name), eS 1 vt ((ix a1 v5).Tasks)]])] ?_
      refine TriE.ret ?_
      have h := Option.some.inj h
      subst h
      exact DoneS.ret (S' := ⟨[(4, vi 8)], [some (.row 2 (List.map eFinding a1))]⟩) (sc [0] (by decide) (by kernel_rfl) (obRen_row eFinding_frz rfl .nil) rfl rfl) rfl rfl
    have h := cond_f h c7
    refine TriE.skip ?_
    refine sj ?_
    refine rn 3 [(0, eS 6 eTask a0), (1, .own 0 0 a1.length), (17, .own 0 0 a1.length), (18, vi (a1.length : Int)), (19, vi v5), (40, eS 6 eTask a0), (42, eS 1 vt ((ix a1 v5).Tasks))] [some (.row 2 (List.map eFinding a1)), some (.row 2 [.agg [vt ((ix a1 v5).Name), eS 1 vt ((ix a1 v5).Tasks)]])] ?_
    obtain ⟨y8, hy8, h⟩ := bind_some h
    refine RegJ.op (Op1.call (y' := vi y8) (obx := []) (oby := []) (ob2 := [some (.row 2 (List.map eFinding a1)), some (.row 2 [.agg [vt ((ix a1 v5).Name), eS 1 vt ((ix a1 v5).Tasks)]])]) _ _ (cy (I0 43 (.call 96 [(.t 40), (.t 42)]))) rfl (restore_list_known_ok n a0 ((ix a1 v5).Tasks) y8 hy8) [] (by kernel_rfl) (.cons rfl (.cons rfl (.cons rfl .nil))) (by kernel_rfl) (by kernel_rfl) ObsRen.nil (by kernel_rfl) ObsRen.nil (by kernel_rfl)) ?_
    refine jq 1 [(0, eS 6 eTask a0), (1, .own 0 0 a1.length), (17, .own 0 0 a1.length), (18, vi (a1.length : Int)), (19, vi v5), (8, vi y8)] [some (.row 2 (List.map eFinding a1)), some (.row 2 [.agg [vt ((ix a1 v5).Name), eS 1 vt ((ix a1 v5).Tasks)]])] ?_
    refine sr [(0, eS 6 eTask a0), (1, .own 0 0 a1.length), (17, .own 0 0 a1.length), (18, vi (a1.length : Int)), (19, vi v5), (8, vi y8), (45, vb (y8 != (0 : Int)))] [some (.row 2 (List.map eFinding a1)), some (.row 2 [.agg [vt ((ix a1 v5).Name), eS 1 vt ((ix a1 v5).Tasks)]])] ?_
    refine TriE.cond (b := (y8 != (0 : Int))) rfl (fun c8 => ?_) (fun c8 => ?_)
    · have h := cond_t h c8
      refine sr [(4, vi y8)] [some (.row 2 (List.map eFinding a1)), some (.row 2 [.agg [vt ((ix a1 v5).Name), eS 1 vt ((ix a1 v5).Tasks)]])] ?_
      refine TriE.ret ?_
      have h := Option.some.inj h
      subst h
      exact DoneS.ret (S' := ⟨[(4, vi y8)], [some (.row 2 (List.map eFinding a1))]⟩) (sc [0] (by decide) (by kernel_rfl) (obRen_row eFinding_frz rfl .nil) rfl rfl) rfl rfl
    have h := cond_f h c8
    refine TriE.skip ?_
    refine TriE.regJ ?_
    obtain ⟨c9, h⟩ := chk_some h
    refine jv (vi ((v5 + 1 : Nat) : Int)) (cy (I0 47 (.bin .add false (.t 19) (.c (.p (.int .i64 1)))))) (r_addn (i := v5) (j := 1) rfl rfl c9) rfl ?_
    refine jq 1 [(0, eS 6 eTask a0), (1, .own 0 0 a1.length), (17, .own 0 0 a1.length), (18, vi (a1.length : Int)), (19, vi ((v5 + 1 : Nat) : Int))] [some (.row 2 (List.map eFinding a1)), some (.row 2 [.agg [vt ((ix a1 v5).Name), eS 1 vt ((ix a1 v5).Tasks)]])] ?_
    exact Vs.intro (sc [0] (by decide) (by kernel_rfl) (obRen_row eFinding_frz rfl .nil) rfl rfl) ⟨(v5 + 1), rfl, h⟩
  have h := cond_f h c3
  refine TriE.exit ?_
  exact Vs.intro sy ⟨(), rfl, h⟩
theorem agrafferef08_CheckFindings_ok (n : Nat) (a0 : List Task) (a1 : List Finding) (r : Int) (h : agrafferef08_CheckFindings n a0 a1 = some r) : FnL Tryz.prog 26 [eS 6 eTask a0, eS 2 eFinding a1] [] (vi r) [] := by
  dsimp only [agrafferef08_CheckFindings] at h
  refine FnL.ofS (ts := [4]) Tryz.call26 Tryz.func26 rfl rfl (Nat.le_of_ble_eq_true rfl) (Nat.le_of_ble_eq_true rfl) (fun j h => absurd h (Nat.not_lt_zero j)) ?_
  refine sr [(0, eS 6 eTask a0), (1, eS 2 eFinding a1)] [] ?_
  refine TriE.seq ?_
  refine sj ?_
  refine rn 1 [(0, eS 6 eTask a0), (1, eS 2 eFinding a1), (9, eS 6 eTask a0)] [] ?_
  obtain ⟨y1, hy1, h⟩ := bind_some h
  refine RegJ.op (Op1.call (y' := vi y1) (obx := []) (oby := []) (ob2 := []) _ _ (cy (I0 10 (.call 21 [(.t 9)]))) rfl (agrafferef08_CheckTasks_ok n a0 y1 hy1) [] (by kernel_rfl) (.cons rfl (.cons rfl .nil)) (by kernel_rfl) (by kernel_rfl) ObsRen.nil (by kernel_rfl) ObsRen.nil (by kernel_rfl)) ?_
  refine jq 1 [(0, eS 6 eTask a0), (1, eS 2 eFinding a1), (5, vi y1)] [] ?_
  refine sr [(0, eS 6 eTask a0), (1, eS 2 eFinding a1), (5, vi y1), (12, vb (y1 != (0 : Int)))] [] ?_
  refine TriE.cond (b := (y1 != (0 : Int))) rfl (fun c1 => ?_) (fun c1 => ?_)
  · have h := cond_t h c1
    refine sr [(4, vi y1)] [] ?_
    refine TriE.ret ?_
    have h := Option.some.inj h
    subst h
    exact DoneS.ret (S' := ⟨[(4, vi y1)], []⟩) Sees.refl rfl rfl
  have h := cond_f h c1
  refine TriE.skip ?_
  refine TriE.seq ?_
  refine sj ?_
  refine rn 1 [(0, eS 6 eTask a0), (1, eS 2 eFinding a1), (14, eS 2 eFinding a1)] [] ?_
  refine jv (vi (a1.length : Int)) (cy (I0 15 (.len 0 (.t 14)))) (ok_len_m rfl) rfl ?_
  refine jv (vb (decide (40 < a1.length))) (cy (I0 16 (.bin .gtr false (.t 15) (.c (.p (.int .i64 40)))))) (n_gtr (i := a1.length) (j := 40) rfl rfl) rfl ?_
  refine jp [(0, eS 6 eTask a0), (1, eS 2 eFinding a1), (16, vb (decide (40 < a1.length)))] ?_
  refine TriE.cond (b := decide (40 < a1.length)) rfl (fun c2 => ?_) (fun c2 => ?_)
  · have h := cond_t h c2
    refine sr [(4, vi 8)] [] ?_
    refine TriE.ret ?_
    have h := Option.some.inj h
    subst h
    exact DoneS.ret (S' := ⟨[(4, vi 8)], []⟩) Sees.refl rfl rfl
  have h := cond_f h c2
  refine TriE.skip ?_
  refine sr [(0, eS 6 eTask a0), (1, eS 2 eFinding a1), (6, .emp)] [] ?_
  refine TriE.seqK h (fun (_ : Unit) => St.mk [] []) ?_ ?_
  · rintro ⟨⟩ h
    refine sr [(4, vi 0)] [] ?_
    refine TriE.ret ?_
    have h := Option.some.inj h
    subst h
    exact DoneS.ret (S' := ⟨[(4, vi 0)], []⟩) Sees.refl rfl rfl
  intro k1 h
  refine sr [(0, eS 6 eTask a0), (1, eS 2 eFinding a1), (6, .emp), (7, vi 0)] [] ?_
  refine TriE.block ?_
  refine TriE.sees (S' := ⟨[(0, eS 6 eTask a0), (1, eS 2 eFinding a1), (6, .own 0 0 ([] : List Str).length), (7, vi 0)], [some (.row 1 (List.map vt ([] : List Str)))]⟩) (Sees.trans (Sees.co (fr' := [(0, eS 6 eTask a0), (1, eS 2 eFinding a1), (6, .own 0 0 0), (7, vi 0)]) (ob' := []) (.cons .same (.cons .same (.cons .own (.cons .same .nil)))) ObCo.nil 1) sy) ?_
  refine TriE.loopN h (fun (t : (List Str) × Nat) => match t with | (v5, v6) => St.mk [(0, eS 6 eTask a0), (1, eS 2 eFinding a1), (6, .own 0 0 v5.length), (7, vi v6)] [some (.row 1 (List.map vt v5))]) rfl ?_
  clear h
  rintro back ⟨v5, v6⟩ h
  dsimp only [agrafferef08_CheckFindings_L1] at h
  refine TriE.seq ?_
  refine sj ?_
  refine rn 2 [(0, eS 6 eTask a0), (1, eS 2 eFinding a1), (6, .own 0 0 v5.length), (7, vi v6), (17, vi v6), (18, eS 2 eFinding a1)] [some (.row 1 (List.map vt v5))] ?_
  refine jv (vi (a1.length : Int)) (cy (I0 19 (.len 0 (.t 18)))) (ok_len_m rfl) rfl ?_
  refine jv (vb (decide (v6 < a1.length))) (cy (I0 20 (.bin .lss false (.t 17) (.t 19)))) (n_lss (i := v6) (j := a1.length) rfl rfl) rfl ?_
  refine jp [(0, eS 6 eTask a0), (1, eS 2 eFinding a1), (6, .own 0 0 v5.length), (7, vi v6), (20, vb (decide (v6 < a1.length)))] ?_
  refine TriE.cond (b := decide (v6 < a1.length)) rfl (fun c3 => ?_) (fun c3 => ?_)
  · have h := cond_t h c3
    refine TriE.skip ?_
    refine TriE.seq ?_
    refine TriE.block ?_
    refine TriE.seq ?_
    refine sj ?_
    refine rn 2 [(0, eS 6 eTask a0), (1, eS 2 eFinding a1), (6, .own 0 0 v5.length), (7, vi v6), (23, eS 2 eFinding a1), (24, vi v6)] [some (.row 1 (List.map vt v5))] ?_
    refine jv (.fptr 2 (List.map eFinding a1) v6 0) (cy (I0 25 (.iaddr 2 (.t 23) (.t 24)))) (ok_iaddr_m (j := v6) rfl rfl rfl c3) rfl ?_
    refine rn 1 [(0, eS 6 eTask a0), (1, eS 2 eFinding a1), (6, .own 0 0 v5.length), (7, vi v6), (26, .fptr 2 (List.map eFinding a1) v6 0)] [some (.row 1 (List.map vt v5))] ?_
    refine jv (vt ((ix a1 v6).Name)) (cy (I0 27 (.load false 1 (.t 26)))) (ok_load_fm (v := vt ((ix a1 v6).Name)) rfl c3 rfl) rfl ?_
    obtain ⟨y7, hy7, h⟩ := bind_some h
    refine RegJ.op (Op1.call (y' := vb y7) (obx := []) (oby := []) (ob2 := [some (.row 1 (List.map vt v5))]) _ _ (cy (I0 28 (.call 92 [(.t 27)]))) rfl (agraffebase_IsName_ok n ((ix a1 v6).Name) y7 hy7) [] (by kernel_rfl) (.cons rfl (.cons rfl .nil)) (by kernel_rfl) (by kernel_rfl) ObsRen.nil (by kernel_rfl) ObsRen.nil (by kernel_rfl)) ?_
    refine jq 1 [(0, eS 6 eTask a0), (1, eS 2 eFinding a1), (6, .own 0 0 v5.length), (7, vi v6), (29, vb (!y7))] [some (.row 1 (List.map vt v5))] ?_
    refine TriE.cond (b := !y7) rfl (fun c4 => ?_) (fun c4 => ?_)
    · have h := cond_t h c4
      refine sr [(4, vi 4)] [some (.row 1 (List.map vt v5))] ?_
      refine TriE.ret ?_
      have h := Option.some.inj h
      subst h
      exact DoneS.ret (S' := ⟨[(4, vi 4)], []⟩) (sc [] (by decide) (by kernel_rfl) ObRen.nil rfl rfl) rfl rfl
    have h := cond_f h c4
    refine TriE.skip ?_
    refine TriE.seq ?_
    refine sj ?_
    refine rn 3 [(0, eS 6 eTask a0), (1, eS 2 eFinding a1), (6, .own 0 0 v5.length), (7, vi v6), (30, .own 0 0 v5.length), (31, eS 2 eFinding a1), (32, vi v6)] [some (.row 1 (List.map vt v5))] ?_
    refine jv (.fptr 2 (List.map eFinding a1) v6 0) (cy (I0 33 (.iaddr 2 (.t 31) (.t 32)))) (ok_iaddr_m (j := v6) rfl rfl rfl c3) rfl ?_
    refine rn 1 [(0, eS 6 eTask a0), (1, eS 2 eFinding a1), (6, .own 0 0 v5.length), (7, vi v6), (30, .own 0 0 v5.length), (34, .fptr 2 (List.map eFinding a1) v6 0)] [some (.row 1 (List.map vt v5))] ?_
    refine jv (vt ((ix a1 v6).Name)) (cy (I0 35 (.load false 1 (.t 34)))) (ok_load_fm (v := vt ((ix a1 v6).Name)) rfl c3 rfl) rfl ?_
    obtain ⟨y8, hy8, h⟩ := bind_some h
    refine RegJ.op (Op1.call (y' := vb y8) (obx := [some (.row 1 (List.map vt v5))]) (oby := [some (.row 1 (List.map vt v5))]) (ob2 := [some (.row 1 (List.map vt v5))]) _ _ (cy (I0 36 (.call 81 [(.t 30), (.t 35)]))) rfl (agraffebase_HasText_2_ok n v5 ((ix a1 v6).Name) y8 hy8) [0] (by kernel_rfl) (.cons rfl (.cons rfl (.cons rfl .nil))) (by kernel_rfl) (by kernel_rfl) (.same (row_ren vt_frz _ _ _) .nil) (by kernel_rfl) (.same (row_ren vt_frz _ _ _) .nil) (by kernel_rfl)) ?_
    refine jp [(0, eS 6 eTask a0), (1, eS 2 eFinding a1), (6, .own 0 0 v5.length), (7, vi v6), (36, vb y8)] ?_
    refine TriE.cond (b := y8) rfl (fun c5 => ?_) (fun c5 => ?_)
    · have h := cond_t h c5
      refine sr [(4, vi 5)] [some (.row 1 (List.map vt v5))] ?_
      refine TriE.ret ?_
      have h := Option.some.inj h
      subst h
      exact DoneS.ret (S' := ⟨[(4, vi 5)], []⟩) (sc [] (by decide) (by kernel_rfl) ObRen.nil rfl rfl) rfl rfl
    have h := cond_f h c5
    refine TriE.skip ?_
    refine sj ?_
    refine rn 3 [(0, eS 6 eTask a0), (1, eS 2 eFinding a1), (7, vi v6), (37, .own 0 0 v5.length), (38, eS 2 eFinding a1), (39, vi v6)] [some (.row 1 (List.map vt v5))] ?_
    refine jv (.fptr 2 (List.map eFinding a1) v6 0) (cy (I0 40 (.iaddr 2 (.t 38) (.t 39)))) (ok_iaddr_m (j := v6) rfl rfl rfl c3) rfl ?_
    refine rn 1 [(0, eS 6 eTask a0), (1, eS 2 eFinding a1), (7, vi v6), (37, .own 0 0 v5.length), (41, .fptr 2 (List.map eFinding a1) v6 0)] [some (.row 1 (List.map vt v5))] ?_
    refine jv (vt ((ix a1 v6).Name)) (cy (I0 42 (.load false 1 (.t 41)))) (ok_load_fm (v := vt ((ix a1 v6).Name)) rfl c3 rfl) rfl ?_
    refine rn 1 [(0, eS 6 eTask a0), (1, eS 2 eFinding a1), (7, vi v6), (37, .own 0 0 v5.length), (43, .own 1 0 1)] [some (.row 1 (List.map vt v5)), some (.row 1 [vt ((ix a1 v6).Name)])] ?_
    obtain ⟨c6, h⟩ := chk_some h
    refine je (.own 2 0 ((v5 ++ ([(ix a1 v6).Name] : List Str)).length)) [none, some (.row 1 [vt ((ix a1 v6).Name)]), some (.row 1 (List.map vt (v5 ++ ([(ix a1 v6).Name] : List Str))))] (cy (I0 44 (.app 1 16 (.t 37) (.t 43)))) (ok_app_own (l := v5) (l2 := ([(ix a1 v6).Name] : List Str)) (e := vt) (u := .own 1 0 1) rfl rfl rfl rfl rfl c6) rfl rfl rfl ?_
    refine jq 1 [(0, eS 6 eTask a0), (1, eS 2 eFinding a1), (7, vi v6), (6, .own 2 0 ((v5 ++ ([(ix a1 v6).Name] : List Str)).length))] [none, some (.row 1 [vt ((ix a1 v6).Name)]), some (.row 1 (List.map vt (v5 ++ ([(ix a1 v6).Name] : List Str))))] ?_
    refine TriE.seq ?_
    refine sj ?_
    refine rn 2 [(0, eS 6 eTask a0), (1, eS 2 eFinding a1), (7, vi v6), (6, .own 2 0 ((v5 ++ ([(ix a1 v6).Name] : List Str)).length)), (45, eS 2 eFinding a1), (46, vi v6)] [none, some (.row 1 [vt ((ix a1 v6).Name)]), some (.row 1 (List.map vt (v5 ++ ([(ix a1 v6).Name] : List Str))))] ?_
    refine jv (.fptr 2 (List.map eFinding a1) v6 0) (cy (I0 47 (.iaddr 2 (.t 45) (.t 46)))) (ok_iaddr_m (j := v6) rfl rfl rfl c3) rfl ?_
    refine rn 1 [(0, eS 6 eTask a0), (1, eS 2 eFinding a1), (7, vi v6), (6, .own 2 0 ((v5 ++ ([(ix a1 v6).Name] : List Str)).length)), (48, .fptr 2 (List.map eFinding a1) v6 1)] [none, some (.row 1 [vt ((ix a1 v6).Name)]), some (.row 1 (List.map vt (v5 ++ ([(ix a1 v6).Name] : List Str))))] ?_
    refine jv (eS 1 vt ((ix a1 v6).Tasks)) (cy (I0 49 (.load false 1 (.t 48)))) (ok_load_fm (v := eS 1 vt ((ix a1 v6).Tasks)) rfl c3 rfl) rfl ?_
    refine jv (vi ((((ix a1 v6).Tasks).length : Nat) : Int)) (cy (I0 50 (.len 0 (.t 49)))) (ok_len_m rfl) rfl ?_
    refine jv (vb (decide (20 < (((ix a1 v6).Tasks).length)))) (cy (I0 51 (.bin .gtr false (.t 50) (.c (.p (.int .i64 20)))))) (n_gtr (i := ((ix a1 v6).Tasks).length) (j := 20) rfl rfl) rfl ?_
    refine jp [(0, eS 6 eTask a0), (1, eS 2 eFinding a1), (7, vi v6), (6, .own 2 0 ((v5 ++ ([(ix a1 v6).Name] : List Str)).length)), (51, vb (decide (20 < (((ix a1 v6).Tasks).length))))] ?_
    refine TriE.cond (b := decide (20 < (((ix a1 v6).Tasks).length))) rfl (fun c7 => ?_) (fun c7 => ?_)
    · have h := cond_t h c7
      refine sr [(4, vi 8)] [none, some (.row 1 [vt ((ix a1 v6).Name)]), some (.row 1 (List.map vt (v5 ++ ([(ix a1 v6).Name] : List Str))))] ?_
      refine TriE.ret ?_
      have h := Option.some.inj h
      subst h
      exact DoneS.ret (S' := ⟨[(4, vi 8)], []⟩) (sc [] (by decide) (by kernel_rfl) ObRen.nil rfl rfl) rfl rfl
    have h := cond_f h c7
    refine TriE.skip ?_
    refine sj ?_
    refine rn 3 [(0, eS 6 eTask a0), (1, eS 2 eFinding a1), (7, vi v6), (6, .own 2 0 ((v5 ++ ([(ix a1 v6).Name] : List Str)).length)), (52, eS 6 eTask a0), (53, eS 2 eFinding a1), (54, vi v6)] [none, some (.row 1 [vt ((ix a1 v6).Name)]), some (.row 1 (List.map vt (v5 ++ ([(ix a1 v6).Name] : List Str))))] ?_
    refine jv (.fptr 2 (List.map eFinding a1) v6 0) (cy (I0 55 (.iaddr 2 (.t 53) (.t 54)))) (ok_iaddr_m (j := v6) rfl rfl rfl c3) rfl ?_
    refine rn 1 [(0, eS 6 eTask a0), (1, eS 2 eFinding a1), (7, vi v6), (6, .own 2 0 ((v5 ++ ([(ix a1 v6).Name] : List Str)).length)), (52, eS 6 eTask a0), (56, .fptr 2 (List.map eFinding a1) v6 1)] [none, some (.row 1 [vt ((ix a1 v6).Name)]), some (.row 1 (List.map vt (v5 ++ ([(ix a1 v6).Name] : List Str))))] ?_
    refine jv (eS 1 vt ((ix a1 v6).Tasks)) (cy (I0 57 (.load false 1 (.t 56)))) (ok_load_fm (v := eS 1 vt ((ix a1 v6).Tasks)) rfl c3 rfl) rfl ?_
    obtain ⟨y9, hy9, h⟩ := bind_some h
    refine RegJ.op (Op1.call (y' := vi y9) (obx := []) (oby := []) (ob2 := [none, some (.row 1 [vt ((ix a1 v6).Name)]), some (.row 1 (List.map vt (v5 ++ ([(ix a1 v6).Name] : List Str))))]) _ _ (cy (I0 58 (.call 97 [(.t 52), (.t 57)]))) rfl (agrafferef08_tasks_ok n a0 ((ix a1 v6).Tasks) y9 hy9) [] (by kernel_rfl) (.cons rfl (.cons rfl (.cons rfl .nil))) (by kernel_rfl) (by kernel_rfl) ObsRen.nil (by kernel_rfl) ObsRen.nil (by kernel_rfl)) ?_
    refine jq 1 [(0, eS 6 eTask a0), (1, eS 2 eFinding a1), (7, vi v6), (6, .own 2 0 ((v5 ++ ([(ix a1 v6).Name] : List Str)).length)), (8, vi y9)] [none, some (.row 1 [vt ((ix a1 v6).Name)]), some (.row 1 (List.map vt (v5 ++ ([(ix a1 v6).Name] : List Str))))] ?_
    refine sr [(0, eS 6 eTask a0), (1, eS 2 eFinding a1), (7, vi v6), (6, .own 2 0 ((v5 ++ ([(ix a1 v6).Name] : List Str)).length)), (8, vi y9), (60, vb (y9 != (0 : Int)))] [none, some (.row 1 [vt ((ix a1 v6).Name)]), some (.row 1 (List.map vt (v5 ++ ([(ix a1 v6).Name] : List Str))))] ?_
    refine TriE.cond (b := (y9 != (0 : Int))) rfl (fun c8 => ?_) (fun c8 => ?_)
    · have h := cond_t h c8
      refine sr [(4, vi y9)] [none, some (.row 1 [vt ((ix a1 v6).Name)]), some (.row 1 (List.map vt (v5 ++ ([(ix a1 v6).Name] : List Str))))] ?_
      refine TriE.ret ?_
      have h := Option.some.inj h
      subst h
      exact DoneS.ret (S' := ⟨[(4, vi y9)], []⟩) (sc [] (by decide) (by kernel_rfl) ObRen.nil rfl rfl) rfl rfl
    have h := cond_f h c8
    refine TriE.skip ?_
    refine TriE.regJ ?_
    refine rn 1 [(0, eS 6 eTask a0), (1, eS 2 eFinding a1), (6, .own 2 0 ((v5 ++ ([(ix a1 v6).Name] : List Str)).length)), (21, vi v6)] [none, some (.row 1 [vt ((ix a1 v6).Name)]), some (.row 1 (List.map vt (v5 ++ ([(ix a1 v6).Name] : List Str))))] ?_
    obtain ⟨c9, h⟩ := chk_some h
    refine jv (vi ((v6 + 1 : Nat) : Int)) (cy (I0 22 (.bin .add false (.t 21) (.c (.p (.int .i64 1)))))) (r_addn (i := v6) (j := 1) rfl rfl c9) rfl ?_
    refine jq 1 [(0, eS 6 eTask a0), (1, eS 2 eFinding a1), (6, .own 2 0 ((v5 ++ ([(ix a1 v6).Name] : List Str)).length)), (7, vi ((v6 + 1 : Nat) : Int))] [none, some (.row 1 [vt ((ix a1 v6).Name)]), some (.row 1 (List.map vt (v5 ++ ([(ix a1 v6).Name] : List Str))))] ?_
    exact Vs.intro (sc [2] (by decide) (by kernel_rfl) (obRen_row vt_frz rfl .nil) rfl rfl) ⟨((v5 ++ ([(ix a1 v6).Name] : List Str)), v6 + 1), rfl, h⟩
  have h := cond_f h c3
  refine TriE.exit ?_
  exact Vs.intro (sc [] (by decide) (by kernel_rfl) ObRen.nil rfl rfl) ⟨(), rfl, h⟩
theorem agraffelaw08_RestoreTasks_ok (n : Nat) (a0 : List Task) (a1 : List Stocked) (a2 : List Finding) (r : Bool) (h : agraffelaw08_RestoreTasks n a0 a1 a2 = some r) : FnL Tryz.prog 3 [eS 6 eTask a0, eS 3 eStocked a1, eS 2 eFinding a2] [] (vb r) [] := by
  dsimp only [agraffelaw08_RestoreTasks] at h
  refine FnL.ofS (ts := [6]) Tryz.call3 Tryz.func3 rfl rfl (Nat.le_of_ble_eq_true rfl) (Nat.le_of_ble_eq_true rfl) (fun j h => absurd h (Nat.not_lt_zero j)) ?_
  refine sr [(0, eS 6 eTask a0), (1, eS 3 eStocked a1), (2, eS 2 eFinding a2)] [] ?_
  refine TriE.seq ?_
  refine sj ?_
  obtain ⟨y1, hy1, h⟩ := bind_some h
  refine RegJ.op (Op1.call (y' := vb y1) (obx := []) (oby := []) (ob2 := []) _ _ (cy (I0 9 (.call 14 []))) rfl (agraffelaw08_awake_ok n y1 hy1) [] (by kernel_rfl) (.cons rfl .nil) (by kernel_rfl) (by kernel_rfl) ObsRen.nil (by kernel_rfl) ObsRen.nil (by kernel_rfl)) ?_
  refine jq 1 [(0, eS 6 eTask a0), (1, eS 3 eStocked a1), (2, eS 2 eFinding a2), (10, vb (!y1))] [] ?_
  refine TriE.cond (b := !y1) rfl (fun c1 => ?_) (fun c1 => ?_)
  · have h := cond_t h c1
    refine sr [(6, vb false)] [] ?_
    refine TriE.ret ?_
    have h := Option.some.inj h
    subst h
    exact DoneS.ret (S' := ⟨[(6, vb false)], []⟩) Sees.refl rfl rfl
  have h := cond_f h c1
  refine TriE.skip ?_
  refine TriE.seq ?_
  refine sj ?_
  refine rn 1 [(0, eS 6 eTask a0), (1, eS 3 eStocked a1), (2, eS 2 eFinding a2), (11, eS 6 eTask a0)] [] ?_
  obtain ⟨y2, hy2, h⟩ := bind_some h
  refine RegJ.op (Op1.call (y' := vb y2) (obx := []) (oby := []) (ob2 := []) _ _ (cy (I0 12 (.call 15 [(.t 11)]))) rfl (agraffelaw08_Few_ok n a0 y2 hy2) [] (by kernel_rfl) (.cons rfl (.cons rfl .nil)) (by kernel_rfl) (by kernel_rfl) ObsRen.nil (by kernel_rfl) ObsRen.nil (by kernel_rfl)) ?_
  refine rn 2 [(0, eS 6 eTask a0), (1, eS 3 eStocked a1), (2, eS 2 eFinding a2), (14, vb (!y2))] [] ?_
  refine RegJ.op (Op1.valk (v := eS 3 eStocked a1) _ _ (cy (IG 15 (.mov (.t 1)) 14 false)) rfl (by kernel_rfl) (fun hg => (.cons rfl .nil))) ?_
  obtain ⟨y3, hy3, h⟩ := bind_some h
  refine RegJ.op (Op1.callg (g := !(!y2)) (y' := vb y3) (obx := []) _ _ (cy (IG 16 (.call 16 [(.t 15)]) 14 false)) rfl (fun hg => agraffelaw08_stocked_ok n a1 y3 (gcall_some hy3 hg)) [] (fun hg => by kernel_rfl) (fun hg => (.cons rfl (.cons hg .nil))) (by kernel_rfl) (by kernel_rfl) ObsRen.nil (by kernel_rfl) (by kernel_rfl)) ?_
  refine RegJ.op (Op1.valk (v := vb (!y3)) _ _ (cy (IG 17 (.un .not (.t 16)) 14 false)) rfl (by kernel_rfl) (fun hg => (.cons hg .nil))) ?_
  refine RegJ.op (Op1.or (cy (I0 18 (.pick (.t 14) (.c (.p (.bool true))) (.t 17)))) rfl rfl (by first | exact hokO1 | exact hokO0 | simp)) ?_
  refine rn 1 [(0, eS 6 eTask a0), (1, eS 3 eStocked a1), (2, eS 2 eFinding a2), (19, vb ((!y2) || (!y3)))] [] ?_
  refine RegJ.op (Op1.valk (v := eS 2 eFinding a2) _ _ (cy (IG 20 (.mov (.t 2)) 19 false)) rfl (by kernel_rfl) (fun hg => (.cons rfl .nil))) ?_
  refine RegJ.op (Op1.valg (v := vi (a2.length : Int)) _ _ (cy (IG 21 (.len 0 (.t 20)) 19 false)) rfl (fun hg => (ok_len_m rfl)) (fun hg => (.cons hg .nil))) ?_
  refine RegJ.op (Op1.valg (v := vb (decide (6 < a2.length))) _ _ (cy (IG 22 (.bin .gtr false (.t 21) (.c (.p (.int .i64 6)))) 19 false)) rfl (fun hg => (n_gtr (i := a2.length) (j := 6) rfl rfl)) (fun hg => (.cons hg (.cons rfl .nil)))) ?_
  refine RegJ.op (Op1.or (cy (I0 23 (.pick (.t 19) (.c (.p (.bool true))) (.t 22)))) rfl rfl (by first | exact hokO1 | exact hokO0 | simp)) ?_
  refine jp [(0, eS 6 eTask a0), (1, eS 3 eStocked a1), (2, eS 2 eFinding a2), (23, vb (((!y2) || (!y3)) || (decide (6 < a2.length))))] ?_
  refine TriE.cond (b := ((!y2) || (!y3)) || (decide (6 < a2.length))) rfl (fun c2 => ?_) (fun c2 => ?_)
  · have h := cond_t h c2
    refine sr [(6, vb true)] [] ?_
    refine TriE.ret ?_
    have h := Option.some.inj h
    subst h
    exact DoneS.ret (S' := ⟨[(6, vb true)], []⟩) Sees.refl rfl rfl
  have h := cond_f h c2
  refine TriE.skip ?_
  refine sr [(0, eS 6 eTask a0), (1, eS 3 eStocked a1), (2, eS 2 eFinding a2), (7, .emp)] [] ?_
  refine TriE.seqK h (fun (v10 : (List Finding)) => St.mk [(0, eS 6 eTask a0), (1, eS 3 eStocked a1), (2, eS 2 eFinding a2), (7, .own 0 0 v10.length)] [some (.row 2 (List.map eFinding v10))]) ?_ ?_
  · rintro v10 h
    refine sj ?_
    refine rn 1 [(0, eS 6 eTask a0), (1, eS 3 eStocked a1), (2, eS 2 eFinding a2), (7, .own 0 0 v10.length), (61, eS 6 eTask a0)] [some (.row 2 (List.map eFinding v10))] ?_
    obtain ⟨y11, hy11, h⟩ := bind_some h
    refine RegJ.op (Op1.call (y' := eS 6 eTask y11) (obx := []) (oby := []) (ob2 := [some (.row 2 (List.map eFinding v10))]) _ _ (cy (I0 62 (.call 20 [(.t 61)]))) rfl (agraffelaw08_Copied_ok n a0 y11 hy11) [] (by kernel_rfl) (.cons rfl (.cons rfl .nil)) (by kernel_rfl) (by kernel_rfl) ObsRen.nil (by kernel_rfl) ObsRen.nil (by kernel_rfl)) ?_
    obtain ⟨y12, hy12, h⟩ := bind_some h
    refine RegJ.op (Op1.call (y' := vi y12) (obx := []) (oby := []) (ob2 := [some (.row 2 (List.map eFinding v10))]) _ _ (cy (I0 63 (.call 19 [(.t 62)]))) rfl (restore_CheckTasks_ok n y11 y12 hy12) [] (by kernel_rfl) (.cons rfl (.cons rfl .nil)) (by kernel_rfl) (by kernel_rfl) ObsRen.nil (by kernel_rfl) ObsRen.nil (by kernel_rfl)) ?_
    refine rn 1 [(0, eS 6 eTask a0), (1, eS 3 eStocked a1), (2, eS 2 eFinding a2), (7, .own 0 0 v10.length), (63, vi y12), (64, eS 6 eTask a0)] [some (.row 2 (List.map eFinding v10))] ?_
    obtain ⟨y13, hy13, h⟩ := bind_some h
    refine RegJ.op (Op1.call (y' := vi y13) (obx := []) (oby := []) (ob2 := [some (.row 2 (List.map eFinding v10))]) _ _ (cy (I0 65 (.call 21 [(.t 64)]))) rfl (agrafferef08_CheckTasks_ok n a0 y13 hy13) [] (by kernel_rfl) (.cons rfl (.cons rfl .nil)) (by kernel_rfl) (by kernel_rfl) ObsRen.nil (by kernel_rfl) ObsRen.nil (by kernel_rfl)) ?_
    refine rn 2 [(0, eS 6 eTask a0), (1, eS 3 eStocked a1), (2, eS 2 eFinding a2), (7, .own 0 0 v10.length), (67, vb (y12 == y13))] [some (.row 2 (List.map eFinding v10))] ?_
    refine RegJ.op (Op1.valk (v := eS 3 eStocked a1) _ _ (cy (IG 68 (.mov (.t 1)) 67 true)) rfl (by kernel_rfl) (fun hg => (.cons rfl .nil))) ?_
    obtain ⟨y14, hy14, h⟩ := bind_some h
    refine RegJ.op (Op1.callg (g := (y12 == y13)) (y' := eS 3 eStocked a1) (obx := []) _ _ (cy (IG 69 (.call 23 [(.t 68)]) 67 true)) rfl (fun hg => agraffelaw08_stock_ok n a1 y14 (gcall_some hy14 hg)) [] (fun hg => by kernel_rfl) (fun hg => (.cons rfl (.cons hg .nil))) (by kernel_rfl) (by kernel_rfl) ObsRen.nil (by kernel_rfl) (by kernel_rfl)) ?_
    obtain ⟨y15, hy15, h⟩ := bind_some h
    refine RegJ.op (Op1.callg (g := (y12 == y13)) (y' := vi y15) (obx := []) _ _ (cy (IG 70 (.call 22 [(.t 69)]) 67 true)) rfl (fun hg => restore_CheckStock_ok n a1 y15 (gcall_some hy15 hg)) [] (fun hg => by kernel_rfl) (fun hg => (.cons rfl (.cons hg .nil))) (by kernel_rfl) (by kernel_rfl) ObsRen.nil (by kernel_rfl) (by kernel_rfl)) ?_
    refine RegJ.op (Op1.valk (v := eS 3 eStocked a1) _ _ (cy (IG 71 (.mov (.t 1)) 67 true)) rfl (by kernel_rfl) (fun hg => (.cons rfl .nil))) ?_
    obtain ⟨y16, hy16, h⟩ := bind_some h
    refine RegJ.op (Op1.callg (g := (y12 == y13)) (y' := vi y16) (obx := []) _ _ (cy (IG 72 (.call 24 [(.t 71)]) 67 true)) rfl (fun hg => agrafferef08_CheckStock_ok n a1 y16 (gcall_some hy16 hg)) [] (fun hg => by kernel_rfl) (fun hg => (.cons rfl (.cons hg .nil))) (by kernel_rfl) (by kernel_rfl) ObsRen.nil (by kernel_rfl) (by kernel_rfl)) ?_
    refine RegJ.op (Op1.valk (v := vb (y15 == y16)) _ _ (cy (IG 73 (.bin .eql false (.t 70) (.t 72)) 67 true)) rfl (by kernel_rfl) (fun hg => (.cons hg (.cons hg .nil)))) ?_
    refine RegJ.op (Op1.and (cy (I0 74 (.pick (.t 67) (.t 73) (.c (.p (.bool false)))))) rfl rfl (by first | exact hokA1 | exact hokA0 | simp)) ?_
    refine rn 1 [(0, eS 6 eTask a0), (2, eS 2 eFinding a2), (7, .own 0 0 v10.length), (75, vb ((y12 == y13) && (y15 == y16)))] [some (.row 2 (List.map eFinding v10))] ?_
    refine RegJ.op (Op1.valk (v := eS 6 eTask a0) _ _ (cy (IG 76 (.mov (.t 0)) 75 true)) rfl (by kernel_rfl) (fun hg => (.cons rfl .nil))) ?_
    obtain ⟨y17, hy17, h⟩ := bind_some h
    refine RegJ.op (Op1.callg (g := (y12 == y13) && (y15 == y16)) (y' := eS 6 eTask y17) (obx := []) _ _ (cy (IG 77 (.call 20 [(.t 76)]) 75 true)) rfl (fun hg => agraffelaw08_Copied_ok n a0 y17 (gcall_some hy17 hg)) [] (fun hg => by kernel_rfl) (fun hg => (.cons rfl (.cons hg .nil))) (by kernel_rfl) (by kernel_rfl) ObsRen.nil (by kernel_rfl) (by kernel_rfl)) ?_
    refine RegJ.op (Op1.valk (v := .own 0 0 v10.length) _ _ (cy (IG 78 (.mov (.t 7)) 75 true)) rfl (by kernel_rfl) (fun hg => (.cons rfl .nil))) ?_
    obtain ⟨y18, hy18, h⟩ := bind_some h
    refine RegJ.op (Op1.callg (g := (y12 == y13) && (y15 == y16)) (y' := vi y18) (obx := [some (.row 2 (List.map eFinding v10))]) _ _ (cy (IG 79 (.call 25 [(.t 77), (.t 78)]) 75 true)) rfl (fun hg => restore_CheckFindings_ok n y17 v10 y18 (gcall_some hy18 hg)) [0] (fun hg => by kernel_rfl) (fun hg => (.cons rfl (.cons hg (.cons hg .nil)))) (by kernel_rfl) (by kernel_rfl) (.same (row_ren eFinding_frz _ _ _) .nil) (by kernel_rfl) (by kernel_rfl)) ?_
    refine RegJ.op (Op1.valk (v := eS 6 eTask a0) _ _ (cy (IG 80 (.mov (.t 0)) 75 true)) rfl (by kernel_rfl) (fun hg => (.cons rfl .nil))) ?_
    refine RegJ.op (Op1.valk (v := eS 2 eFinding a2) _ _ (cy (IG 81 (.mov (.t 2)) 75 true)) rfl (by kernel_rfl) (fun hg => (.cons rfl .nil))) ?_
    obtain ⟨y19, hy19, h⟩ := bind_some h
    refine RegJ.op (Op1.callg (g := (y12 == y13) && (y15 == y16)) (y' := vi y19) (obx := []) _ _ (cy (IG 82 (.call 26 [(.t 80), (.t 81)]) 75 true)) rfl (fun hg => agrafferef08_CheckFindings_ok n a0 a2 y19 (gcall_some hy19 hg)) [] (fun hg => by kernel_rfl) (fun hg => (.cons rfl (.cons hg (.cons hg .nil)))) (by kernel_rfl) (by kernel_rfl) ObsRen.nil (by kernel_rfl) (by kernel_rfl)) ?_
    refine RegJ.op (Op1.valk (v := vb (y18 == y19)) _ _ (cy (IG 83 (.bin .eql false (.t 79) (.t 82)) 75 true)) rfl (by kernel_rfl) (fun hg => (.cons hg (.cons hg .nil)))) ?_
    refine RegJ.op (Op1.and (cy (I0 84 (.pick (.t 75) (.t 83) (.c (.p (.bool false)))))) rfl rfl (by first | exact hokA1 | exact hokA0 | simp)) ?_
    refine jq 1 [(6, vb (((y12 == y13) && (y15 == y16)) && (y18 == y19)))] [some (.row 2 (List.map eFinding v10))] ?_
    refine TriE.ret ?_
    have h := Option.some.inj h
    subst h
    exact DoneS.ret (S' := ⟨[(6, vb (((y12 == y13) && (y15 == y16)) && (y18 == y19)))], []⟩) (sc [] (by decide) (by kernel_rfl) ObRen.nil rfl rfl) rfl rfl
  intro k1 h
  refine sr [(0, eS 6 eTask a0), (1, eS 3 eStocked a1), (2, eS 2 eFinding a2), (7, .emp), (8, vi 0)] [] ?_
  refine TriE.block ?_
  refine TriE.sees (S' := ⟨[(0, eS 6 eTask a0), (1, eS 3 eStocked a1), (2, eS 2 eFinding a2), (7, .own 0 0 ([] : List Finding).length), (8, vi 0)], [some (.row 2 (List.map eFinding ([] : List Finding)))]⟩) (Sees.trans (Sees.co (fr' := [(0, eS 6 eTask a0), (1, eS 3 eStocked a1), (2, eS 2 eFinding a2), (7, .own 0 0 0), (8, vi 0)]) (ob' := []) (.cons .same (.cons .same (.cons .same (.cons .own (.cons .same .nil))))) ObCo.nil 2) sy) ?_
  refine TriE.loopN h (fun (t : (List Finding) × Nat) => match t with | (v6, v7) => St.mk [(0, eS 6 eTask a0), (1, eS 3 eStocked a1), (2, eS 2 eFinding a2), (7, .own 0 0 v6.length), (8, vi v7)] [some (.row 2 (List.map eFinding v6))]) rfl ?_
  clear h
  rintro back ⟨v6, v7⟩ h
  dsimp only [agraffelaw08_RestoreTasks_L1] at h
  refine TriE.seq ?_
  refine sj ?_
  refine rn 2 [(0, eS 6 eTask a0), (1, eS 3 eStocked a1), (2, eS 2 eFinding a2), (7, .own 0 0 v6.length), (8, vi v7), (24, vi v7), (25, eS 2 eFinding a2)] [some (.row 2 (List.map eFinding v6))] ?_
  refine jv (vi (a2.length : Int)) (cy (I0 26 (.len 0 (.t 25)))) (ok_len_m rfl) rfl ?_
  refine jv (vb (decide (v7 < a2.length))) (cy (I0 27 (.bin .lss false (.t 24) (.t 26)))) (n_lss (i := v7) (j := a2.length) rfl rfl) rfl ?_
  refine jp [(0, eS 6 eTask a0), (1, eS 3 eStocked a1), (2, eS 2 eFinding a2), (7, .own 0 0 v6.length), (8, vi v7), (27, vb (decide (v7 < a2.length)))] ?_
  refine TriE.cond (b := decide (v7 < a2.length)) rfl (fun c3 => ?_) (fun c3 => ?_)
  · have h := cond_t h c3
    refine TriE.skip ?_
    refine TriE.seq ?_
    refine TriE.block ?_
    refine TriE.seq ?_
    refine sj ?_
    refine rn 2 [(0, eS 6 eTask a0), (1, eS 3 eStocked a1), (2, eS 2 eFinding a2), (7, .own 0 0 v6.length), (8, vi v7), (30, eS 2 eFinding a2), (31, vi v7)] [some (.row 2 (List.map eFinding v6))] ?_
    refine jv (.fptr 2 (List.map eFinding a2) v7 0) (cy (I0 32 (.iaddr 2 (.t 30) (.t 31)))) (ok_iaddr_m (j := v7) rfl rfl rfl c3) rfl ?_
    refine rn 1 [(0, eS 6 eTask a0), (1, eS 3 eStocked a1), (2, eS 2 eFinding a2), (7, .own 0 0 v6.length), (8, vi v7), (33, .fptr 2 (List.map eFinding a2) v7 0)] [some (.row 2 (List.map eFinding v6))] ?_
    refine jv (vt ((ix a2 v7).Name)) (cy (I0 34 (.load false 1 (.t 33)))) (ok_load_fm (v := vt ((ix a2 v7).Name)) rfl c3 rfl) rfl ?_
    refine jv (vi ((((ix a2 v7).Name).length : Nat) : Int)) (cy (I0 35 (.len 1 (.t 34)))) (ok_len_t rfl) rfl ?_
    refine jv (vb (decide (20 < (((ix a2 v7).Name).length)))) (cy (I0 36 (.bin .gtr false (.t 35) (.c (.p (.int .i64 20)))))) (n_gtr (i := ((ix a2 v7).Name).length) (j := 20) rfl rfl) rfl ?_
    refine rn 1 [(0, eS 6 eTask a0), (1, eS 3 eStocked a1), (2, eS 2 eFinding a2), (7, .own 0 0 v6.length), (8, vi v7), (37, vb (decide (20 < (((ix a2 v7).Name).length))))] [some (.row 2 (List.map eFinding v6))] ?_
    refine RegJ.op (Op1.valk (v := eS 2 eFinding a2) _ _ (cy (IG 38 (.mov (.t 2)) 37 false)) rfl (by kernel_rfl) (fun hg => (.cons rfl .nil))) ?_
    refine RegJ.op (Op1.valk (v := vi v7) _ _ (cy (IG 39 (.mov (.t 8)) 37 false)) rfl (by kernel_rfl) (fun hg => (.cons rfl .nil))) ?_
    refine RegJ.op (Op1.valg (v := .fptr 2 (List.map eFinding a2) v7 0) _ _ (cy (IG 40 (.iaddr 2 (.t 38) (.t 39)) 37 false)) rfl (fun hg => (ok_iaddr_m (j := v7) rfl rfl rfl c3)) (fun hg => (.cons hg (.cons hg .nil)))) ?_
    refine RegJ.op (Op1.valk (v := .fptr 2 (List.map eFinding a2) v7 1) _ _ (cy (IG 41 (.faddr 1 (.t 40)) 37 false)) rfl (by kernel_rfl) (fun hg => (.cons hg .nil))) ?_
    refine RegJ.op (Op1.valg (v := eS 1 vt ((ix a2 v7).Tasks)) _ _ (cy (IG 42 (.load false 1 (.t 41)) 37 false)) rfl (fun hg => (ok_load_fm (v := eS 1 vt ((ix a2 v7).Tasks)) rfl c3 rfl)) (fun hg => (.cons hg .nil))) ?_
    obtain ⟨y8, hy8, h⟩ := bind_some h
    refine RegJ.op (Op1.callg (g := !(decide (20 < (((ix a2 v7).Name).length)))) (y' := vb y8) (obx := []) _ _ (cy (IG 43 (.call 17 [(.t 42), (.c (.p (.int .i64 23)))]) 37 false)) rfl (fun hg => agraffelaw08_texts_ok n ((ix a2 v7).Tasks) 23 y8 (gcall_some hy8 hg)) [] (fun hg => by kernel_rfl) (fun hg => (.cons rfl (.cons hg (.cons rfl .nil)))) (by kernel_rfl) (by kernel_rfl) ObsRen.nil (by kernel_rfl) (by kernel_rfl)) ?_
    refine RegJ.op (Op1.valk (v := vb (!y8)) _ _ (cy (IG 44 (.un .not (.t 43)) 37 false)) rfl (by kernel_rfl) (fun hg => (.cons hg .nil))) ?_
    refine RegJ.op (Op1.or (cy (I0 45 (.pick (.t 37) (.c (.p (.bool true))) (.t 44)))) rfl rfl (by first | exact hokO1 | exact hokO0 | simp)) ?_
    refine jp [(0, eS 6 eTask a0), (1, eS 3 eStocked a1), (2, eS 2 eFinding a2), (7, .own 0 0 v6.length), (8, vi v7), (45, vb ((decide (20 < (((ix a2 v7).Name).length))) || (!y8)))] ?_
    refine TriE.cond (b := (decide (20 < (((ix a2 v7).Name).length))) || (!y8)) rfl (fun c4 => ?_) (fun c4 => ?_)
    · have h := cond_t h c4
      refine sr [(6, vb true)] [some (.row 2 (List.map eFinding v6))] ?_
      refine TriE.ret ?_
      have h := Option.some.inj h
      subst h
      exact DoneS.ret (S' := ⟨[(6, vb true)], []⟩) (sc [] (by decide) (by kernel_rfl) ObRen.nil rfl rfl) rfl rfl
    have h := cond_f h c4
    refine TriE.skip ?_
    refine TriE.sees (Sees.less (fr' := [(0, eS 6 eTask a0), (1, eS 3 eStocked a1), (2, eS 2 eFinding a2), (7, .own 0 0 v6.length), (8, vi v7)]) (.cons rfl (.cons rfl (.cons rfl (.cons rfl (.cons rfl .nil)))))) ?_
    refine TriE.draw (by kernel_rfl) ?_
    refine RegD.run 3 [(48, vi v7), (47, eS 2 eFinding a2), (46, .own 0 0 v6.length), (0, eS 6 eTask a0), (1, eS 3 eStocked a1), (2, eS 2 eFinding a2), (7, .own 0 0 v6.length), (8, vi v7)] [some (.row 2 (List.map eFinding v6)), none, none, none] (by kernel_rfl) ?_
    refine dv (.fptr 2 (List.map eFinding a2) v7 0) (cy (I0 49 (.iaddr 2 (.t 47) (.t 48)))) (ok_iaddr_m (j := v7) rfl rfl rfl c3) rfl ?_
    refine RegD.run 1 [(50, .fptr 2 (List.map eFinding a2) v7 0), (49, .fptr 2 (List.map eFinding a2) v7 0), (48, vi v7), (47, eS 2 eFinding a2), (46, .own 0 0 v6.length), (0, eS 6 eTask a0), (1, eS 3 eStocked a1), (2, eS 2 eFinding a2), (7, .own 0 0 v6.length), (8, vi v7)] [some (.row 2 (List.map eFinding v6)), none, none, none, none, none] (by kernel_rfl) ?_
    refine dv (vt ((ix a2 v7).Name)) (cy (I0 51 (.load false 1 (.t 50)))) (ok_load_fm (v := vt ((ix a2 v7).Name)) rfl c3 rfl) rfl ?_
    refine RegD.run 2 [(53, vi v7), (52, eS 2 eFinding a2), (51, vt ((ix a2 v7).Name)), (50, .fptr 2 (List.map eFinding a2) v7 0), (49, .fptr 2 (List.map eFinding a2) v7 0), (48, vi v7), (47, eS 2 eFinding a2), (46, .own 0 0 v6.length), (0, eS 6 eTask a0), (1, eS 3 eStocked a1), (2, eS 2 eFinding a2), (7, .own 0 0 v6.length), (8, vi v7)] [some (.row 2 (List.map eFinding v6)), none, none, none, none, none, none, none, none] (by kernel_rfl) ?_
    refine dv (.fptr 2 (List.map eFinding a2) v7 0) (cy (I0 54 (.iaddr 2 (.t 52) (.t 53)))) (ok_iaddr_m (j := v7) rfl rfl rfl c3) rfl ?_
    refine RegD.run 1 [(55, .fptr 2 (List.map eFinding a2) v7 1), (54, .fptr 2 (List.map eFinding a2) v7 0), (53, vi v7), (52, eS 2 eFinding a2), (51, vt ((ix a2 v7).Name)), (50, .fptr 2 (List.map eFinding a2) v7 0), (49, .fptr 2 (List.map eFinding a2) v7 0), (48, vi v7), (47, eS 2 eFinding a2), (46, .own 0 0 v6.length), (0, eS 6 eTask a0), (1, eS 3 eStocked a1), (2, eS 2 eFinding a2), (7, .own 0 0 v6.length), (8, vi v7)] [some (.row 2 (List.map eFinding v6)), none, none, none, none, none, none, none, none, none, none] (by kernel_rfl) ?_
    refine dv (eS 1 vt ((ix a2 v7).Tasks)) (cy (I0 56 (.load false 1 (.t 55)))) (ok_load_fm (v := eS 1 vt ((ix a2 v7).Tasks)) rfl c3 rfl) rfl ?_
    obtain ⟨y9, hy9, h⟩ := bind_some h
    refine RegD.op (OpD.call (y' := eS 1 vt ((ix a2 v7).Tasks)) (obx := []) (oby := []) (ob2 := [some (.row 2 (List.map eFinding v6)), none, none, none, none, none, none, none, none, none, none, none, none]) (tch := []) 0 _ _ (cy (I0 57 (.call 18 [(.t 56)]))) (agraffebase_CopyTexts_ok n ((ix a2 v7).Tasks) y9 hy9) [] (by kernel_rfl) (.cons rfl (.cons rfl .nil)) (by kernel_rfl) (by kernel_rfl) ObsRen.nil (by kernel_rfl) ObsRen.nil (by kernel_rfl) rfl (.inr ⟨rfl, rfl⟩)) ?_
    refine RegD.run 2 [(59, .own 14 0 1), (58, .agg [vt ((ix a2 v7).Name), eS 1 vt ((ix a2 v7).Tasks)]), (57, eS 1 vt ((ix a2 v7).Tasks)), (56, eS 1 vt ((ix a2 v7).Tasks)), (55, .fptr 2 (List.map eFinding a2) v7 1), (54, .fptr 2 (List.map eFinding a2) v7 0), (53, vi v7), (52, eS 2 eFinding a2), (51, vt ((ix a2 v7).Name)), (50, .fptr 2 (List.map eFinding a2) v7 0), (49, .fptr 2 (List.map eFinding a2) v7 0), (48, vi v7), (47, eS 2 eFinding a2), (46, .own 0 0 v6.length), (0, eS 6 eTask a0), (1, eS 3 eStocked a1), (2, eS 2 eFinding a2), (7, .own 0 0 v6.length), (8, vi v7)] [some (.row 2 (List.map eFinding v6)), none, none, none, none, none, none, none, none, none, none, none, none, none, some (.row 2 [.agg [vt ((ix a2 v7).Name), eS 1 vt ((ix a2 v7).Tasks)]])] (by kernel_rfl) ?_
    obtain ⟨c5, h⟩ := chk_some h
    refine de (.own 15 0 ((v6 ++ ([(ix a2 v7)] : List Finding)).length)) [none, none, none, none, none, none, none, none, none, none, none, none, none, none, some (.row 2 [.agg [vt ((ix a2 v7).Name), eS 1 vt ((ix a2 v7).Tasks)]]), some (.row 2 (List.map eFinding (v6 ++ ([(ix a2 v7)] : List Finding))))] (cy (I0 60 (.app 2 40 (.t 46) (.t 59)))) (ok_app_own (l := v6) (l2 := ([(ix a2 v7)] : List Finding)) (e := eFinding) (u := .own 14 0 1) rfl rfl rfl rfl rfl c5) rfl rfl rfl ?_
    refine RegD.run 1 [(7, .own 15 0 ((v6 ++ ([(ix a2 v7)] : List Finding)).length)), (60, .own 15 0 ((v6 ++ ([(ix a2 v7)] : List Finding)).length)), (59, .own 14 0 1), (58, .agg [vt ((ix a2 v7).Name), eS 1 vt ((ix a2 v7).Tasks)]), (57, eS 1 vt ((ix a2 v7).Tasks)), (56, eS 1 vt ((ix a2 v7).Tasks)), (55, .fptr 2 (List.map eFinding a2) v7 1), (54, .fptr 2 (List.map eFinding a2) v7 0), (53, vi v7), (52, eS 2 eFinding a2), (51, vt ((ix a2 v7).Name)), (50, .fptr 2 (List.map eFinding a2) v7 0), (49, .fptr 2 (List.map eFinding a2) v7 0), (48, vi v7), (47, eS 2 eFinding a2), (46, .own 0 0 v6.length), (0, eS 6 eTask a0), (1, eS 3 eStocked a1), (2, eS 2 eFinding a2), (7, .own 0 0 v6.length), (8, vi v7)] [none, none, none, none, none, none, none, none, none, none, none, none, none, none, some (.row 2 [.agg [vt ((ix a2 v7).Name), eS 1 vt ((ix a2 v7).Tasks)]]), some (.row 2 (List.map eFinding (v6 ++ ([(ix a2 v7)] : List Finding)))), none] (by kernel_rfl) ?_
    refine RegD.done rfl (by kernel_rfl) (S' := ⟨[(0, eS 6 eTask a0), (1, eS 3 eStocked a1), (2, eS 2 eFinding a2), (8, vi v7), (7, .own 0 0 ((v6 ++ ([(ix a2 v7)] : List Finding)).length))], [some (.row 2 (List.map eFinding (v6 ++ ([(ix a2 v7)] : List Finding))))]⟩) (sc [15] (by decide) (by kernel_rfl) (obRen_row eFinding_frz rfl .nil) rfl rfl) ?_
    refine TriE.regJ ?_
    refine rn 1 [(0, eS 6 eTask a0), (1, eS 3 eStocked a1), (2, eS 2 eFinding a2), (7, .own 0 0 ((v6 ++ ([(ix a2 v7)] : List Finding)).length)), (28, vi v7)] [some (.row 2 (List.map eFinding (v6 ++ ([(ix a2 v7)] : List Finding))))] ?_
    obtain ⟨c6, h⟩ := chk_some h
    refine jv (vi ((v7 + 1 : Nat) : Int)) (cy (I0 29 (.bin .add false (.t 28) (.c (.p (.int .i64 1)))))) (r_addn (i := v7) (j := 1) rfl rfl c6) rfl ?_
    refine jq 1 [(0, eS 6 eTask a0), (1, eS 3 eStocked a1), (2, eS 2 eFinding a2), (7, .own 0 0 ((v6 ++ ([(ix a2 v7)] : List Finding)).length)), (8, vi ((v7 + 1 : Nat) : Int))] [some (.row 2 (List.map eFinding (v6 ++ ([(ix a2 v7)] : List Finding))))] ?_
    exact Vs.intro sy ⟨((v6 ++ ([(ix a2 v7)] : List Finding)), v7 + 1), rfl, h⟩
  have h := cond_f h c3
  refine TriE.exit ?_
  exact Vs.intro sy ⟨v6, rfl, h⟩
end Go.Proofs.YtcdcpambkdlhjaaGreat.As
